/- Contracts, walked by program over the engine's laws. -/
import Derived.Test.YtcgcippmbeileaaProg
import Derived.Test.YtcgcippmbeileaaT17
namespace Go.Proofs.Ytcgcippmbeileaa.L
open Go.RowKit

theorem rsame_comm (A B : List Cell22) : (decide (allL A = allL B) && decide (pagesM A = pagesM B)) = (decide (allL B = allL A) && decide (pagesM B = pagesM A)) := by
  congr 1 <;> exact decide_eq_decide.2 ⟨Eq.symm, Eq.symm⟩
theorem layA_len (L : List Cell22) (c : Act22) : (layA L c).length ≤ L.length + 1 := by unfold layA; split; exact layL_len; omega
set_option maxRecDepth 100000 in
theorem e_lays22 (A_l : Option Addr) (c_l : Nat) (l : List Act22) (w : World) (hr_l : RowAt w A_l 8 enAct22 l) (hc_l : l.length ≤ c_l) (hwf : ∀ x ∈ l, (0 ≤ x.addr ∧ x.addr ≤ 4294967295) ∧ ((0 ≤ x.x.wr ∧ x.x.wr ≤ 18446744073709551615) ∧ (0 ≤ x.x.rd ∧ x.x.rd ≤ 18446744073709551615))) : Calls Try.prog 4 #[Value.slice A_l l.length c_l] w (fun e w' => e = .returned (Value.bool true) ∧ Fr No w w') := by
 have _hu := hc_l; have _hv := hr_l; clear _hu _hv
 have _hu := hwf; clear _hu
 refine enter_E 52 Try.func4 rfl rfl (by kernel_rfl) (L := [(0, Value.slice A_l l.length c_l)]) (by kernel_rfl) ?_
 intro ac hA
 have hW := Ws.start w No
 have hW := hW.arg hr_l
 refine wp_seq ?_
 refine wp_region_lit ?_
 refine st_p (Value.bool false) hA ?_; clear hA ac; intro ac hA
 refine wpList_nil ?_
 refine thenN ?_
 refine wp_seq ?_
 refine wp_seq ?_
 refine wp_region_lit ?_
 refine st_p (Value.slice A_l l.length c_l) hA ?_; clear hA ac; intro ac hA
 refine st_p (Value.int .i64 ((l.length : Nat) : Int)) hA ?_; clear hA ac; intro ac hA
 refine st_p (Value.bool (decide ((((l.length : Nat) : Int) : Int) > (25 : Int)))) hA ?_; clear hA ac; intro ac hA
 refine wpList_nil ?_
 refine thenN ?_
 refine wp_cond_split (t := decide ((((l.length : Nat) : Int) : Int) > (25 : Int))) (hA.eval (by kernel_rfl)) (fun h1 => ?_) (fun h1 => ?_)
 · skip
   have h1 := of_decide_eq_true h1
   first
   | (exfalso; clear hA hW; omega)
   | (
     refine wp_seq ?_
     refine wp_region_lit ?_
     refine st_s hA (Runs.callN (v := Value.bool true) (fun _ => by kernel_rfl) hW (e_works22 w) ?_); clear hA ac hW; intro w2 hW hfw2 ac hA
     refine st_p (Value.bool true) hA ?_; clear hA ac; intro ac hA
     refine wpList_nil ?_
     refine thenN ?_
     refine wp_ret ?_
     refine thenR ?_
     refine ret1 (v := Value.bool true) (by rfl) hA (Got.tmp hA (by kernel_rfl) (by kernel_rfl)) ?_
     clear hA
     exact ⟨retv (by rfl), hW.fr⟩)
 · skip
   have h1 := of_decide_eq_false h1
   first
   | (exfalso; clear hA hW; omega)
   | (
     refine wp_skip ?_
     refine thenN ?_
     refine wp_seq ?_
     refine wp_region_lit ?_
     refine st_s hA (Runs.call (fun _ => by kernel_rfl) (e_snew w) ?_)
     rintro _ w3 ⟨n4, n5, rfl, hu_⟩; refine ⟨_, rfl, ?_⟩; replace hW := hW.made hu_; clear hA ac; intro ac hA
     have hq6 : Rel22 0 ([] : List Cell22) ([] : List (Int × Nat × (Nat → Shade))) := Rel22.start
     refine st_p (Value.agg #[Value.slice none 0 0]) hA ?_; clear hA ac; intro ac hA
     refine st_s hA (Runs.cells (fun b => Value.pointer (some ⟨b, 0, none⟩)) #[Value.slice none 0 0] 45 (fun _ => by kernel_rfl) hW ?_); clear hA ac hW; intro b7 w8 hW hb7 hfw8 ac hA
     refine st_p (Value.pointer (some ⟨n4, 0, none⟩)) hA ?_; clear hA ac; intro ac hA
     refine st_s hA (Runs.store (v := Value.agg #[Value.slice none 0 0]) (b := b7) (j := 0) (n := 1) (cs' := #[Value.slice none 0 0]) (H' := [Cel b7 #[Value.slice none 0 0] 45, ShR n4 n5 ([] : List (Int × Nat × (Nat → Shade)))]) (by kernel_rfl) (by kernel_rfl) (by kernel_rfl) (by kernel_rfl) (by kernel_rfl) hW 0 (by rfl) (Nat.le_of_ble_eq_true (by kernel_rfl)) (by kernel_rfl) (by rfl) ?_); clear hA ac hW; intro w9 hW ac hA
     refine wpList_nil ?_
     refine thenN ?_
     refine wp_seq ?_
     refine wp_seq ?_
     refine wp_region_lit ?_
     refine st_p (Value.int .i64 0) hA ?_; clear hA ac; intro ac hA
     refine wpList_nil ?_
     refine thenN ?_
     refine wp_block ?_
     have hW := hW.addG (roR none 8 enCell22 ([] : List Rc22)) (.inl rfl) (by simp [roR]) (by simp [roR])
     refine wp_loop_m (fun m_ ac_ wl_ => ∃ k : Nat, ∃ V : VT22, ∃ L : List Cell22, ∃ AL : Option Addr, ∃ cc : Nat, m_ = l.length - k ∧ (k ≤ l.length) ∧ (Rel22 k L V) ∧ (L.length ≤ cc) ∧ Fm 52 [] [(0, Value.slice A_l l.length c_l), (3, Value.pointer (some ⟨n4, 0, none⟩)), (4, Value.pointer (some ⟨b7, 0, none⟩)), (5, Value.int .i64 ((k : Nat) : Int))] ac_ ∧ Ws w No [Cel b7 #[Value.slice AL L.length cc] 45, ShR n4 n5 V] [roR AL 8 enCell22 L, roR A_l 8 enAct22 l] wl_) _ ⟨0, ([] : List (Int × Nat × (Nat → Shade))), ([] : List Rc22), none, 0, rfl, by omega, by exact Rel22.start, by simp, hA.sub ⟨⟨by kernel_rfl, by kernel_rfl⟩, ⟨by kernel_rfl, by kernel_rfl⟩, ⟨by kernel_rfl, by kernel_rfl⟩, ⟨by kernel_rfl, by kernel_rfl⟩, trivial⟩, (hW.pick [0, 1] (by decide) rfl).pickG [0, 1] rfl⟩ ?_
     clear hA ac hW; rintro m_ ac w10 ⟨k, V, L, AL, cc, rfl, hk, hR_, hcc, hA, hW⟩
     refine wp_seq ?_
     refine wp_seq ?_
     refine wp_region_lit ?_
     refine st_p (Value.int .i64 ((k : Nat) : Int)) hA ?_; clear hA ac; intro ac hA
     refine st_p (Value.slice A_l l.length c_l) hA ?_; clear hA ac; intro ac hA
     refine st_p (Value.int .i64 ((l.length : Nat) : Int)) hA ?_; clear hA ac; intro ac hA
     refine st_p (Value.bool (decide ((((k : Nat) : Int) : Int) < (((l.length : Nat) : Int) : Int)))) hA ?_; clear hA ac; intro ac hA
     refine wpList_nil ?_
     refine thenN ?_
     refine wp_cond_split (t := decide ((((k : Nat) : Int) : Int) < (((l.length : Nat) : Int) : Int))) (hA.eval (by kernel_rfl)) (fun h11 => ?_) (fun h11 => ?_)
     · skip
       have h11 := of_decide_eq_true h11
       first
       | (exfalso; clear hA hW; omega)
       | (
         refine wp_skip ?_
         refine thenN ?_
         refine wp_seq ?_
         refine wp_block ?_
         refine wp_seq ?_
         obtain ⟨y12, hy12⟩ : ∃ y, l[k]? = some y := ⟨_, List.getElem?_eq_getElem (by omega)⟩
         obtain ⟨b13, o14, rfl, hbb13⟩ := row_some ((hW).getG 1 rfl) hy12
         refine wp_cut (fun ac_ wl_ => ∃ Aor7_6 : Option Addr, ∃ br7_10 : Nat, ∃ cor7_6 : Nat, ∃ g0r7_6 : VT22, ∃ g1r7_6 : List Rc22, ((g1r7_6).length ≤ cor7_6) ∧ (g1r7_6 = layA L y12) ∧ (∀ n, Rel22 n L V → Rel22 (n + 1) (layA L y12) g0r7_6) ∧ Fm 52 [] [(0, Value.slice (some ⟨b13, o14, none⟩) l.length c_l), (3, Value.pointer (some ⟨n4, 0, none⟩)), (4, Value.pointer (some ⟨b7, 0, none⟩)), (5, Value.int .i64 ((k : Nat) : Int)), (6, Value.pointer (some ⟨br7_10, 0, none⟩)), (7, Value.bool true), (14, Value.int .i64 ((k : Nat) : Int)), (15, Value.slice (some ⟨b13, o14, none⟩) l.length c_l), (16, Value.int .i64 ((l.length : Nat) : Int)), (17, Value.bool (decide ((((k : Nat) : Int) : Int) < (((l.length : Nat) : Int) : Int))))] ac_ ∧ Ws w No [Cel br7_10 #[Value.slice Aor7_6 (g1r7_6).length cor7_6] 45, Cel b7 #[Value.slice AL L.length cc] 45, ShR n4 n5 g0r7_6] [roR Aor7_6 8 enCell22 g1r7_6, roR AL 8 enCell22 L, roR (some ⟨b13, o14, none⟩) 8 enAct22 l] wl_) ?_ ?_
         · refine sr_region (m := 13) (C := Ws w No [Cel b7 #[Value.slice AL L.length cc] 45] [roR AL 8 enCell22 L, roR (some ⟨b13, o14, none⟩) 8 enAct22 l]) (fun i => [1, 5].contains i) (fun i => [1, 5, 10].contains i) (fun i => [0, 2, 3, 4, 7, 8, 9, 12].contains i) (by kernel_rfl) (by kernel_rfl) (by kernel_rfl) (by kernel_rfl) hW ?_; clear hW; intro w15 hW hfw15 hR; have hC : Ws w No [Cel b7 #[Value.slice AL L.length cc] 45] [roR AL 8 enCell22 L, roR (some ⟨b13, o14, none⟩) 8 enAct22 l] w15 := hW.pick [0] (by decide) rfl
           refine sr_p 0 (Value.pointer (some ⟨n4, 0, none⟩)) hR rfl hA ?_; clear hA ac; intro ac hA
           refine sr_t 1 (Value.agg #[Value.slice AL L.length cc]) hR rfl hA hC (Rd.load (b := b7) (i := 0) (by kernel_rfl) (fun _ hw => (hw).cel 0 rfl) (by kernel_rfl)) ?_; clear hA ac; intro ac hA
           refine sr_p 2 (Value.slice (some ⟨b13, o14, none⟩) l.length c_l) hR rfl hA ?_; clear hA ac; intro ac hA
           refine sr_p 3 (Value.int .i64 ((k : Nat) : Int)) hR rfl hA ?_; clear hA ac; intro ac hA
           refine sr_q 4 (Value.pointer (some ⟨b13, o14 + k * 8, none⟩)) hR rfl hA (Rd.indexAddr (e := 37) (sz := 8) (b := b13) (off := o14) (n := l.length) (c := c_l) (k := k) (by kernel_rfl) (by kernel_rfl) (by first | omega | (simp; done) | (simp; omega)) (fun _ => by kernel_rfl) (fun _ => by kernel_rfl)) ?_; clear hA ac; intro ac hA
           refine sr_t 5 (Value.agg #[Value.int .u32 y12.addr, Value.int .u64 y12.x.wr, Value.int .i64 y12.x.ws.f, Value.int .i64 y12.x.ws.pc, Value.int .u64 y12.x.rd, Value.int .i64 y12.x.rs.f, Value.int .i64 y12.x.rs.pc, Value.int .i64 y12.x.vec]) hR rfl hA hC (Rd.loadRow (b := b13) (i := o14 + k * 8) (xs := [Value.int .u32 y12.addr, Value.int .u64 y12.x.wr, Value.int .i64 y12.x.ws.f, Value.int .i64 y12.x.ws.pc, Value.int .u64 y12.x.rd, Value.int .i64 y12.x.rs.f, Value.int .i64 y12.x.rs.pc, Value.int .i64 y12.x.vec]) (by kernel_rfl) (fun _ hw => row_ld ((hw).getG 1 rfl) hy12 (Fr.refl No _) (fun h => h) 0 8 (by kernel_rfl)) (by kernel_rfl)) ?_; clear hA ac; intro ac hA
           refine sr_two (i := 6) (j := 10) (by kernel_rfl) ?_ ?_
           · skip
             refine (sr_d rfl hA (Runs.call (fun _ => by kernel_rfl) (e_lay22 n4 n5 V AL cc L y12 w15 ((hW).get 1 rfl) ((hW).lt _ (List.mem_of_getElem? (i := 1) rfl)) ((hW).getG 0 rfl) (by first | assumption | omega | (simp; omega) | simp) ((hW).gd _ (List.mem_of_getElem? (i := 0) rfl) _ (List.mem_of_getElem? (i := 1) rfl)) (by first | omega | exact ⟨_, by omega, hR_⟩ | exact ⟨_, by omega, hR2⟩ | exact hwf _ (List.mem_of_getElem? (by assumption)) | exact (hwf _ (List.mem_of_getElem? (by assumption))).1 | (simp; done) | assumption) (by first | omega | exact ⟨_, by omega, hR_⟩ | exact ⟨_, by omega, hR2⟩ | exact hwf _ (List.mem_of_getElem? (by assumption)) | exact (hwf _ (List.mem_of_getElem? (by assumption))).1 | (simp; done) | assumption)) ?_))
             rintro _ w16 ⟨g0r7_6, g1r7_6, Aor7_6, cor7_6, rfl, hr7_6_hR, hr7_6_hL, hccor7_6, hfcor7_6, hdcor7_6, hu_⟩; refine ⟨_, rfl, ?_⟩; have hW0 := hW; have hW := hW.upd (H' := [Cel b7 #[Value.slice AL L.length cc] 45, ShR n4 n5 g0r7_6]) 1 rfl hu_ rfl
             have hW := hW0.addFromU hW 1 rfl rfl hfcor7_6 (in_cons (in_at 0 rfl) in_nil) hdcor7_6
             clear hW0 hu_ hfcor7_6 hdcor7_6 hA ac; intro ac hA
             refine ⟨⟨fun h => absurd h (by decide), fun h => absurd h (by decide)⟩, ?_⟩
             refine sr_p 7 (Value.tuple #[Value.agg #[Value.slice Aor7_6 (g1r7_6).length cor7_6], Value.bool true]) hR rfl hA ?_; clear hA ac; intro ac hA
             refine sr_p 8 (Value.agg #[Value.slice Aor7_6 (g1r7_6).length cor7_6]) hR rfl hA ?_; clear hA ac; intro ac hA
             refine sr_p 9 (Value.bool true) hR rfl hA ?_; clear hA ac; intro ac hA
             refine sr_one (i := 10) (by kernel_rfl) (sr_d rfl hA (Runs.cells (fun b => Value.pointer (some ⟨b, 0, none⟩)) #[Value.slice none 0 0] 45 (fun _ => by kernel_rfl) hW ?_)); clear hA ac hW; intro br7_10 w17 hW hbr7_10 hfw17 ac hA
             refine ⟨⟨fun _ => (hW.pick [1] (by decide) rfl).pickG [1, 2] rfl, fun h => absurd h (by decide)⟩, ?_⟩; have hC : Ws w No [Cel b7 #[Value.slice AL L.length cc] 45] [roR AL 8 enCell22 L, roR (some ⟨b13, o14, none⟩) 8 enAct22 l] w17 := (hW.pick [1] (by decide) rfl).pickG [1, 2] rfl
             refine sr_one (i := 11) (by kernel_rfl) (sr_d rfl hA (Runs.store (v := Value.agg #[Value.slice Aor7_6 (g1r7_6).length cor7_6]) (b := br7_10) (j := 0) (n := 1) (cs' := #[Value.slice Aor7_6 (g1r7_6).length cor7_6]) (H' := [Cel br7_10 #[Value.slice Aor7_6 (g1r7_6).length cor7_6] 45, Cel b7 #[Value.slice AL L.length cc] 45, ShR n4 n5 g0r7_6]) (by kernel_rfl) (by kernel_rfl) (by kernel_rfl) (by kernel_rfl) (by kernel_rfl) hW 0 (by rfl) (Nat.le_of_ble_eq_true (by kernel_rfl)) (by kernel_rfl) (by rfl) ?_)); clear hA ac hW; intro w18 hW ac hA
             refine ⟨⟨fun h => absurd h (by decide), fun h => absurd h (by decide)⟩, ?_⟩
             refine sr_p 12 (Value.bool true) hR rfl hA ?_; clear hA ac; intro ac hA
             refine sr_done (by kernel_rfl) ?_ _
             exact ⟨Aor7_6, br7_10, cor7_6, g0r7_6, g1r7_6, hccor7_6, hr7_6_hL, hr7_6_hR, hA.sub ⟨⟨by kernel_rfl, by kernel_rfl⟩, ⟨by kernel_rfl, by kernel_rfl⟩, ⟨by kernel_rfl, by kernel_rfl⟩, ⟨by kernel_rfl, by kernel_rfl⟩, ⟨by kernel_rfl, by kernel_rfl⟩, ⟨by kernel_rfl, by kernel_rfl⟩, ⟨by kernel_rfl, by kernel_rfl⟩, ⟨by kernel_rfl, by kernel_rfl⟩, ⟨by kernel_rfl, by kernel_rfl⟩, ⟨by kernel_rfl, by kernel_rfl⟩, trivial⟩, (hW.pick [0, 1, 2] (by decide) rfl).pickG [0, 1, 2] rfl⟩
           · skip
             refine (sr_d rfl hA (Runs.cells (fun b => Value.pointer (some ⟨b, 0, none⟩)) #[Value.slice none 0 0] 45 (fun _ => by kernel_rfl) hW ?_)); clear hA ac hW; intro br7_10 w19 hW hbr7_10 hfw19 ac hA
             refine ⟨⟨fun _ => (hW.pick [1] (by decide) rfl).pickG [0, 1] rfl, fun h => absurd h (by decide)⟩, ?_⟩; have hC : Ws w No [Cel b7 #[Value.slice AL L.length cc] 45] [roR AL 8 enCell22 L, roR (some ⟨b13, o14, none⟩) 8 enAct22 l] w19 := (hW.pick [1] (by decide) rfl).pickG [0, 1] rfl
             refine sr_one (i := 6) (by kernel_rfl) (sr_d rfl hA (Runs.call (fun _ => by kernel_rfl) (e_lay22 n4 n5 V AL cc L y12 w19 ((hW).get 2 rfl) ((hW).lt _ (List.mem_of_getElem? (i := 2) rfl)) ((hW).getG 0 rfl) (by first | assumption | omega | (simp; omega) | simp) ((hW).gd _ (List.mem_of_getElem? (i := 0) rfl) _ (List.mem_of_getElem? (i := 2) rfl)) (by first | omega | exact ⟨_, by omega, hR_⟩ | exact ⟨_, by omega, hR2⟩ | exact hwf _ (List.mem_of_getElem? (by assumption)) | exact (hwf _ (List.mem_of_getElem? (by assumption))).1 | (simp; done) | assumption) (by first | omega | exact ⟨_, by omega, hR_⟩ | exact ⟨_, by omega, hR2⟩ | exact hwf _ (List.mem_of_getElem? (by assumption)) | exact (hwf _ (List.mem_of_getElem? (by assumption))).1 | (simp; done) | assumption)) ?_))
             rintro _ w20 ⟨g0r7_6, g1r7_6, Aor7_6, cor7_6, rfl, hr7_6_hR, hr7_6_hL, hccor7_6, hfcor7_6, hdcor7_6, hu_⟩; refine ⟨_, rfl, ?_⟩; have hW0 := hW; have hW := hW.upd (H' := [Cel br7_10 #[Value.slice none 0 0] 45, Cel b7 #[Value.slice AL L.length cc] 45, ShR n4 n5 g0r7_6]) 2 rfl hu_ rfl
             have hW := hW0.addFromU hW 2 rfl rfl hfcor7_6 (in_cons (in_at 0 rfl) in_nil) hdcor7_6
             clear hW0 hu_ hfcor7_6 hdcor7_6 hA ac; intro ac hA
             refine ⟨⟨fun h => absurd h (by decide), fun h => absurd h (by decide)⟩, ?_⟩
             refine sr_p 7 (Value.tuple #[Value.agg #[Value.slice Aor7_6 (g1r7_6).length cor7_6], Value.bool true]) hR rfl hA ?_; clear hA ac; intro ac hA
             refine sr_p 8 (Value.agg #[Value.slice Aor7_6 (g1r7_6).length cor7_6]) hR rfl hA ?_; clear hA ac; intro ac hA
             refine sr_p 9 (Value.bool true) hR rfl hA ?_; clear hA ac; intro ac hA
             refine sr_one (i := 11) (by kernel_rfl) (sr_d rfl hA (Runs.store (v := Value.agg #[Value.slice Aor7_6 (g1r7_6).length cor7_6]) (b := br7_10) (j := 0) (n := 1) (cs' := #[Value.slice Aor7_6 (g1r7_6).length cor7_6]) (H' := [Cel br7_10 #[Value.slice Aor7_6 (g1r7_6).length cor7_6] 45, Cel b7 #[Value.slice AL L.length cc] 45, ShR n4 n5 g0r7_6]) (by kernel_rfl) (by kernel_rfl) (by kernel_rfl) (by kernel_rfl) (by kernel_rfl) hW 0 (by rfl) (Nat.le_of_ble_eq_true (by kernel_rfl)) (by kernel_rfl) (by rfl) ?_)); clear hA ac hW; intro w21 hW ac hA
             refine ⟨⟨fun h => absurd h (by decide), fun h => absurd h (by decide)⟩, ?_⟩
             refine sr_p 12 (Value.bool true) hR rfl hA ?_; clear hA ac; intro ac hA
             refine sr_done (by kernel_rfl) ?_ _
             exact ⟨Aor7_6, br7_10, cor7_6, g0r7_6, g1r7_6, hccor7_6, hr7_6_hL, hr7_6_hR, hA.sub ⟨⟨by kernel_rfl, by kernel_rfl⟩, ⟨by kernel_rfl, by kernel_rfl⟩, ⟨by kernel_rfl, by kernel_rfl⟩, ⟨by kernel_rfl, by kernel_rfl⟩, ⟨by kernel_rfl, by kernel_rfl⟩, ⟨by kernel_rfl, by kernel_rfl⟩, ⟨by kernel_rfl, by kernel_rfl⟩, ⟨by kernel_rfl, by kernel_rfl⟩, ⟨by kernel_rfl, by kernel_rfl⟩, ⟨by kernel_rfl, by kernel_rfl⟩, trivial⟩, (hW.pick [0, 1, 2] (by decide) rfl).pickG [0, 1, 2] rfl⟩
         clear hA ac hW; rintro ac w22 ⟨Aor7_6, br7_10, cor7_6, g0r7_6, g1r7_6, hccor7_6, hr7_6_hL, hr7_6_hR, hA, hW⟩
         refine thenN ?_
         refine wp_seq ?_
         refine wp_region_lit ?_
         refine st_q (Value.agg #[Value.slice Aor7_6 (g1r7_6).length cor7_6]) hA hW.cls (Rd.load (b := br7_10) (i := 0) (by kernel_rfl) (fun _ hw => (hw.1).cel 0 rfl) (by kernel_rfl)) ?_; clear hA ac; intro ac hA
         refine st_s hA (Runs.store (v := Value.agg #[Value.slice Aor7_6 (g1r7_6).length cor7_6]) (b := b7) (j := 0) (n := 1) (cs' := #[Value.slice Aor7_6 (g1r7_6).length cor7_6]) (H' := [Cel br7_10 #[Value.slice Aor7_6 (g1r7_6).length cor7_6] 45, Cel b7 #[Value.slice Aor7_6 (g1r7_6).length cor7_6] 45, ShR n4 n5 g0r7_6]) (by kernel_rfl) (by kernel_rfl) (by kernel_rfl) (by kernel_rfl) (by kernel_rfl) hW 1 (by rfl) (Nat.le_of_ble_eq_true (by kernel_rfl)) (by kernel_rfl) (by rfl) ?_); clear hA ac hW; intro w23 hW ac hA
         refine wpList_nil ?_
         refine thenN ?_
         refine wp_seq ?_
         have hR2 : Rel22 (k + 1) g1r7_6 g0r7_6 := by rw [hr7_6_hL]; exact hr7_6_hR k hR_
         refine q_region (by kernel_rfl) (by kernel_rfl) hW ?_
         refine sq_p (Value.bool true) hA ?_; clear hA ac; intro ac hA
         refine sq_p (Value.bool false) hA ?_; clear hA ac; intro ac hA
         refine sq_p (Value.bool false) hA ?_; clear hA ac; intro ac hA
         refine sq_p (Value.pointer (some ⟨n4, 0, none⟩)) hA ?_; clear hA ac; intro ac hA
         refine sq_q (Value.agg #[Value.slice Aor7_6 (g1r7_6).length cor7_6]) hA (Rd.load (b := b7) (i := 0) (by kernel_rfl) (fun _ hw => (hw.1).cel 1 rfl) (by kernel_rfl)) ?_; clear hA ac; intro ac hA
         refine sq_p (Value.slice (some ⟨b13, o14, none⟩) l.length c_l) hA ?_; clear hA ac; intro ac hA
         refine sq_p (Value.int .i64 ((k : Nat) : Int)) hA ?_; clear hA ac; intro ac hA
         refine sq_q (Value.pointer (some ⟨b13, o14 + k * 8, none⟩)) hA (Rd.indexAddr (e := 37) (sz := 8) (b := b13) (off := o14) (n := l.length) (c := c_l) (k := k) (by kernel_rfl) (by kernel_rfl) (by first | omega | (simp; done) | (simp; omega)) (fun _ => by kernel_rfl) (fun _ => by kernel_rfl)) ?_; clear hA ac; intro ac hA
         refine sq_p (Value.pointer (some ⟨b13, o14 + k * 8, none⟩)) hA ?_; clear hA ac; intro ac hA
         refine sq_q (Value.int .u32 y12.addr) hA (Rd.loadRow (b := b13) (i := o14 + k * 8) (xs := [Value.int .u32 y12.addr]) (by kernel_rfl) (fun _ hw => row_ld ((hw.1).getG 2 rfl) hy12 (Fr.refl No _) (fun h => h) 0 1 (by kernel_rfl)) (by kernel_rfl)) ?_; clear hA ac; intro ac hA
         refine sq_p (Value.int .i64 ((k : Nat) : Int)) hA ?_; clear hA ac; intro ac hA
         refine sq_q (Value.int .i64 ((k % 4 : Nat) : Int)) hA (Rd.pureE (v0 := Value.int .i64 (Int.tmod (((k : Nat) : Int) : Int) 4)) (fun _ => by kernel_rfl) (congrArg (Value.int .i64) (rem_ (x := ((k : Nat) : Int)) (by omega)))) ?_; clear hA ac; intro ac hA
         refine sq_call (v := Value.bool true) hA (by kernel_rfl) (by kernel_rfl) (by kernel_rfl) (fun _ => by kernel_rfl) (Cls.callNC fun wx hwx => e_is22 n4 n5 g0r7_6 Aor7_6 cor7_6 g1r7_6 (y12.addr) (((k % 4 : Nat) : Int)) wx ((hwx.1).get 2 rfl) ((hwx.1).lt _ (List.mem_of_getElem? (i := 2) rfl)) ((hwx.1).getG 0 rfl) (by first | assumption | omega | (simp; omega) | simp) (by first | omega | exact ⟨_, by omega, hR_⟩ | exact ⟨_, by omega, hR2⟩ | exact hwf _ (List.mem_of_getElem? (by assumption)) | exact (hwf _ (List.mem_of_getElem? (by assumption))).1 | (simp; done) | assumption) (by first | omega | exact ⟨_, by omega, hR_⟩ | exact ⟨_, by omega, hR2⟩ | exact hwf _ (List.mem_of_getElem? (by assumption)) | exact (hwf _ (List.mem_of_getElem? (by assumption))).1 | (simp; done) | assumption)) ?_; clear hA ac; intro ac hA
         refine sq_p (Value.bool false) hA ?_; clear hA ac; intro ac hA
         refine sq_p (Value.bool false) hA ?_; clear hA ac; intro ac hA
         refine sq_nil ?_; intro w24 hww24; have hW := hww24.1; have hfw24 := hww24.2; clear hww24
         refine thenN ?_
         refine wp_cond_false (hA.eval (by kernel_rfl)) ?_
         refine wp_skip ?_
         refine blkN ?_
         refine thenN ?_
         refine wp_region_lit ?_
         refine st_p (Value.int .i64 ((k : Nat) : Int)) hA ?_; clear hA ac; intro ac hA
         refine st_q (Value.int .i64 ((k + 1 : Nat) : Int)) hA hW.cls (Rd.pureE (v0 := Value.int .i64 (IntKind.i64.wrap ((((k : Nat) : Int) : Int) + 1))) (fun _ => by kernel_rfl) (congrArg (Value.int .i64) ((w_i64 (x := (((k : Nat) : Int) : Int) + 1) (by omega) (by omega)).trans (by omega)))) ?_; clear hA ac; intro ac hA
         refine st_p (Value.int .i64 ((k + 1 : Nat) : Int)) hA ?_; clear hA ac; intro ac hA
         refine wpList_nil ?_
         refine thenN ?_
         exact ⟨l.length - (k + 1), by omega, k + 1, g0r7_6, g1r7_6, Aor7_6, cor7_6, rfl, by omega, by rw [hr7_6_hL]; exact hr7_6_hR k hR_, by exact (by first | assumption | omega | (simp; omega) | simp), hA.sub ⟨⟨by kernel_rfl, by kernel_rfl⟩, ⟨by kernel_rfl, by kernel_rfl⟩, ⟨by kernel_rfl, by kernel_rfl⟩, ⟨by kernel_rfl, by kernel_rfl⟩, trivial⟩, (hW.pick [1, 2] (by decide) rfl).pickG [0, 2] rfl⟩)
     · skip
       have h11 := of_decide_eq_false h11
       first
       | (exfalso; clear hA hW; omega)
       | (
         refine wp_exit ?_
         refine thenX ?_
         refine thenX ?_
         refine blkX ?_
         refine thenN ?_
         refine wp_seq ?_
         refine wp_region_lit ?_
         refine st_p (Value.pointer (some ⟨n4, 0, none⟩)) hA ?_; clear hA ac; intro ac hA
         refine st_q (Value.agg #[Value.slice AL L.length cc]) hA hW.cls (Rd.load (b := b7) (i := 0) (by kernel_rfl) (fun _ hw => (hw.1).cel 0 rfl) (by kernel_rfl)) ?_; clear hA ac; intro ac hA
         refine st_s hA (Runs.callN (v := Value.bool true) (fun _ => by kernel_rfl) hW (e_is22 n4 n5 V AL cc L (0) (99) w10 ((hW).get 1 rfl) ((hW).lt _ (List.mem_of_getElem? (i := 1) rfl)) ((hW).getG 0 rfl) (by first | assumption | omega | (simp; omega) | simp) (by first | omega | exact ⟨_, by omega, hR_⟩ | exact ⟨_, by omega, hR2⟩ | exact hwf _ (List.mem_of_getElem? (by assumption)) | exact (hwf _ (List.mem_of_getElem? (by assumption))).1 | (simp; done) | assumption) (by first | omega | exact ⟨_, by omega, hR_⟩ | exact ⟨_, by omega, hR2⟩ | exact hwf _ (List.mem_of_getElem? (by assumption)) | exact (hwf _ (List.mem_of_getElem? (by assumption))).1 | (simp; done) | assumption)) ?_); clear hA ac hW; intro w25 hW hfw25 ac hA
         refine st_p (Value.bool true) hA ?_; clear hA ac; intro ac hA
         refine st_s hA (Runs.callN (v := Value.bool true) (fun _ => by kernel_rfl) hW (e_works22 w25) ?_); clear hA ac hW; intro w26 hW hfw26 ac hA
         refine st_p (Value.bool true) hA ?_; clear hA ac; intro ac hA
         refine st_p (Value.bool true) hA ?_; clear hA ac; intro ac hA
         refine wpList_nil ?_
         refine thenN ?_
         refine wp_ret ?_
         refine ret1 (v := Value.bool true) (by rfl) hA (Got.tmp hA (by kernel_rfl) (by kernel_rfl)) ?_
         clear hA
         exact ⟨retv (by rfl), hW.fr⟩))

theorem shadowlays_walk (A : Option Addr) (len cap : Nat) (l : List Act22) (w : World) (hl : l.length = len) (hc : len ≤ cap) (_ : cap ≤ maxLen) (hw : ∀ x ∈ l, wfAct22 x) (hr : RowAt w A 8 enAct22 l) :
    Calls Try.prog 4 #[.slice A len cap] w fun e w' => e = .returned (.bool true) ∧ Fr No w w' := by
  subst hl
  exact e_lays22 A cap l w hr hc (fun x hx => wf_act22 (hw x hx))
set_option maxRecDepth 100000 in
theorem e_copies22 (A_l : Option Addr) (c_l : Nat) (l : List Act22) (a : Act22) (b : Act22) (w : World) (hr_l : RowAt w A_l 8 enAct22 l) (hc_l : l.length ≤ c_l) (hwf : ∀ x ∈ l, (0 ≤ x.addr ∧ x.addr ≤ 4294967295) ∧ ((0 ≤ x.x.wr ∧ x.x.wr ≤ 18446744073709551615) ∧ (0 ≤ x.x.rd ∧ x.x.rd ≤ 18446744073709551615))) (ha : (0 ≤ a.addr ∧ a.addr ≤ 4294967295) ∧ ((0 ≤ a.x.wr ∧ a.x.wr ≤ 18446744073709551615) ∧ (0 ≤ a.x.rd ∧ a.x.rd ≤ 18446744073709551615))) (hb : (0 ≤ b.addr ∧ b.addr ≤ 4294967295) ∧ ((0 ≤ b.x.wr ∧ b.x.wr ≤ 18446744073709551615) ∧ (0 ≤ b.x.rd ∧ b.x.rd ≤ 18446744073709551615))) : Calls Try.prog 5 #[Value.slice A_l l.length c_l, a.v, b.v] w (fun e w' => e = .returned (Value.bool true) ∧ Fr No w w') := by
 have _hu := hc_l; have _hv := hr_l; clear _hu _hv
 have _hu := hwf; clear _hu
 have _hu := ha; clear _hu
 have _hu := hb; clear _hu
 refine enter_E 92 Try.func5 rfl rfl (by kernel_rfl) (L := [(0, Value.slice A_l l.length c_l), (1, a.v), (2, b.v)]) (by kernel_rfl) ?_
 intro ac hA
 have hW := Ws.start w No
 have hW := hW.arg hr_l
 refine wp_seq ?_
 refine wp_region_lit ?_
 refine st_s hA (Runs.cells (fun b => Value.pointer (some ⟨b, 0, none⟩)) #[Value.int .u32 a.addr, Value.int .u64 a.x.wr, Value.int .i64 a.x.ws.f, Value.int .i64 a.x.ws.pc, Value.int .u64 a.x.rd, Value.int .i64 a.x.rs.f, Value.int .i64 a.x.rs.pc, Value.int .i64 a.x.vec] 37 (fun _ => by kernel_rfl) hW ?_); clear hA ac hW; intro b1 w2 hW hb1 hfw2 ac hA
 refine st_s hA (Runs.cells (fun b => Value.pointer (some ⟨b, 0, none⟩)) #[Value.int .u32 b.addr, Value.int .u64 b.x.wr, Value.int .i64 b.x.ws.f, Value.int .i64 b.x.ws.pc, Value.int .u64 b.x.rd, Value.int .i64 b.x.rs.f, Value.int .i64 b.x.rs.pc, Value.int .i64 b.x.vec] 37 (fun _ => by kernel_rfl) hW ?_); clear hA ac hW; intro b3 w4 hW hb3 hfw4 ac hA
 refine st_p (Value.bool false) hA ?_; clear hA ac; intro ac hA
 refine wpList_nil ?_
 refine thenN ?_
 refine wp_seq ?_
 refine wp_seq ?_
 refine wp_region_lit ?_
 refine st_p (Value.slice A_l l.length c_l) hA ?_; clear hA ac; intro ac hA
 refine st_p (Value.int .i64 ((l.length : Nat) : Int)) hA ?_; clear hA ac; intro ac hA
 refine st_p (Value.bool (decide ((((l.length : Nat) : Int) : Int) > (15 : Int)))) hA ?_; clear hA ac; intro ac hA
 refine wpList_nil ?_
 refine thenN ?_
 refine wp_cond_split (t := decide ((((l.length : Nat) : Int) : Int) > (15 : Int))) (hA.eval (by kernel_rfl)) (fun h5 => ?_) (fun h5 => ?_)
 · skip
   have h5 := of_decide_eq_true h5
   first
   | (exfalso; clear hA hW; omega)
   | (
     refine wp_seq ?_
     refine wp_region_lit ?_
     refine st_s hA (Runs.callN (v := Value.bool true) (fun _ => by kernel_rfl) hW (e_works22 w4) ?_); clear hA ac hW; intro w6 hW hfw6 ac hA
     refine st_p (Value.bool true) hA ?_; clear hA ac; intro ac hA
     refine wpList_nil ?_
     refine thenN ?_
     refine wp_ret ?_
     refine thenR ?_
     refine ret1 (v := Value.bool true) (by rfl) hA (Got.tmp hA (by kernel_rfl) (by kernel_rfl)) ?_
     clear hA
     exact ⟨retv (by rfl), hW.fr⟩)
 · skip
   have h5 := of_decide_eq_false h5
   first
   | (exfalso; clear hA hW; omega)
   | (exfalso; clear hA hW; exact h5 (hRp.same hRq); done)
   | (exfalso; clear hA hW; exact h5 ((hRq.same hRp).trans (rsame_comm _ _)); done)
   | (
     refine wp_skip ?_
     refine thenN ?_
     refine wp_seq ?_
     refine wp_region_lit ?_
     refine st_s hA (Runs.call (fun _ => by kernel_rfl) (e_snew w4) ?_)
     rintro _ w7 ⟨n8, n9, rfl, hu_⟩; refine ⟨_, rfl, ?_⟩; replace hW := hW.made hu_; clear hA ac; intro ac hA
     have hq10 : Rel22 0 ([] : List Cell22) ([] : List (Int × Nat × (Nat → Shade))) := Rel22.start
     refine st_p (Value.agg #[Value.slice none 0 0]) hA ?_; clear hA ac; intro ac hA
     refine st_s hA (Runs.cells (fun b => Value.pointer (some ⟨b, 0, none⟩)) #[Value.slice none 0 0] 45 (fun _ => by kernel_rfl) hW ?_); clear hA ac hW; intro b11 w12 hW hb11 hfw12 ac hA
     refine st_p (Value.pointer (some ⟨n8, 0, none⟩)) hA ?_; clear hA ac; intro ac hA
     refine st_s hA (Runs.store (v := Value.agg #[Value.slice none 0 0]) (b := b11) (j := 0) (n := 1) (cs' := #[Value.slice none 0 0]) (H' := [Cel b11 #[Value.slice none 0 0] 45, ShR n8 n9 ([] : List (Int × Nat × (Nat → Shade))), Cel b3 #[Value.int .u32 b.addr, Value.int .u64 b.x.wr, Value.int .i64 b.x.ws.f, Value.int .i64 b.x.ws.pc, Value.int .u64 b.x.rd, Value.int .i64 b.x.rs.f, Value.int .i64 b.x.rs.pc, Value.int .i64 b.x.vec] 37, Cel b1 #[Value.int .u32 a.addr, Value.int .u64 a.x.wr, Value.int .i64 a.x.ws.f, Value.int .i64 a.x.ws.pc, Value.int .u64 a.x.rd, Value.int .i64 a.x.rs.f, Value.int .i64 a.x.rs.pc, Value.int .i64 a.x.vec] 37]) (by kernel_rfl) (by kernel_rfl) (by kernel_rfl) (by kernel_rfl) (by kernel_rfl) hW 0 (by rfl) (Nat.le_of_ble_eq_true (by kernel_rfl)) (by kernel_rfl) (by rfl) ?_); clear hA ac hW; intro w13 hW ac hA
     refine wpList_nil ?_
     refine thenN ?_
     refine wp_seq ?_
     refine wp_seq ?_
     refine wp_region_lit ?_
     refine st_p (Value.int .i64 0) hA ?_; clear hA ac; intro ac hA
     refine wpList_nil ?_
     refine thenN ?_
     refine wp_block ?_
     have hW := hW.addG (roR none 8 enCell22 ([] : List Rc22)) (.inl rfl) (by simp [roR]) (by simp [roR])
     refine wp_loop_m (fun m_ ac_ wl_ => ∃ k : Nat, ∃ V : VT22, ∃ L : List Cell22, ∃ AL : Option Addr, ∃ cc : Nat, m_ = l.length - k ∧ (k ≤ l.length) ∧ (Rel22 k L V) ∧ (L.length ≤ cc) ∧ Fm 92 [] [(0, Value.slice A_l l.length c_l), (4, Value.pointer (some ⟨b1, 0, none⟩)), (5, Value.pointer (some ⟨b3, 0, none⟩)), (7, Value.pointer (some ⟨n8, 0, none⟩)), (8, Value.pointer (some ⟨b11, 0, none⟩)), (9, Value.int .i64 ((k : Nat) : Int))] ac_ ∧ Ws w No [Cel b11 #[Value.slice AL L.length cc] 45, ShR n8 n9 V, Cel b3 #[Value.int .u32 b.addr, Value.int .u64 b.x.wr, Value.int .i64 b.x.ws.f, Value.int .i64 b.x.ws.pc, Value.int .u64 b.x.rd, Value.int .i64 b.x.rs.f, Value.int .i64 b.x.rs.pc, Value.int .i64 b.x.vec] 37, Cel b1 #[Value.int .u32 a.addr, Value.int .u64 a.x.wr, Value.int .i64 a.x.ws.f, Value.int .i64 a.x.ws.pc, Value.int .u64 a.x.rd, Value.int .i64 a.x.rs.f, Value.int .i64 a.x.rs.pc, Value.int .i64 a.x.vec] 37] [roR AL 8 enCell22 L, roR A_l 8 enAct22 l] wl_) _ ⟨0, ([] : List (Int × Nat × (Nat → Shade))), ([] : List Rc22), none, 0, rfl, by omega, by exact Rel22.start, by simp, hA.sub ⟨⟨by kernel_rfl, by kernel_rfl⟩, ⟨by kernel_rfl, by kernel_rfl⟩, ⟨by kernel_rfl, by kernel_rfl⟩, ⟨by kernel_rfl, by kernel_rfl⟩, ⟨by kernel_rfl, by kernel_rfl⟩, ⟨by kernel_rfl, by kernel_rfl⟩, trivial⟩, (hW.pick [0, 1, 2, 3] (by decide) rfl).pickG [0, 1] rfl⟩ ?_
     clear hA ac hW; rintro m_ ac w14 ⟨k, V, L, AL, cc, rfl, hk, hR_, hcc, hA, hW⟩
     refine wp_seq ?_
     refine wp_seq ?_
     refine wp_region_lit ?_
     refine st_p (Value.int .i64 ((k : Nat) : Int)) hA ?_; clear hA ac; intro ac hA
     refine st_p (Value.slice A_l l.length c_l) hA ?_; clear hA ac; intro ac hA
     refine st_p (Value.int .i64 ((l.length : Nat) : Int)) hA ?_; clear hA ac; intro ac hA
     refine st_p (Value.bool (decide ((((k : Nat) : Int) : Int) < (((l.length : Nat) : Int) : Int)))) hA ?_; clear hA ac; intro ac hA
     refine wpList_nil ?_
     refine thenN ?_
     refine wp_cond_split (t := decide ((((k : Nat) : Int) : Int) < (((l.length : Nat) : Int) : Int))) (hA.eval (by kernel_rfl)) (fun h15 => ?_) (fun h15 => ?_)
     · skip
       have h15 := of_decide_eq_true h15
       first
       | (exfalso; clear hA hW; omega)
       | (
         refine wp_skip ?_
         refine thenN ?_
         refine wp_seq ?_
         refine wp_block ?_
         obtain ⟨y16, hy16⟩ : ∃ y, l[k]? = some y := ⟨_, List.getElem?_eq_getElem (by omega)⟩
         obtain ⟨b17, o18, rfl, hbb17⟩ := row_some ((hW).getG 1 rfl) hy16
         refine wp_cut (fun ac_ wl_ => ∃ Aor7_6 : Option Addr, ∃ cor7_6 : Nat, ∃ g0r7_6 : VT22, ∃ g1r7_6 : List Rc22, ((g1r7_6).length ≤ cor7_6) ∧ (g1r7_6 = layA L y16) ∧ (∀ n, Rel22 n L V → Rel22 (n + 1) (layA L y16) g0r7_6) ∧ Fm 92 [] [(0, Value.slice (some ⟨b17, o18, none⟩) l.length c_l), (4, Value.pointer (some ⟨b1, 0, none⟩)), (5, Value.pointer (some ⟨b3, 0, none⟩)), (7, Value.pointer (some ⟨n8, 0, none⟩)), (8, Value.pointer (some ⟨b11, 0, none⟩)), (9, Value.int .i64 ((k : Nat) : Int)), (22, Value.int .i64 ((k : Nat) : Int)), (23, Value.slice (some ⟨b17, o18, none⟩) l.length c_l), (24, Value.int .i64 ((l.length : Nat) : Int)), (25, Value.bool (decide ((((k : Nat) : Int) : Int) < (((l.length : Nat) : Int) : Int))))] ac_ ∧ Ws w No [Cel b11 #[Value.slice Aor7_6 (g1r7_6).length cor7_6] 45, ShR n8 n9 g0r7_6, Cel b3 #[Value.int .u32 b.addr, Value.int .u64 b.x.wr, Value.int .i64 b.x.ws.f, Value.int .i64 b.x.ws.pc, Value.int .u64 b.x.rd, Value.int .i64 b.x.rs.f, Value.int .i64 b.x.rs.pc, Value.int .i64 b.x.vec] 37, Cel b1 #[Value.int .u32 a.addr, Value.int .u64 a.x.wr, Value.int .i64 a.x.ws.f, Value.int .i64 a.x.ws.pc, Value.int .u64 a.x.rd, Value.int .i64 a.x.rs.f, Value.int .i64 a.x.rs.pc, Value.int .i64 a.x.vec] 37] [roR Aor7_6 8 enCell22 g1r7_6, roR AL 8 enCell22 L, roR (some ⟨b17, o18, none⟩) 8 enAct22 l] wl_) ?_ ?_
         · refine sr_region (m := 11) (C := Ws w No [Cel b11 #[Value.slice AL L.length cc] 45, Cel b3 #[Value.int .u32 b.addr, Value.int .u64 b.x.wr, Value.int .i64 b.x.ws.f, Value.int .i64 b.x.ws.pc, Value.int .u64 b.x.rd, Value.int .i64 b.x.rs.f, Value.int .i64 b.x.rs.pc, Value.int .i64 b.x.vec] 37, Cel b1 #[Value.int .u32 a.addr, Value.int .u64 a.x.wr, Value.int .i64 a.x.ws.f, Value.int .i64 a.x.ws.pc, Value.int .u64 a.x.rd, Value.int .i64 a.x.rs.f, Value.int .i64 a.x.rs.pc, Value.int .i64 a.x.vec] 37] [roR AL 8 enCell22 L, roR (some ⟨b17, o18, none⟩) 8 enAct22 l]) (fun i => [1, 5].contains i) (fun i => [1, 5].contains i) (fun i => [0, 2, 3, 4, 7, 8, 9].contains i) (by kernel_rfl) (by kernel_rfl) (by kernel_rfl) (by kernel_rfl) hW ?_; clear hW; intro w19 hW hfw19 hR; have hC : Ws w No [Cel b11 #[Value.slice AL L.length cc] 45, Cel b3 #[Value.int .u32 b.addr, Value.int .u64 b.x.wr, Value.int .i64 b.x.ws.f, Value.int .i64 b.x.ws.pc, Value.int .u64 b.x.rd, Value.int .i64 b.x.rs.f, Value.int .i64 b.x.rs.pc, Value.int .i64 b.x.vec] 37, Cel b1 #[Value.int .u32 a.addr, Value.int .u64 a.x.wr, Value.int .i64 a.x.ws.f, Value.int .i64 a.x.ws.pc, Value.int .u64 a.x.rd, Value.int .i64 a.x.rs.f, Value.int .i64 a.x.rs.pc, Value.int .i64 a.x.vec] 37] [roR AL 8 enCell22 L, roR (some ⟨b17, o18, none⟩) 8 enAct22 l] w19 := hW.pick [0, 2, 3] (by decide) rfl
           refine sr_p 0 (Value.pointer (some ⟨n8, 0, none⟩)) hR rfl hA ?_; clear hA ac; intro ac hA
           refine sr_t 1 (Value.agg #[Value.slice AL L.length cc]) hR rfl hA hC (Rd.load (b := b11) (i := 0) (by kernel_rfl) (fun _ hw => (hw).cel 0 rfl) (by kernel_rfl)) ?_; clear hA ac; intro ac hA
           refine sr_p 2 (Value.slice (some ⟨b17, o18, none⟩) l.length c_l) hR rfl hA ?_; clear hA ac; intro ac hA
           refine sr_p 3 (Value.int .i64 ((k : Nat) : Int)) hR rfl hA ?_; clear hA ac; intro ac hA
           refine sr_q 4 (Value.pointer (some ⟨b17, o18 + k * 8, none⟩)) hR rfl hA (Rd.indexAddr (e := 37) (sz := 8) (b := b17) (off := o18) (n := l.length) (c := c_l) (k := k) (by kernel_rfl) (by kernel_rfl) (by first | omega | (simp; done) | (simp; omega)) (fun _ => by kernel_rfl) (fun _ => by kernel_rfl)) ?_; clear hA ac; intro ac hA
           refine sr_t 5 (Value.agg #[Value.int .u32 y16.addr, Value.int .u64 y16.x.wr, Value.int .i64 y16.x.ws.f, Value.int .i64 y16.x.ws.pc, Value.int .u64 y16.x.rd, Value.int .i64 y16.x.rs.f, Value.int .i64 y16.x.rs.pc, Value.int .i64 y16.x.vec]) hR rfl hA hC (Rd.loadRow (b := b17) (i := o18 + k * 8) (xs := [Value.int .u32 y16.addr, Value.int .u64 y16.x.wr, Value.int .i64 y16.x.ws.f, Value.int .i64 y16.x.ws.pc, Value.int .u64 y16.x.rd, Value.int .i64 y16.x.rs.f, Value.int .i64 y16.x.rs.pc, Value.int .i64 y16.x.vec]) (by kernel_rfl) (fun _ hw => row_ld ((hw).getG 1 rfl) hy16 (Fr.refl No _) (fun h => h) 0 8 (by kernel_rfl)) (by kernel_rfl)) ?_; clear hA ac; intro ac hA
           refine sr_one (i := 6) (by kernel_rfl) (sr_d rfl hA (Runs.call (fun _ => by kernel_rfl) (e_lay22 n8 n9 V AL cc L y16 w19 ((hW).get 1 rfl) ((hW).lt _ (List.mem_of_getElem? (i := 1) rfl)) ((hW).getG 0 rfl) (by first | assumption | omega | (simp; omega) | simp) ((hW).gd _ (List.mem_of_getElem? (i := 0) rfl) _ (List.mem_of_getElem? (i := 1) rfl)) (by first | omega | exact ⟨_, by omega, hR_⟩ | exact ⟨_, by omega, hRc⟩ | exact ⟨_, by omega, hRp⟩ | exact ⟨_, by omega, hRq⟩ | exact hR_.nd | exact hwf _ (List.mem_of_getElem? (by assumption)) | exact ha.1 | exact hb.1 | (constructor <;> omega) | assumption) (by first | omega | exact ⟨_, by omega, hR_⟩ | exact ⟨_, by omega, hRc⟩ | exact ⟨_, by omega, hRp⟩ | exact ⟨_, by omega, hRq⟩ | exact hR_.nd | exact hwf _ (List.mem_of_getElem? (by assumption)) | exact ha.1 | exact hb.1 | (constructor <;> omega) | assumption)) ?_))
           rintro _ w20 ⟨g0r7_6, g1r7_6, Aor7_6, cor7_6, rfl, hr7_6_hR, hr7_6_hL, hccor7_6, hfcor7_6, hdcor7_6, hu_⟩; refine ⟨_, rfl, ?_⟩; have hW0 := hW; have hW := hW.upd (H' := [Cel b11 #[Value.slice AL L.length cc] 45, ShR n8 n9 g0r7_6, Cel b3 #[Value.int .u32 b.addr, Value.int .u64 b.x.wr, Value.int .i64 b.x.ws.f, Value.int .i64 b.x.ws.pc, Value.int .u64 b.x.rd, Value.int .i64 b.x.rs.f, Value.int .i64 b.x.rs.pc, Value.int .i64 b.x.vec] 37, Cel b1 #[Value.int .u32 a.addr, Value.int .u64 a.x.wr, Value.int .i64 a.x.ws.f, Value.int .i64 a.x.ws.pc, Value.int .u64 a.x.rd, Value.int .i64 a.x.rs.f, Value.int .i64 a.x.rs.pc, Value.int .i64 a.x.vec] 37]) 1 rfl hu_ rfl
           have hW := hW0.addFromU hW 1 rfl rfl hfcor7_6 (in_cons (in_at 0 rfl) in_nil) hdcor7_6
           clear hW0 hu_ hfcor7_6 hdcor7_6 hA ac; intro ac hA
           refine ⟨⟨fun h => absurd h (by decide), fun h => absurd h (by decide)⟩, ?_⟩
           refine sr_p 7 (Value.tuple #[Value.agg #[Value.slice Aor7_6 (g1r7_6).length cor7_6], Value.bool true]) hR rfl hA ?_; clear hA ac; intro ac hA
           refine sr_p 8 (Value.agg #[Value.slice Aor7_6 (g1r7_6).length cor7_6]) hR rfl hA ?_; clear hA ac; intro ac hA
           refine sr_p 9 (Value.bool true) hR rfl hA ?_; clear hA ac; intro ac hA
           refine sr_one (i := 10) (by kernel_rfl) (sr_d rfl hA (Runs.store (v := Value.agg #[Value.slice Aor7_6 (g1r7_6).length cor7_6]) (b := b11) (j := 0) (n := 1) (cs' := #[Value.slice Aor7_6 (g1r7_6).length cor7_6]) (H' := [Cel b11 #[Value.slice Aor7_6 (g1r7_6).length cor7_6] 45, ShR n8 n9 g0r7_6, Cel b3 #[Value.int .u32 b.addr, Value.int .u64 b.x.wr, Value.int .i64 b.x.ws.f, Value.int .i64 b.x.ws.pc, Value.int .u64 b.x.rd, Value.int .i64 b.x.rs.f, Value.int .i64 b.x.rs.pc, Value.int .i64 b.x.vec] 37, Cel b1 #[Value.int .u32 a.addr, Value.int .u64 a.x.wr, Value.int .i64 a.x.ws.f, Value.int .i64 a.x.ws.pc, Value.int .u64 a.x.rd, Value.int .i64 a.x.rs.f, Value.int .i64 a.x.rs.pc, Value.int .i64 a.x.vec] 37]) (by kernel_rfl) (by kernel_rfl) (by kernel_rfl) (by kernel_rfl) (by kernel_rfl) hW 0 (by rfl) (Nat.le_of_ble_eq_true (by kernel_rfl)) (by kernel_rfl) (by rfl) ?_)); clear hA ac hW; intro w21 hW ac hA
           refine ⟨⟨fun h => absurd h (by decide), fun h => absurd h (by decide)⟩, ?_⟩
           refine sr_done (by kernel_rfl) ?_ _
           exact ⟨Aor7_6, cor7_6, g0r7_6, g1r7_6, hccor7_6, hr7_6_hL, hr7_6_hR, hA.sub ⟨⟨by kernel_rfl, by kernel_rfl⟩, ⟨by kernel_rfl, by kernel_rfl⟩, ⟨by kernel_rfl, by kernel_rfl⟩, ⟨by kernel_rfl, by kernel_rfl⟩, ⟨by kernel_rfl, by kernel_rfl⟩, ⟨by kernel_rfl, by kernel_rfl⟩, ⟨by kernel_rfl, by kernel_rfl⟩, ⟨by kernel_rfl, by kernel_rfl⟩, ⟨by kernel_rfl, by kernel_rfl⟩, ⟨by kernel_rfl, by kernel_rfl⟩, trivial⟩, (hW.pick [0, 1, 2, 3] (by decide) rfl).pickG [0, 1, 2] rfl⟩
         clear hA ac hW; rintro ac w22 ⟨Aor7_6, cor7_6, g0r7_6, g1r7_6, hccor7_6, hr7_6_hL, hr7_6_hR, hA, hW⟩
         refine blkN ?_
         refine thenN ?_
         refine wp_region_lit ?_
         refine st_p (Value.int .i64 ((k : Nat) : Int)) hA ?_; clear hA ac; intro ac hA
         refine st_q (Value.int .i64 ((k + 1 : Nat) : Int)) hA hW.cls (Rd.pureE (v0 := Value.int .i64 (IntKind.i64.wrap ((((k : Nat) : Int) : Int) + 1))) (fun _ => by kernel_rfl) (congrArg (Value.int .i64) ((w_i64 (x := (((k : Nat) : Int) : Int) + 1) (by omega) (by omega)).trans (by omega)))) ?_; clear hA ac; intro ac hA
         refine st_p (Value.int .i64 ((k + 1 : Nat) : Int)) hA ?_; clear hA ac; intro ac hA
         refine wpList_nil ?_
         refine thenN ?_
         exact ⟨l.length - (k + 1), by omega, k + 1, g0r7_6, g1r7_6, Aor7_6, cor7_6, rfl, by omega, by rw [hr7_6_hL]; exact hr7_6_hR k hR_, by exact (by first | assumption | omega | (simp; omega) | simp), hA.sub ⟨⟨by kernel_rfl, by kernel_rfl⟩, ⟨by kernel_rfl, by kernel_rfl⟩, ⟨by kernel_rfl, by kernel_rfl⟩, ⟨by kernel_rfl, by kernel_rfl⟩, ⟨by kernel_rfl, by kernel_rfl⟩, ⟨by kernel_rfl, by kernel_rfl⟩, trivial⟩, (hW.pick [0, 1, 2, 3] (by decide) rfl).pickG [0, 2] rfl⟩)
     · skip
       have h15 := of_decide_eq_false h15
       first
       | (exfalso; clear hA hW; omega)
       | (exfalso; clear hA hW; exact h15 (hRp.same hRq); done)
       | (exfalso; clear hA hW; exact h15 ((hRq.same hRp).trans (rsame_comm _ _)); done)
       | (
         refine wp_exit ?_
         refine thenX ?_
         refine thenX ?_
         refine blkX ?_
         refine thenN ?_
         refine wp_seq ?_
         refine wp_region_lit ?_
         refine st_p (Value.pointer (some ⟨n8, 0, none⟩)) hA ?_; clear hA ac; intro ac hA
         refine st_s hA (Runs.call (fun _ => by kernel_rfl) (e_scopy n8 n9 V w14 ((hW).get 1 rfl) ((hW).lt _ (List.mem_of_getElem? (i := 1) rfl)) (by first | omega | exact ⟨_, by omega, hR_⟩ | exact ⟨_, by omega, hRc⟩ | exact ⟨_, by omega, hRp⟩ | exact ⟨_, by omega, hRq⟩ | exact hR_.nd | exact hwf _ (List.mem_of_getElem? (by assumption)) | exact ha.1 | exact hb.1 | (constructor <;> omega) | assumption)) ?_)
         rintro _ w23 ⟨n24, n25, n26, rfl, hw23_hp, hu_⟩; refine ⟨_, rfl, ?_⟩; replace hW := hW.made hu_; clear hA ac; intro ac hA
         refine st_p (Value.pointer (some ⟨n24, 0, none⟩)) hA ?_; clear hA ac; intro ac hA
         refine wpList_nil ?_
         refine thenN ?_
         refine wp_seq ?_
         have hRc := hR_.copy hw23_hp
         refine wp_region_lit ?_
         refine st_p (Value.pointer (some ⟨n8, 0, none⟩)) hA ?_; clear hA ac; intro ac hA
         refine st_q (Value.agg #[Value.slice AL L.length cc]) hA hW.cls (Rd.load (b := b11) (i := 0) (by kernel_rfl) (fun _ hw => (hw.1).cel 1 rfl) (by kernel_rfl)) ?_; clear hA ac; intro ac hA
         refine st_q (Value.agg #[Value.int .u32 a.addr, Value.int .u64 a.x.wr, Value.int .i64 a.x.ws.f, Value.int .i64 a.x.ws.pc, Value.int .u64 a.x.rd, Value.int .i64 a.x.rs.f, Value.int .i64 a.x.rs.pc, Value.int .i64 a.x.vec]) hA hW.cls (Rd.load (b := b1) (i := 0) (by kernel_rfl) (fun _ hw => (hw.1).cel 4 rfl) (by kernel_rfl)) ?_; clear hA ac; intro ac hA
         refine st_s hA (Runs.call (fun _ => by kernel_rfl) (e_lay22 n8 n9 V AL cc L a w23 ((hW).get 2 rfl) ((hW).lt _ (List.mem_of_getElem? (i := 2) rfl)) ((hW).getG 0 rfl) (by first | assumption | omega | (simp; omega) | simp) ((hW).gd _ (List.mem_of_getElem? (i := 0) rfl) _ (List.mem_of_getElem? (i := 2) rfl)) (by first | omega | exact ⟨_, by omega, hR_⟩ | exact ⟨_, by omega, hRc⟩ | exact ⟨_, by omega, hRp⟩ | exact ⟨_, by omega, hRq⟩ | exact hR_.nd | exact hwf _ (List.mem_of_getElem? (by assumption)) | exact ha.1 | exact hb.1 | (constructor <;> omega) | assumption) (by first | omega | exact ⟨_, by omega, hR_⟩ | exact ⟨_, by omega, hRc⟩ | exact ⟨_, by omega, hRp⟩ | exact ⟨_, by omega, hRq⟩ | exact hR_.nd | exact hwf _ (List.mem_of_getElem? (by assumption)) | exact ha.1 | exact hb.1 | (constructor <;> omega) | assumption)) ?_)
         rintro _ w27 ⟨g28, g29, Ao30, co31, rfl, hw27_hR, hw27_hL, hcco31, hfco31, hdco31, hu_⟩; refine ⟨_, rfl, ?_⟩; have hW0 := hW; have hW := hW.upd (H' := [ShR n24 n25 n26, Cel b11 #[Value.slice AL L.length cc] 45, ShR n8 n9 g28, Cel b3 #[Value.int .u32 b.addr, Value.int .u64 b.x.wr, Value.int .i64 b.x.ws.f, Value.int .i64 b.x.ws.pc, Value.int .u64 b.x.rd, Value.int .i64 b.x.rs.f, Value.int .i64 b.x.rs.pc, Value.int .i64 b.x.vec] 37, Cel b1 #[Value.int .u32 a.addr, Value.int .u64 a.x.wr, Value.int .i64 a.x.ws.f, Value.int .i64 a.x.ws.pc, Value.int .u64 a.x.rd, Value.int .i64 a.x.rs.f, Value.int .i64 a.x.rs.pc, Value.int .i64 a.x.vec] 37]) 2 rfl hu_ rfl
         have hW := hW0.addFromU hW 2 rfl rfl hfco31 (in_cons (in_at 0 rfl) in_nil) hdco31
         clear hW0 hu_ hfco31 hdco31 hA ac; intro ac hA
         refine st_p (Value.tuple #[Value.agg #[Value.slice Ao30 (g29).length co31], Value.bool true]) hA ?_; clear hA ac; intro ac hA
         refine st_p (Value.agg #[Value.slice Ao30 (g29).length co31]) hA ?_; clear hA ac; intro ac hA
         refine st_p (Value.bool true) hA ?_; clear hA ac; intro ac hA
         refine st_s hA (Runs.cells (fun b => Value.pointer (some ⟨b, 0, none⟩)) #[Value.slice none 0 0] 45 (fun _ => by kernel_rfl) hW ?_); clear hA ac hW; intro b32 w33 hW hb32 hfw33 ac hA
         refine st_s hA (Runs.store (v := Value.agg #[Value.slice Ao30 (g29).length co31]) (b := b32) (j := 0) (n := 1) (cs' := #[Value.slice Ao30 (g29).length co31]) (H' := [Cel b32 #[Value.slice Ao30 (g29).length co31] 45, ShR n24 n25 n26, Cel b11 #[Value.slice AL L.length cc] 45, ShR n8 n9 g28, Cel b3 #[Value.int .u32 b.addr, Value.int .u64 b.x.wr, Value.int .i64 b.x.ws.f, Value.int .i64 b.x.ws.pc, Value.int .u64 b.x.rd, Value.int .i64 b.x.rs.f, Value.int .i64 b.x.rs.pc, Value.int .i64 b.x.vec] 37, Cel b1 #[Value.int .u32 a.addr, Value.int .u64 a.x.wr, Value.int .i64 a.x.ws.f, Value.int .i64 a.x.ws.pc, Value.int .u64 a.x.rd, Value.int .i64 a.x.rs.f, Value.int .i64 a.x.rs.pc, Value.int .i64 a.x.vec] 37]) (by kernel_rfl) (by kernel_rfl) (by kernel_rfl) (by kernel_rfl) (by kernel_rfl) hW 0 (by rfl) (Nat.le_of_ble_eq_true (by kernel_rfl)) (by kernel_rfl) (by rfl) ?_); clear hA ac hW; intro w34 hW ac hA
         refine st_p (Value.bool true) hA ?_; clear hA ac; intro ac hA
         refine wpList_nil ?_
         refine thenN ?_
         refine wp_seq ?_
         refine wp_region_lit ?_
         refine st_p (Value.pointer (some ⟨n24, 0, none⟩)) hA ?_; clear hA ac; intro ac hA
         refine st_q (Value.agg #[Value.slice AL L.length cc]) hA hW.cls (Rd.load (b := b11) (i := 0) (by kernel_rfl) (fun _ hw => (hw.1).cel 2 rfl) (by kernel_rfl)) ?_; clear hA ac; intro ac hA
         refine st_q (Value.agg #[Value.int .u32 b.addr, Value.int .u64 b.x.wr, Value.int .i64 b.x.ws.f, Value.int .i64 b.x.ws.pc, Value.int .u64 b.x.rd, Value.int .i64 b.x.rs.f, Value.int .i64 b.x.rs.pc, Value.int .i64 b.x.vec]) hA hW.cls (Rd.load (b := b3) (i := 0) (by kernel_rfl) (fun _ hw => (hw.1).cel 4 rfl) (by kernel_rfl)) ?_; clear hA ac; intro ac hA
         refine st_s hA (Runs.call (fun _ => by kernel_rfl) (e_lay22 n24 n25 n26 AL cc L b w34 ((hW).get 1 rfl) ((hW).lt _ (List.mem_of_getElem? (i := 1) rfl)) ((hW).getG 1 rfl) (by first | assumption | omega | (simp; omega) | simp) ((hW).gd _ (List.mem_of_getElem? (i := 1) rfl) _ (List.mem_of_getElem? (i := 1) rfl)) (by first | omega | exact ⟨_, by omega, hR_⟩ | exact ⟨_, by omega, hRc⟩ | exact ⟨_, by omega, hRp⟩ | exact ⟨_, by omega, hRq⟩ | exact hR_.nd | exact hwf _ (List.mem_of_getElem? (by assumption)) | exact ha.1 | exact hb.1 | (constructor <;> omega) | assumption) (by first | omega | exact ⟨_, by omega, hR_⟩ | exact ⟨_, by omega, hRc⟩ | exact ⟨_, by omega, hRp⟩ | exact ⟨_, by omega, hRq⟩ | exact hR_.nd | exact hwf _ (List.mem_of_getElem? (by assumption)) | exact ha.1 | exact hb.1 | (constructor <;> omega) | assumption)) ?_)
         rintro _ w35 ⟨g36, g37, Ao38, co39, rfl, hw35_hR, hw35_hL, hcco39, hfco39, hdco39, hu_⟩; refine ⟨_, rfl, ?_⟩; have hW0 := hW; have hW := hW.upd (H' := [Cel b32 #[Value.slice Ao30 (g29).length co31] 45, ShR n24 n25 g36, Cel b11 #[Value.slice AL L.length cc] 45, ShR n8 n9 g28, Cel b3 #[Value.int .u32 b.addr, Value.int .u64 b.x.wr, Value.int .i64 b.x.ws.f, Value.int .i64 b.x.ws.pc, Value.int .u64 b.x.rd, Value.int .i64 b.x.rs.f, Value.int .i64 b.x.rs.pc, Value.int .i64 b.x.vec] 37, Cel b1 #[Value.int .u32 a.addr, Value.int .u64 a.x.wr, Value.int .i64 a.x.ws.f, Value.int .i64 a.x.ws.pc, Value.int .u64 a.x.rd, Value.int .i64 a.x.rs.f, Value.int .i64 a.x.rs.pc, Value.int .i64 a.x.vec] 37]) 1 rfl hu_ rfl
         have hW := hW0.addFromU hW 1 rfl rfl hfco39 (in_cons (in_at 1 rfl) in_nil) hdco39
         clear hW0 hu_ hfco39 hdco39 hA ac; intro ac hA
         refine st_p (Value.tuple #[Value.agg #[Value.slice Ao38 (g37).length co39], Value.bool true]) hA ?_; clear hA ac; intro ac hA
         refine st_p (Value.agg #[Value.slice Ao38 (g37).length co39]) hA ?_; clear hA ac; intro ac hA
         refine st_p (Value.bool true) hA ?_; clear hA ac; intro ac hA
         refine st_s hA (Runs.cells (fun b => Value.pointer (some ⟨b, 0, none⟩)) #[Value.slice none 0 0] 45 (fun _ => by kernel_rfl) hW ?_); clear hA ac hW; intro b40 w41 hW hb40 hfw41 ac hA
         refine st_s hA (Runs.store (v := Value.agg #[Value.slice Ao38 (g37).length co39]) (b := b40) (j := 0) (n := 1) (cs' := #[Value.slice Ao38 (g37).length co39]) (H' := [Cel b40 #[Value.slice Ao38 (g37).length co39] 45, Cel b32 #[Value.slice Ao30 (g29).length co31] 45, ShR n24 n25 g36, Cel b11 #[Value.slice AL L.length cc] 45, ShR n8 n9 g28, Cel b3 #[Value.int .u32 b.addr, Value.int .u64 b.x.wr, Value.int .i64 b.x.ws.f, Value.int .i64 b.x.ws.pc, Value.int .u64 b.x.rd, Value.int .i64 b.x.rs.f, Value.int .i64 b.x.rs.pc, Value.int .i64 b.x.vec] 37, Cel b1 #[Value.int .u32 a.addr, Value.int .u64 a.x.wr, Value.int .i64 a.x.ws.f, Value.int .i64 a.x.ws.pc, Value.int .u64 a.x.rd, Value.int .i64 a.x.rs.f, Value.int .i64 a.x.rs.pc, Value.int .i64 a.x.vec] 37]) (by kernel_rfl) (by kernel_rfl) (by kernel_rfl) (by kernel_rfl) (by kernel_rfl) hW 0 (by rfl) (Nat.le_of_ble_eq_true (by kernel_rfl)) (by kernel_rfl) (by rfl) ?_); clear hA ac hW; intro w42 hW ac hA
         refine st_p (Value.bool true) hA ?_; clear hA ac; intro ac hA
         refine wpList_nil ?_
         refine thenN ?_
         refine wp_seq ?_
         have hRp := hw27_hR k hR_; rw [← hw27_hL] at hRp; have hlp_ := hRp.llen; have hvp_ := hRp.len; have hgp_ := hRp.rng
         have hRq := hw35_hR k hRc; rw [← hw35_hL] at hRq; have hlq_ := hRq.llen; have hvq_ := hRq.len; have hgq_ := hRq.rng
         refine wp_region_lit ?_
         refine st_q (Value.agg #[Value.slice Ao30 (g29).length co31]) hA hW.cls (Rd.load (b := b32) (i := 0) (by kernel_rfl) (fun _ hw => (hw.1).cel 1 rfl) (by kernel_rfl)) ?_; clear hA ac; intro ac hA
         refine st_q (Value.agg #[Value.slice Ao38 (g37).length co39]) hA hW.cls (Rd.load (b := b40) (i := 0) (by kernel_rfl) (fun _ hw => (hw.1).cel 0 rfl) (by kernel_rfl)) ?_; clear hA ac; intro ac hA
         refine st_s hA (Runs.callN (v := Value.bool (decide (allL g29 = allL g37) && decide (pagesM g29 = pagesM g37))) (fun _ => by kernel_rfl) hW (e_rsame Ao30 co31 g29 Ao38 co39 g37 w42 ((hW).getG 1 rfl) (by first | assumption | omega | (simp; omega) | simp) ((hW).getG 0 rfl) (by first | assumption | omega | (simp; omega) | simp) (by first | omega | exact ⟨_, by omega, hR_⟩ | exact ⟨_, by omega, hRc⟩ | exact ⟨_, by omega, hRp⟩ | exact ⟨_, by omega, hRq⟩ | exact hR_.nd | exact hwf _ (List.mem_of_getElem? (by assumption)) | exact ha.1 | exact hb.1 | (constructor <;> omega) | assumption) (by first | omega | exact ⟨_, by omega, hR_⟩ | exact ⟨_, by omega, hRc⟩ | exact ⟨_, by omega, hRp⟩ | exact ⟨_, by omega, hRq⟩ | exact hR_.nd | exact hwf _ (List.mem_of_getElem? (by assumption)) | exact ha.1 | exact hb.1 | (constructor <;> omega) | assumption) (by first | omega | exact ⟨_, by omega, hR_⟩ | exact ⟨_, by omega, hRc⟩ | exact ⟨_, by omega, hRp⟩ | exact ⟨_, by omega, hRq⟩ | exact hR_.nd | exact hwf _ (List.mem_of_getElem? (by assumption)) | exact ha.1 | exact hb.1 | (constructor <;> omega) | assumption)) ?_); clear hA ac hW; intro w43 hW hfw43 ac hA
         refine st_p (Value.bool (decide (allL g29 = allL g37) && decide (pagesM g29 = pagesM g37))) hA ?_; clear hA ac; intro ac hA
         refine wpList_nil ?_
         refine thenN ?_
         refine wp_seq ?_
         refine wp_region_lit ?_
         refine st_p (Value.bool true) hA ?_; clear hA ac; intro ac hA
         refine st_p (Value.bool true) hA ?_; clear hA ac; intro ac hA
         refine st_p (Value.bool true) hA ?_; clear hA ac; intro ac hA
         refine st_p (Value.bool true) hA ?_; clear hA ac; intro ac hA
         refine st_p (Value.bool true) hA ?_; clear hA ac; intro ac hA
         refine st_p (Value.pointer (some ⟨n8, 0, none⟩)) hA ?_; clear hA ac; intro ac hA
         refine st_q (Value.agg #[Value.slice Ao30 (g29).length co31]) hA hW.cls (Rd.load (b := b32) (i := 0) (by kernel_rfl) (fun _ hw => (hw.1).cel 1 rfl) (by kernel_rfl)) ?_; clear hA ac; intro ac hA
         refine st_p (Value.pointer (some ⟨b1, 0, none⟩)) hA ?_; clear hA ac; intro ac hA
         refine st_q (Value.int .u32 a.addr) hA hW.cls (Rd.load (b := b1) (i := 0) (by kernel_rfl) (fun _ hw => (hw.1).cel 6 rfl) (by kernel_rfl)) ?_; clear hA ac; intro ac hA
         refine st_s hA (Runs.callN (v := Value.bool true) (fun _ => by kernel_rfl) hW (e_is22 n8 n9 g28 Ao30 co31 g29 (a.addr) (99) w43 ((hW).get 4 rfl) ((hW).lt _ (List.mem_of_getElem? (i := 4) rfl)) ((hW).getG 1 rfl) (by first | assumption | omega | (simp; omega) | simp) (by first | omega | exact ⟨_, by omega, hR_⟩ | exact ⟨_, by omega, hRc⟩ | exact ⟨_, by omega, hRp⟩ | exact ⟨_, by omega, hRq⟩ | exact hR_.nd | exact hwf _ (List.mem_of_getElem? (by assumption)) | exact ha.1 | exact hb.1 | (constructor <;> omega) | assumption) (by first | omega | exact ⟨_, by omega, hR_⟩ | exact ⟨_, by omega, hRc⟩ | exact ⟨_, by omega, hRp⟩ | exact ⟨_, by omega, hRq⟩ | exact hR_.nd | exact hwf _ (List.mem_of_getElem? (by assumption)) | exact ha.1 | exact hb.1 | (constructor <;> omega) | assumption)) ?_); clear hA ac hW; intro w44 hW hfw44 ac hA
         refine st_p (Value.bool true) hA ?_; clear hA ac; intro ac hA
         refine st_p (Value.bool true) hA ?_; clear hA ac; intro ac hA
         refine st_p (Value.pointer (some ⟨n24, 0, none⟩)) hA ?_; clear hA ac; intro ac hA
         refine st_q (Value.agg #[Value.slice Ao38 (g37).length co39]) hA hW.cls (Rd.load (b := b40) (i := 0) (by kernel_rfl) (fun _ hw => (hw.1).cel 0 rfl) (by kernel_rfl)) ?_; clear hA ac; intro ac hA
         refine st_p (Value.pointer (some ⟨b3, 0, none⟩)) hA ?_; clear hA ac; intro ac hA
         refine st_q (Value.int .u32 b.addr) hA hW.cls (Rd.load (b := b3) (i := 0) (by kernel_rfl) (fun _ hw => (hw.1).cel 5 rfl) (by kernel_rfl)) ?_; clear hA ac; intro ac hA
         refine st_s hA (Runs.callN (v := Value.bool true) (fun _ => by kernel_rfl) hW (e_is22 n24 n25 g36 Ao38 co39 g37 (b.addr) (99) w44 ((hW).get 2 rfl) ((hW).lt _ (List.mem_of_getElem? (i := 2) rfl)) ((hW).getG 0 rfl) (by first | assumption | omega | (simp; omega) | simp) (by first | omega | exact ⟨_, by omega, hR_⟩ | exact ⟨_, by omega, hRc⟩ | exact ⟨_, by omega, hRp⟩ | exact ⟨_, by omega, hRq⟩ | exact hR_.nd | exact hwf _ (List.mem_of_getElem? (by assumption)) | exact ha.1 | exact hb.1 | (constructor <;> omega) | assumption) (by first | omega | exact ⟨_, by omega, hR_⟩ | exact ⟨_, by omega, hRc⟩ | exact ⟨_, by omega, hRp⟩ | exact ⟨_, by omega, hRq⟩ | exact hR_.nd | exact hwf _ (List.mem_of_getElem? (by assumption)) | exact ha.1 | exact hb.1 | (constructor <;> omega) | assumption)) ?_); clear hA ac hW; intro w45 hW hfw45 ac hA
         refine st_p (Value.bool true) hA ?_; clear hA ac; intro ac hA
         refine st_p (Value.bool true) hA ?_; clear hA ac; intro ac hA
         refine st_p (Value.pointer (some ⟨n8, 0, none⟩)) hA ?_; clear hA ac; intro ac hA
         refine st_p (Value.pointer (some ⟨n24, 0, none⟩)) hA ?_; clear hA ac; intro ac hA
         refine st_s hA (Runs.callN (v := Value.bool (vEq (vals g28) (vals g36))) (fun _ => by kernel_rfl) hW (e_ssame n8 n9 g28 n24 n25 g36 w45 ((hW).get 4 rfl) ((hW).lt _ (List.mem_of_getElem? (i := 4) rfl)) ((hW).get 2 rfl) ((hW).lt _ (List.mem_of_getElem? (i := 2) rfl)) (by first | omega | exact ⟨_, by omega, hR_⟩ | exact ⟨_, by omega, hRc⟩ | exact ⟨_, by omega, hRp⟩ | exact ⟨_, by omega, hRq⟩ | exact hR_.nd | exact hwf _ (List.mem_of_getElem? (by assumption)) | exact ha.1 | exact hb.1 | (constructor <;> omega) | assumption)) ?_); clear hA ac hW; intro w46 hW hfw46 ac hA
         refine st_p (Value.bool (decide (allL g29 = allL g37) && decide (pagesM g29 = pagesM g37))) hA ?_; clear hA ac; intro ac hA
         refine st_p (Value.bool ((vEq (vals g28) (vals g36)) == (decide (allL g29 = allL g37) && decide (pagesM g29 = pagesM g37)))) hA ?_; clear hA ac; intro ac hA
         refine st_p (Value.bool ((vEq (vals g28) (vals g36)) == (decide (allL g29 = allL g37) && decide (pagesM g29 = pagesM g37)))) hA ?_; clear hA ac; intro ac hA
         refine st_p (Value.bool ((vEq (vals g28) (vals g36)) == (decide (allL g29 = allL g37) && decide (pagesM g29 = pagesM g37)))) hA ?_; clear hA ac; intro ac hA
         rcases Bool.eq_false_or_eq_true ((vEq (vals g28) (vals g36)) == (decide (allL g29 = allL g37) && decide (pagesM g29 = pagesM g37))) with h47 | h47
         · skip
           rw [h47] at hA
           have h47 := bbeq_t h47
           first
           | (exfalso; clear hA hW; omega)
           | (
             refine st_p (Value.pointer (some ⟨n24, 0, none⟩)) hA ?_; clear hA ac; intro ac hA
             refine st_p (Value.pointer (some ⟨n8, 0, none⟩)) hA ?_; clear hA ac; intro ac hA
             refine st_s hA (Runs.callN (v := Value.bool (vEq (vals g36) (vals g28))) (fun _ => by kernel_rfl) hW (e_ssame n24 n25 g36 n8 n9 g28 w46 ((hW).get 2 rfl) ((hW).lt _ (List.mem_of_getElem? (i := 2) rfl)) ((hW).get 4 rfl) ((hW).lt _ (List.mem_of_getElem? (i := 4) rfl)) (by first | omega | exact ⟨_, by omega, hR_⟩ | exact ⟨_, by omega, hRc⟩ | exact ⟨_, by omega, hRp⟩ | exact ⟨_, by omega, hRq⟩ | exact hR_.nd | exact hwf _ (List.mem_of_getElem? (by assumption)) | exact ha.1 | exact hb.1 | (constructor <;> omega) | assumption)) ?_); clear hA ac hW; intro w48 hW hfw48 ac hA
             refine st_p (Value.bool (decide (allL g29 = allL g37) && decide (pagesM g29 = pagesM g37))) hA ?_; clear hA ac; intro ac hA
             refine st_p (Value.bool ((vEq (vals g36) (vals g28)) == (decide (allL g29 = allL g37) && decide (pagesM g29 = pagesM g37)))) hA ?_; clear hA ac; intro ac hA
             refine st_p (Value.bool ((vEq (vals g36) (vals g28)) == (decide (allL g29 = allL g37) && decide (pagesM g29 = pagesM g37)))) hA ?_; clear hA ac; intro ac hA
             refine st_p (Value.bool ((vEq (vals g36) (vals g28)) == (decide (allL g29 = allL g37) && decide (pagesM g29 = pagesM g37)))) hA ?_; clear hA ac; intro ac hA
             rcases Bool.eq_false_or_eq_true ((vEq (vals g36) (vals g28)) == (decide (allL g29 = allL g37) && decide (pagesM g29 = pagesM g37))) with h49 | h49
             · skip
               rw [h49] at hA
               have h49 := bbeq_t h49
               first
               | (exfalso; clear hA hW; omega)
               | (
                 refine st_s hA (Runs.callN (v := Value.bool true) (fun _ => by kernel_rfl) hW (e_works22 w48) ?_); clear hA ac hW; intro w50 hW hfw50 ac hA
                 refine st_p (Value.bool true) hA ?_; clear hA ac; intro ac hA
                 refine st_p (Value.bool true) hA ?_; clear hA ac; intro ac hA
                 refine wpList_nil ?_
                 refine thenN ?_
                 refine wp_ret ?_
                 refine ret1 (v := Value.bool true) (by rfl) hA (Got.tmp hA (by kernel_rfl) (by kernel_rfl)) ?_
                 clear hA
                 exact ⟨retv (by rfl), hW.fr⟩)
             · skip
               rw [h49] at hA
               have h49 := bbeq_f h49
               first
               | (exfalso; clear hA hW; omega)
               | (exfalso; clear hA hW; exact h49 (hRp.same hRq); done)
               | (exfalso; clear hA hW; exact h49 ((hRq.same hRp).trans (rsame_comm _ _)); done)
               | (
                 refine st_k hA ?_; clear hA ac; intro ac hA
                 refine st_p (Value.bool false) hA ?_; clear hA ac; intro ac hA
                 refine st_p (Value.bool false) hA ?_; clear hA ac; intro ac hA
                 refine wpList_nil ?_
                 refine thenN ?_
                 refine wp_ret ?_
                 refine ret1 (v := Value.bool false) (by rfl) hA (Got.tmp hA (by kernel_rfl) (by kernel_rfl)) ?_
                 clear hA
                 exact ⟨retv (by rfl), hW.fr⟩))
         · skip
           rw [h47] at hA
           have h47 := bbeq_f h47
           first
           | (exfalso; clear hA hW; omega)
           | (exfalso; clear hA hW; exact h47 (hRp.same hRq); done)
           | (exfalso; clear hA hW; exact h47 ((hRq.same hRp).trans (rsame_comm _ _)); done)
           | (
             refine st_k hA ?_; clear hA ac; intro ac hA
             refine st_k hA ?_; clear hA ac; intro ac hA
             refine st_k hA ?_; clear hA ac; intro ac hA
             refine st_k hA ?_; clear hA ac; intro ac hA
             refine st_k hA ?_; clear hA ac; intro ac hA
             refine st_p (Value.bool false) hA ?_; clear hA ac; intro ac hA
             refine st_p (Value.bool false) hA ?_; clear hA ac; intro ac hA
             refine st_k hA ?_; clear hA ac; intro ac hA
             refine st_p (Value.bool false) hA ?_; clear hA ac; intro ac hA
             refine st_p (Value.bool false) hA ?_; clear hA ac; intro ac hA
             refine wpList_nil ?_
             refine thenN ?_
             refine wp_ret ?_
             refine ret1 (v := Value.bool false) (by rfl) hA (Got.tmp hA (by kernel_rfl) (by kernel_rfl)) ?_
             clear hA
             exact ⟨retv (by rfl), hW.fr⟩)))

theorem shadowcopies_walk (A : Option Addr) (len cap : Nat) (l : List Act22) (a b : Act22) (w : World) (hl : l.length = len) (hc : len ≤ cap) (_ : cap ≤ maxLen) (hw : ∀ x ∈ l, wfAct22 x) (hr : RowAt w A 8 enAct22 l) (ha : wfAct22 a) (hb : wfAct22 b) :
    Calls Try.prog 5 #[.slice A len cap, a.v, b.v] w fun e w' => e = .returned (.bool true) ∧ Fr No w w' := by
  subst hl
  exact e_copies22 A cap l a b w hr hc (fun x hx => wf_act22 (hw x hx)) (wf_act22 ha) (wf_act22 hb)
end Go.Proofs.Ytcgcippmbeileaa.L
