/- Contracts, walked by program over the engine's laws. -/
import Derived.Test.YtobbocpacacnhaaProg
import Derived.Test.YtobbocpacacnhaaT18
namespace Go.Proofs.Ytobbocpacacnhaa.L
open Go.RowKit

set_option maxRecDepth 100000 in
theorem e_poolPlays (A_l : Option Addr) (c_l : Nat) (l : List Act23) (A_c : Option Addr) (c_c : Nat) (c : List Int) (w : World) (hr_l : RowAt w A_l 6 enAct23 l) (hc_l : l.length ≤ c_l) (hr_c : RowAt w A_c 1 enU c) (hc_c : c.length ≤ c_c) (hwf : ∀ x ∈ l, wfAct23 x) : Calls Try.prog 4 #[Value.slice A_l l.length c_l, Value.slice A_c c.length c_c] w (fun e w' => e = .returned (Value.bool true) ∧ Fr No w w') := by
 have _hu := hc_l; have _hv := hr_l; clear _hu _hv
 have _hu := hc_c; have _hv := hr_c; clear _hu _hv
 have _hu := hwf; clear _hu
 refine enter_E 57 Try.func4 rfl rfl (by kernel_rfl) (L := [(0, Value.slice A_l l.length c_l), (1, Value.slice A_c c.length c_c)]) (by kernel_rfl) ?_
 intro ac hA
 have hW := Ws.start w No
 have hW := hW.arg hr_l
 have hW := hW.arg hr_c
 refine wp_seq ?_
 refine wp_region_lit ?_
 refine st_rd (v := Value.bool false) hA (by kernel_rfl) (by kernel_rfl) (by kernel_rfl) hW.cls (Rd.pure fun _ => by kernel_rfl) ?_; clear hA ac; intro ac hA
 refine wpList_nil ?_
 refine thenN ?_
 refine wp_seq ?_
 refine wp_seq ?_
 refine wp_region_lit ?_
 refine st_rd (v := Value.slice A_l l.length c_l) hA (by kernel_rfl) (by kernel_rfl) (by kernel_rfl) hW.cls (Rd.pure fun _ => by kernel_rfl) ?_; clear hA ac; intro ac hA
 refine st_rd (v := Value.int .i64 ((l.length : Nat) : Int)) hA (by kernel_rfl) (by kernel_rfl) (by kernel_rfl) hW.cls (Rd.pure fun _ => by kernel_rfl) ?_; clear hA ac; intro ac hA
 refine st_rd (v := Value.bool (decide ((((l.length : Nat) : Int) : Int) > (50 : Int)))) hA (by kernel_rfl) (by kernel_rfl) (by kernel_rfl) hW.cls (Rd.pure fun _ => by kernel_rfl) ?_; clear hA ac; intro ac hA
 refine st_rd (v := Value.bool (decide ((((l.length : Nat) : Int) : Int) > (50 : Int)))) hA (by kernel_rfl) (by kernel_rfl) (by kernel_rfl) hW.cls (Rd.pure fun _ => by kernel_rfl) ?_; clear hA ac; intro ac hA
 rcases Bool.eq_false_or_eq_true (decide ((((l.length : Nat) : Int) : Int) > (50 : Int))) with h1 | h1
 · skip
   rw [h1] at hA
   have h1 := of_decide_eq_true h1
   first
   | (exfalso; clear hA hW; omega)
   | (
     refine st_skip hA (by kernel_rfl) (by kernel_rfl) ?_; clear hA ac; intro ac hA
     refine st_skip hA (by kernel_rfl) (by kernel_rfl) ?_; clear hA ac; intro ac hA
     refine st_skip hA (by kernel_rfl) (by kernel_rfl) ?_; clear hA ac; intro ac hA
     refine st_rd (v := Value.bool true) hA (by kernel_rfl) (by kernel_rfl) (by kernel_rfl) hW.cls (Rd.pure fun _ => by kernel_rfl) ?_; clear hA ac; intro ac hA
     refine wpList_nil ?_
     refine thenN ?_
     refine wp_cond_true (hA.eval (by kernel_rfl)) ?_
     refine wp_seq ?_
     refine wp_region_lit ?_
     refine st hA (by kernel_rfl) (by kernel_rfl) (by kernel_rfl) (Runs.callN (v := Value.bool true) (fun _ => by kernel_rfl) hW (e_works23 w) ?_); clear hA ac hW; intro w2 hW hfw2 ac hA
     refine st_rd (v := Value.bool true) hA (by kernel_rfl) (by kernel_rfl) (by kernel_rfl) hW.cls (Rd.pure fun _ => by kernel_rfl) ?_; clear hA ac; intro ac hA
     refine wpList_nil ?_
     refine thenN ?_
     refine wp_ret ?_
     refine thenR ?_
     refine ret1 (v := Value.bool true) (by rfl) hA (Got.tmp hA (by kernel_rfl) (by kernel_rfl)) ?_
     clear hA
     exact ⟨retv (by rfl), hW.fr⟩)
 · skip
   rw [h1] at hA
   have h1 := of_decide_eq_false h1
   first
   | (exfalso; clear hA hW; omega)
   | (
     refine st_rd (v := Value.slice A_c c.length c_c) hA (by kernel_rfl) (by kernel_rfl) (by kernel_rfl) hW.cls (Rd.pure fun _ => by kernel_rfl) ?_; clear hA ac; intro ac hA
     refine st_rd (v := Value.int .i64 ((c.length : Nat) : Int)) hA (by kernel_rfl) (by kernel_rfl) (by kernel_rfl) hW.cls (Rd.pure fun _ => by kernel_rfl) ?_; clear hA ac; intro ac hA
     refine st_rd (v := Value.bool (decide ((((c.length : Nat) : Int) : Int) > (40 : Int)))) hA (by kernel_rfl) (by kernel_rfl) (by kernel_rfl) hW.cls (Rd.pure fun _ => by kernel_rfl) ?_; clear hA ac; intro ac hA
     refine st_rd (v := Value.bool (decide ((((c.length : Nat) : Int) : Int) > (40 : Int)))) hA (by kernel_rfl) (by kernel_rfl) (by kernel_rfl) hW.cls (Rd.pure fun _ => by kernel_rfl) ?_; clear hA ac; intro ac hA
     refine wpList_nil ?_
     refine thenN ?_
     refine wp_cond_split (t := decide ((((c.length : Nat) : Int) : Int) > (40 : Int))) (hA.eval (by kernel_rfl)) (fun h3 => ?_) (fun h3 => ?_)
     · skip
       have h3 := of_decide_eq_true h3
       first
       | (exfalso; clear hA hW; omega)
       | (
         refine wp_seq ?_
         refine wp_region_lit ?_
         refine st hA (by kernel_rfl) (by kernel_rfl) (by kernel_rfl) (Runs.callN (v := Value.bool true) (fun _ => by kernel_rfl) hW (e_works23 w) ?_); clear hA ac hW; intro w4 hW hfw4 ac hA
         refine st_rd (v := Value.bool true) hA (by kernel_rfl) (by kernel_rfl) (by kernel_rfl) hW.cls (Rd.pure fun _ => by kernel_rfl) ?_; clear hA ac; intro ac hA
         refine wpList_nil ?_
         refine thenN ?_
         refine wp_ret ?_
         refine thenR ?_
         refine ret1 (v := Value.bool true) (by rfl) hA (Got.tmp hA (by kernel_rfl) (by kernel_rfl)) ?_
         clear hA
         exact ⟨retv (by rfl), hW.fr⟩)
     · skip
       have h3 := of_decide_eq_false h3
       first
       | (exfalso; clear hA hW; omega)
       | (
         refine wp_skip ?_
         refine thenN ?_
         refine wp_seq ?_
         refine wp_region_lit ?_
         refine st hA (by kernel_rfl) (by kernel_rfl) (by kernel_rfl) (Runs.call (fun _ => by kernel_rfl) (e_pNew w) ?_)
         rintro _ w5 ⟨n6, n7, rfl, hu_⟩; refine ⟨_, rfl, ?_⟩; replace hW := hW.made hu_; clear hA ac; intro ac hA
         refine st_rd (v := Value.agg #[Value.slice none 0 0]) hA (by kernel_rfl) (by kernel_rfl) (by kernel_rfl) hW.cls (Rd.pure fun _ => by kernel_rfl) ?_; clear hA ac; intro ac hA
         refine st hA (by kernel_rfl) (by kernel_rfl) (by kernel_rfl) (Runs.cells (fun b => Value.pointer (some ⟨b, 0, none⟩)) #[Value.slice none 0 0] 51 (fun _ => by kernel_rfl) hW ?_); clear hA ac hW; intro b8 w9 hW hb8 hfw9 ac hA
         refine st_rd (v := Value.pointer (some ⟨n6, 0, none⟩)) hA (by kernel_rfl) (by kernel_rfl) (by kernel_rfl) hW.cls (Rd.pure fun _ => by kernel_rfl) ?_; clear hA ac; intro ac hA
         refine st hA (by kernel_rfl) (by kernel_rfl) (by kernel_rfl) (Runs.store (v := Value.agg #[Value.slice none 0 0]) (b := b8) (j := 0) (n := 1) (cs' := #[Value.slice none 0 0]) (H' := [Cel b8 #[Value.slice none 0 0] 51, PoolR n6 n7 ([] : List (Int × Nat × List (Int × Mark)))]) (by kernel_rfl) (by kernel_rfl) (by kernel_rfl) (by kernel_rfl) (by kernel_rfl) hW 0 (by rfl) (Nat.le_of_ble_eq_true (by kernel_rfl)) (by kernel_rfl) (by rfl) ?_); clear hA ac hW; intro w10 hW ac hA
         refine wpList_nil ?_
         refine thenN ?_
         refine wp_seq ?_
         refine wp_seq ?_
         refine wp_region_lit ?_
         refine st_rd (v := Value.int .i64 0) hA (by kernel_rfl) (by kernel_rfl) (by kernel_rfl) hW.cls (Rd.pure fun _ => by kernel_rfl) ?_; clear hA ac; intro ac hA
         refine wpList_nil ?_
         refine thenN ?_
         refine wp_block ?_
         have hW := hW.addG (roR none 2 enVecE ([] : List VecE)) (.inl rfl) (by simp [roR]) (by simp [roR])
         have hW := hW.nestNil innerVecE
         have hknq11 : ∀ x_ ∈ ([] : List VecE), capVecE x_ := all_nil
         refine wp_loop_m (fun m_ ac_ wl_ => ∃ k : Nat, ∃ m : Nat, ∃ b : Nat, ∃ V : VT23, ∃ W : List VecE, ∃ AA : Option Addr, ∃ cc : Nat, m_ = l.length - k ∧ (k ≤ l.length) ∧ (Rel23 k (pv W) V) ∧ (W.length ≤ cc) ∧ (∀ x_ ∈ W, capVecE x_) ∧ Fm 57 [] [(0, Value.slice A_l l.length c_l), (1, Value.slice A_c c.length c_c), (5, Value.pointer (some ⟨m, 0, none⟩)), (6, Value.pointer (some ⟨b8, 0, none⟩)), (7, Value.int .i64 ((k : Nat) : Int))] ac_ ∧ Ws w No [Cel b8 #[Value.slice AA W.length cc] 51, PoolR m b V] [nestR innerVecE W, roR AA 2 enVecE W, roR A_c 1 enU c, roR A_l 6 enAct23 l] wl_) _ ⟨0, n6, n7, ([] : List (Int × Nat × List (Int × Mark))), ([] : List VecE), none, 0, rfl, by omega, by exact Rel23.start, by simp, by exact all_nil, hA.sub ⟨⟨by kernel_rfl, by kernel_rfl⟩, ⟨by kernel_rfl, by kernel_rfl⟩, ⟨by kernel_rfl, by kernel_rfl⟩, ⟨by kernel_rfl, by kernel_rfl⟩, ⟨by kernel_rfl, by kernel_rfl⟩, trivial⟩, (hW.pick [0, 1] (by decide) rfl).pickG [0, 1, 2, 3] rfl⟩ ?_
         clear hA ac hW; rintro m_ ac w12 ⟨k, m, b, V, W, AA, cc, rfl, hk, hRl, hcW, hkW, hA, hW⟩
         refine wp_seq ?_
         refine wp_seq ?_
         refine wp_region_lit ?_
         refine st_rd (v := Value.int .i64 ((k : Nat) : Int)) hA (by kernel_rfl) (by kernel_rfl) (by kernel_rfl) hW.cls (Rd.pure fun _ => by kernel_rfl) ?_; clear hA ac; intro ac hA
         refine st_rd (v := Value.slice A_l l.length c_l) hA (by kernel_rfl) (by kernel_rfl) (by kernel_rfl) hW.cls (Rd.pure fun _ => by kernel_rfl) ?_; clear hA ac; intro ac hA
         refine st_rd (v := Value.int .i64 ((l.length : Nat) : Int)) hA (by kernel_rfl) (by kernel_rfl) (by kernel_rfl) hW.cls (Rd.pure fun _ => by kernel_rfl) ?_; clear hA ac; intro ac hA
         refine st_rd (v := Value.bool (decide ((((k : Nat) : Int) : Int) < (((l.length : Nat) : Int) : Int)))) hA (by kernel_rfl) (by kernel_rfl) (by kernel_rfl) hW.cls (Rd.pure fun _ => by kernel_rfl) ?_; clear hA ac; intro ac hA
         refine wpList_nil ?_
         refine thenN ?_
         refine wp_cond_split (t := decide ((((k : Nat) : Int) : Int) < (((l.length : Nat) : Int) : Int))) (hA.eval (by kernel_rfl)) (fun h13 => ?_) (fun h13 => ?_)
         · skip
           have h13 := of_decide_eq_true h13
           first
           | (exfalso; clear hA hW; omega)
           | (
             refine wp_skip ?_
             refine thenN ?_
             refine wp_seq ?_
             refine wp_block ?_
             refine wp_seq ?_
             obtain ⟨y14, hy14⟩ : ∃ y, l[k]? = some y := ⟨_, List.getElem?_eq_getElem (by omega)⟩
             obtain ⟨b15, o16, rfl, hbb15⟩ := row_some ((hW).getG 3 rfl) hy14
             refine wp_cut (fun ac_ wl_ => ∃ Aor7_6 : Option Addr, ∃ br7_11 : Nat, ∃ cor7_6 : Nat, ∃ g0r7_6 : Nat, ∃ g1r7_6 : Nat, ∃ g2r7_6 : VT23, ∃ g3r7_6 : List VecE, ((g3r7_6).length ≤ cor7_6) ∧ (∀ x_ ∈ g3r7_6, capVecE x_) ∧ (∀ n, Rel23 n (pv W) V → Rel23 (n + 1) (pv g3r7_6) g2r7_6) ∧ Fm 57 [] [(0, Value.slice (some ⟨b15, o16, none⟩) l.length c_l), (1, Value.slice A_c c.length c_c), (5, Value.pointer (some ⟨m, 0, none⟩)), (6, Value.pointer (some ⟨b8, 0, none⟩)), (7, Value.int .i64 ((k : Nat) : Int)), (8, Value.pointer (some ⟨g0r7_6, 0, none⟩)), (9, Value.pointer (some ⟨br7_11, 0, none⟩)), (10, Value.bool true), (22, Value.int .i64 ((k : Nat) : Int)), (23, Value.slice (some ⟨b15, o16, none⟩) l.length c_l), (24, Value.int .i64 ((l.length : Nat) : Int)), (25, Value.bool (decide ((((k : Nat) : Int) : Int) < (((l.length : Nat) : Int) : Int))))] ac_ ∧ Ws w No [Cel br7_11 #[Value.slice Aor7_6 (g3r7_6).length cor7_6] 51, Cel b8 #[Value.slice AA W.length cc] 51, PoolR g0r7_6 g1r7_6 g2r7_6] [nestR innerVecE g3r7_6, roR Aor7_6 2 enVecE g3r7_6, nestR innerVecE W, roR AA 2 enVecE W, roR A_c 1 enU c, roR (some ⟨b15, o16, none⟩) 6 enAct23 l] wl_) ?_ ?_
             · refine sr_region (m := 15) (C := Ws w No [Cel b8 #[Value.slice AA W.length cc] 51] [nestR innerVecE W, roR AA 2 enVecE W, roR A_c 1 enU c, roR (some ⟨b15, o16, none⟩) 6 enAct23 l]) (fun i => [1, 5].contains i) (fun i => [1, 5, 11].contains i) (fun i => [0, 2, 3, 4, 7, 8, 9, 10, 12, 14].contains i) (by kernel_rfl) (by kernel_rfl) (by kernel_rfl) (by kernel_rfl) hW ?_; clear hW; intro w17 hW hfw17 hR; have hC : Ws w No [Cel b8 #[Value.slice AA W.length cc] 51] [nestR innerVecE W, roR AA 2 enVecE W, roR A_c 1 enU c, roR (some ⟨b15, o16, none⟩) 6 enAct23 l] w17 := hW.pick [0] (by decide) rfl
               refine sr_pure (i := 0) (v := Value.pointer (some ⟨m, 0, none⟩)) hR (by kernel_rfl) rfl (by kernel_rfl) (by kernel_rfl) (fun _ _ _ h => h.elim) hA (by kernel_rfl) (by kernel_rfl) (by kernel_rfl) (Rd.pure fun _ => by kernel_rfl) ?_; clear hA ac; intro ac hA
               refine sr_take (i := 1) (v := Value.agg #[Value.slice AA W.length cc]) hR (by kernel_rfl) rfl (by kernel_rfl) (by kernel_rfl) (by kernel_rfl) (fun _ _ _ h => h.elim) hA (by kernel_rfl) (by kernel_rfl) (by kernel_rfl) hC (Rd.load (b := b8) (i := 0) (by kernel_rfl) (fun _ hw => (hw).cel 0 rfl) (by kernel_rfl)) ?_; clear hA ac; intro ac hA
               refine sr_pure (i := 2) (v := Value.slice (some ⟨b15, o16, none⟩) l.length c_l) hR (by kernel_rfl) rfl (by kernel_rfl) (by kernel_rfl) (fun _ _ _ h => h.elim) hA (by kernel_rfl) (by kernel_rfl) (by kernel_rfl) (Rd.pure fun _ => by kernel_rfl) ?_; clear hA ac; intro ac hA
               refine sr_pure (i := 3) (v := Value.int .i64 ((k : Nat) : Int)) hR (by kernel_rfl) rfl (by kernel_rfl) (by kernel_rfl) (fun _ _ _ h => h.elim) hA (by kernel_rfl) (by kernel_rfl) (by kernel_rfl) (Rd.pure fun _ => by kernel_rfl) ?_; clear hA ac; intro ac hA
               refine sr_pure (i := 4) (v := Value.pointer (some ⟨b15, o16 + k * 6, none⟩)) hR (by kernel_rfl) rfl (by kernel_rfl) (by kernel_rfl) (fun _ _ _ h => h.elim) hA (by kernel_rfl) (by kernel_rfl) (by kernel_rfl) (Rd.indexAddr (e := 34) (sz := 6) (b := b15) (off := o16) (n := l.length) (c := c_l) (k := k) (by kernel_rfl) (by kernel_rfl) (by first | omega | (simp; done) | (simp; omega)) (fun _ => by kernel_rfl) (fun _ => by kernel_rfl)) ?_; clear hA ac; intro ac hA
               refine sr_take (i := 5) (v := Value.agg #[Value.int .i64 y14.what, Value.int .i64 y14.h, Value.int .i64 y14.id, Value.int .u64 y14.m.clock, Value.int .i64 y14.m.site.f, Value.int .i64 y14.m.site.pc]) hR (by kernel_rfl) rfl (by kernel_rfl) (by kernel_rfl) (by kernel_rfl) (fun _ _ _ h => h.elim) hA (by kernel_rfl) (by kernel_rfl) (by kernel_rfl) hC (Rd.loadRow (b := b15) (i := o16 + k * 6) (xs := [Value.int .i64 y14.what, Value.int .i64 y14.h, Value.int .i64 y14.id, Value.int .u64 y14.m.clock, Value.int .i64 y14.m.site.f, Value.int .i64 y14.m.site.pc]) (by kernel_rfl) (fun _ hw => row_ld ((hw).getG 3 rfl) hy14 (Fr.refl No _) (fun h => h) 0 6 (by kernel_rfl)) (by kernel_rfl)) ?_; clear hA ac; intro ac hA
               refine sr_two (i := 6) (j := 11) (by kernel_rfl) ?_ ?_
               · skip
                 refine (sr_do rfl hA (by kernel_rfl) (by kernel_rfl) (by kernel_rfl) (Runs.call (fun _ => by kernel_rfl) (e_act23 m b V AA cc W y14 w17 ((hW).get 1 rfl) ((hW).lt _ (List.mem_of_getElem? (i := 1) rfl)) ((hW).getG 1 rfl) (by first | assumption | omega | (simp; omega) | simp) ((hW).gd _ (List.mem_of_getElem? (i := 1) rfl) _ (List.mem_of_getElem? (i := 1) rfl)) ((hW).getG 0 rfl) hkW ((hW).gd _ (List.mem_of_getElem? (i := 0) rfl) _ (List.mem_of_getElem? (i := 1) rfl)) (by first | omega | exact ⟨_, by omega, hR2⟩ | exact ⟨_, by omega, hRl⟩ | exact Act23.bounds (hwf _ (List.mem_of_getElem? ‹_›)) | assumption) (by first | omega | exact ⟨_, by omega, hR2⟩ | exact ⟨_, by omega, hRl⟩ | exact Act23.bounds (hwf _ (List.mem_of_getElem? ‹_›)) | assumption)) ?_))
                 rintro _ w18 ⟨g0r7_6, g1r7_6, g2r7_6, g3r7_6, Aor7_6, cor7_6, rfl, hr7_6_hR, hccor7_6, hkcor7_6, hfcor7_6, hnfcor7_6, hdcor7_6, hnecor7_6, hu_⟩; refine ⟨_, rfl, ?_⟩; have hW0 := hW; have hW := hW.upd (H' := [Cel b8 #[Value.slice AA W.length cc] 51, PoolR g0r7_6 g1r7_6 g2r7_6]) 1 rfl hu_ rfl
                 have hW := hW0.addFromU hW 1 rfl rfl hfcor7_6 (in_cons (in_at 1 rfl) (in_cons (in_at 0 rfl) in_nil)) hdcor7_6
                 have hW := hW0.addFromU hW 1 rfl rfl hnfcor7_6 (in_cons (in_at 1 rfl) (in_cons (in_at 0 rfl) in_nil)) hnecor7_6
                 clear hW0 hu_ hfcor7_6 hdcor7_6 hnfcor7_6 hnecor7_6 hA ac; intro ac hA
                 refine ⟨⟨fun h => absurd h (by decide), fun h => absurd h (by decide)⟩, ?_⟩
                 refine sr_pure (i := 7) (v := Value.tuple #[Value.pointer (some ⟨g0r7_6, 0, none⟩), Value.agg #[Value.slice Aor7_6 (g3r7_6).length cor7_6], Value.bool true]) hR (by kernel_rfl) rfl (by kernel_rfl) (by kernel_rfl) (fun _ _ _ h => h.elim) hA (by kernel_rfl) (by kernel_rfl) (by kernel_rfl) (Rd.pure fun _ => by kernel_rfl) ?_; clear hA ac; intro ac hA
                 refine sr_pure (i := 8) (v := Value.pointer (some ⟨g0r7_6, 0, none⟩)) hR (by kernel_rfl) rfl (by kernel_rfl) (by kernel_rfl) (fun _ _ _ h => h.elim) hA (by kernel_rfl) (by kernel_rfl) (by kernel_rfl) (Rd.pure fun _ => by kernel_rfl) ?_; clear hA ac; intro ac hA
                 refine sr_pure (i := 9) (v := Value.agg #[Value.slice Aor7_6 (g3r7_6).length cor7_6]) hR (by kernel_rfl) rfl (by kernel_rfl) (by kernel_rfl) (fun _ _ _ h => h.elim) hA (by kernel_rfl) (by kernel_rfl) (by kernel_rfl) (Rd.pure fun _ => by kernel_rfl) ?_; clear hA ac; intro ac hA
                 refine sr_pure (i := 10) (v := Value.bool true) hR (by kernel_rfl) rfl (by kernel_rfl) (by kernel_rfl) (fun _ _ _ h => h.elim) hA (by kernel_rfl) (by kernel_rfl) (by kernel_rfl) (Rd.pure fun _ => by kernel_rfl) ?_; clear hA ac; intro ac hA
                 refine sr_one (i := 11) (by kernel_rfl) (sr_do rfl hA (by kernel_rfl) (by kernel_rfl) (by kernel_rfl) (Runs.cells (fun b => Value.pointer (some ⟨b, 0, none⟩)) #[Value.slice none 0 0] 51 (fun _ => by kernel_rfl) hW ?_)); clear hA ac hW; intro br7_11 w19 hW hbr7_11 hfw19 ac hA
                 refine ⟨⟨fun _ => (hW.pick [1] (by decide) rfl).pickG [2, 3, 4, 5] rfl, fun h => absurd h (by decide)⟩, ?_⟩; have hC : Ws w No [Cel b8 #[Value.slice AA W.length cc] 51] [nestR innerVecE W, roR AA 2 enVecE W, roR A_c 1 enU c, roR (some ⟨b15, o16, none⟩) 6 enAct23 l] w19 := (hW.pick [1] (by decide) rfl).pickG [2, 3, 4, 5] rfl
                 refine sr_pure (i := 12) (v := Value.pointer (some ⟨g0r7_6, 0, none⟩)) hR (by kernel_rfl) rfl (by kernel_rfl) (by kernel_rfl) (fun _ _ _ h => h.elim) hA (by kernel_rfl) (by kernel_rfl) (by kernel_rfl) (Rd.pure fun _ => by kernel_rfl) ?_; clear hA ac; intro ac hA
                 refine sr_one (i := 13) (by kernel_rfl) (sr_do rfl hA (by kernel_rfl) (by kernel_rfl) (by kernel_rfl) (Runs.store (v := Value.agg #[Value.slice Aor7_6 (g3r7_6).length cor7_6]) (b := br7_11) (j := 0) (n := 1) (cs' := #[Value.slice Aor7_6 (g3r7_6).length cor7_6]) (H' := [Cel br7_11 #[Value.slice Aor7_6 (g3r7_6).length cor7_6] 51, Cel b8 #[Value.slice AA W.length cc] 51, PoolR g0r7_6 g1r7_6 g2r7_6]) (by kernel_rfl) (by kernel_rfl) (by kernel_rfl) (by kernel_rfl) (by kernel_rfl) hW 0 (by rfl) (Nat.le_of_ble_eq_true (by kernel_rfl)) (by kernel_rfl) (by rfl) ?_)); clear hA ac hW; intro w20 hW ac hA
                 refine ⟨⟨fun h => absurd h (by decide), fun h => absurd h (by decide)⟩, ?_⟩
                 refine sr_pure (i := 14) (v := Value.bool true) hR (by kernel_rfl) rfl (by kernel_rfl) (by kernel_rfl) (fun _ _ _ h => h.elim) hA (by kernel_rfl) (by kernel_rfl) (by kernel_rfl) (Rd.pure fun _ => by kernel_rfl) ?_; clear hA ac; intro ac hA
                 refine sr_done (by kernel_rfl) ?_ _
                 exact ⟨Aor7_6, br7_11, cor7_6, g0r7_6, g1r7_6, g2r7_6, g3r7_6, hccor7_6, hkcor7_6, hr7_6_hR, hA.sub ⟨⟨by kernel_rfl, by kernel_rfl⟩, ⟨by kernel_rfl, by kernel_rfl⟩, ⟨by kernel_rfl, by kernel_rfl⟩, ⟨by kernel_rfl, by kernel_rfl⟩, ⟨by kernel_rfl, by kernel_rfl⟩, ⟨by kernel_rfl, by kernel_rfl⟩, ⟨by kernel_rfl, by kernel_rfl⟩, ⟨by kernel_rfl, by kernel_rfl⟩, ⟨by kernel_rfl, by kernel_rfl⟩, ⟨by kernel_rfl, by kernel_rfl⟩, ⟨by kernel_rfl, by kernel_rfl⟩, ⟨by kernel_rfl, by kernel_rfl⟩, trivial⟩, (hW.pick [0, 1, 2] (by decide) rfl).pickG [0, 1, 2, 3, 4, 5] rfl⟩
               · skip
                 refine (sr_do rfl hA (by kernel_rfl) (by kernel_rfl) (by kernel_rfl) (Runs.cells (fun b => Value.pointer (some ⟨b, 0, none⟩)) #[Value.slice none 0 0] 51 (fun _ => by kernel_rfl) hW ?_)); clear hA ac hW; intro br7_11 w21 hW hbr7_11 hfw21 ac hA
                 refine ⟨⟨fun _ => (hW.pick [1] (by decide) rfl).pickG [0, 1, 2, 3] rfl, fun h => absurd h (by decide)⟩, ?_⟩; have hC : Ws w No [Cel b8 #[Value.slice AA W.length cc] 51] [nestR innerVecE W, roR AA 2 enVecE W, roR A_c 1 enU c, roR (some ⟨b15, o16, none⟩) 6 enAct23 l] w21 := (hW.pick [1] (by decide) rfl).pickG [0, 1, 2, 3] rfl
                 refine sr_one (i := 6) (by kernel_rfl) (sr_do rfl hA (by kernel_rfl) (by kernel_rfl) (by kernel_rfl) (Runs.call (fun _ => by kernel_rfl) (e_act23 m b V AA cc W y14 w21 ((hW).get 2 rfl) ((hW).lt _ (List.mem_of_getElem? (i := 2) rfl)) ((hW).getG 1 rfl) (by first | assumption | omega | (simp; omega) | simp) ((hW).gd _ (List.mem_of_getElem? (i := 1) rfl) _ (List.mem_of_getElem? (i := 2) rfl)) ((hW).getG 0 rfl) hkW ((hW).gd _ (List.mem_of_getElem? (i := 0) rfl) _ (List.mem_of_getElem? (i := 2) rfl)) (by first | omega | exact ⟨_, by omega, hR2⟩ | exact ⟨_, by omega, hRl⟩ | exact Act23.bounds (hwf _ (List.mem_of_getElem? ‹_›)) | assumption) (by first | omega | exact ⟨_, by omega, hR2⟩ | exact ⟨_, by omega, hRl⟩ | exact Act23.bounds (hwf _ (List.mem_of_getElem? ‹_›)) | assumption)) ?_))
                 rintro _ w22 ⟨g0r7_6, g1r7_6, g2r7_6, g3r7_6, Aor7_6, cor7_6, rfl, hr7_6_hR, hccor7_6, hkcor7_6, hfcor7_6, hnfcor7_6, hdcor7_6, hnecor7_6, hu_⟩; refine ⟨_, rfl, ?_⟩; have hW0 := hW; have hW := hW.upd (H' := [Cel br7_11 #[Value.slice none 0 0] 51, Cel b8 #[Value.slice AA W.length cc] 51, PoolR g0r7_6 g1r7_6 g2r7_6]) 2 rfl hu_ rfl
                 have hW := hW0.addFromU hW 2 rfl rfl hfcor7_6 (in_cons (in_at 1 rfl) (in_cons (in_at 0 rfl) in_nil)) hdcor7_6
                 have hW := hW0.addFromU hW 2 rfl rfl hnfcor7_6 (in_cons (in_at 1 rfl) (in_cons (in_at 0 rfl) in_nil)) hnecor7_6
                 clear hW0 hu_ hfcor7_6 hdcor7_6 hnfcor7_6 hnecor7_6 hA ac; intro ac hA
                 refine ⟨⟨fun h => absurd h (by decide), fun h => absurd h (by decide)⟩, ?_⟩
                 refine sr_pure (i := 7) (v := Value.tuple #[Value.pointer (some ⟨g0r7_6, 0, none⟩), Value.agg #[Value.slice Aor7_6 (g3r7_6).length cor7_6], Value.bool true]) hR (by kernel_rfl) rfl (by kernel_rfl) (by kernel_rfl) (fun _ _ _ h => h.elim) hA (by kernel_rfl) (by kernel_rfl) (by kernel_rfl) (Rd.pure fun _ => by kernel_rfl) ?_; clear hA ac; intro ac hA
                 refine sr_pure (i := 8) (v := Value.pointer (some ⟨g0r7_6, 0, none⟩)) hR (by kernel_rfl) rfl (by kernel_rfl) (by kernel_rfl) (fun _ _ _ h => h.elim) hA (by kernel_rfl) (by kernel_rfl) (by kernel_rfl) (Rd.pure fun _ => by kernel_rfl) ?_; clear hA ac; intro ac hA
                 refine sr_pure (i := 9) (v := Value.agg #[Value.slice Aor7_6 (g3r7_6).length cor7_6]) hR (by kernel_rfl) rfl (by kernel_rfl) (by kernel_rfl) (fun _ _ _ h => h.elim) hA (by kernel_rfl) (by kernel_rfl) (by kernel_rfl) (Rd.pure fun _ => by kernel_rfl) ?_; clear hA ac; intro ac hA
                 refine sr_pure (i := 10) (v := Value.bool true) hR (by kernel_rfl) rfl (by kernel_rfl) (by kernel_rfl) (fun _ _ _ h => h.elim) hA (by kernel_rfl) (by kernel_rfl) (by kernel_rfl) (Rd.pure fun _ => by kernel_rfl) ?_; clear hA ac; intro ac hA
                 refine sr_pure (i := 12) (v := Value.pointer (some ⟨g0r7_6, 0, none⟩)) hR (by kernel_rfl) rfl (by kernel_rfl) (by kernel_rfl) (fun _ _ _ h => h.elim) hA (by kernel_rfl) (by kernel_rfl) (by kernel_rfl) (Rd.pure fun _ => by kernel_rfl) ?_; clear hA ac; intro ac hA
                 refine sr_one (i := 13) (by kernel_rfl) (sr_do rfl hA (by kernel_rfl) (by kernel_rfl) (by kernel_rfl) (Runs.store (v := Value.agg #[Value.slice Aor7_6 (g3r7_6).length cor7_6]) (b := br7_11) (j := 0) (n := 1) (cs' := #[Value.slice Aor7_6 (g3r7_6).length cor7_6]) (H' := [Cel br7_11 #[Value.slice Aor7_6 (g3r7_6).length cor7_6] 51, Cel b8 #[Value.slice AA W.length cc] 51, PoolR g0r7_6 g1r7_6 g2r7_6]) (by kernel_rfl) (by kernel_rfl) (by kernel_rfl) (by kernel_rfl) (by kernel_rfl) hW 0 (by rfl) (Nat.le_of_ble_eq_true (by kernel_rfl)) (by kernel_rfl) (by rfl) ?_)); clear hA ac hW; intro w23 hW ac hA
                 refine ⟨⟨fun h => absurd h (by decide), fun h => absurd h (by decide)⟩, ?_⟩
                 refine sr_pure (i := 14) (v := Value.bool true) hR (by kernel_rfl) rfl (by kernel_rfl) (by kernel_rfl) (fun _ _ _ h => h.elim) hA (by kernel_rfl) (by kernel_rfl) (by kernel_rfl) (Rd.pure fun _ => by kernel_rfl) ?_; clear hA ac; intro ac hA
                 refine sr_done (by kernel_rfl) ?_ _
                 exact ⟨Aor7_6, br7_11, cor7_6, g0r7_6, g1r7_6, g2r7_6, g3r7_6, hccor7_6, hkcor7_6, hr7_6_hR, hA.sub ⟨⟨by kernel_rfl, by kernel_rfl⟩, ⟨by kernel_rfl, by kernel_rfl⟩, ⟨by kernel_rfl, by kernel_rfl⟩, ⟨by kernel_rfl, by kernel_rfl⟩, ⟨by kernel_rfl, by kernel_rfl⟩, ⟨by kernel_rfl, by kernel_rfl⟩, ⟨by kernel_rfl, by kernel_rfl⟩, ⟨by kernel_rfl, by kernel_rfl⟩, ⟨by kernel_rfl, by kernel_rfl⟩, ⟨by kernel_rfl, by kernel_rfl⟩, ⟨by kernel_rfl, by kernel_rfl⟩, ⟨by kernel_rfl, by kernel_rfl⟩, trivial⟩, (hW.pick [0, 1, 2] (by decide) rfl).pickG [0, 1, 2, 3, 4, 5] rfl⟩
             clear hA ac hW; rintro ac w24 ⟨Aor7_6, br7_11, cor7_6, g0r7_6, g1r7_6, g2r7_6, g3r7_6, hccor7_6, hkcor7_6, hr7_6_hR, hA, hW⟩
             refine thenN ?_
             refine wp_seq ?_
             refine wp_cut (fun ac_ wl_ => Fm 57 [] [(0, Value.slice (some ⟨b15, o16, none⟩) l.length c_l), (1, Value.slice A_c c.length c_c), (5, Value.pointer (some ⟨g0r7_6, 0, none⟩)), (6, Value.pointer (some ⟨b8, 0, none⟩)), (7, Value.int .i64 ((k : Nat) : Int)), (9, Value.pointer (some ⟨br7_11, 0, none⟩)), (10, Value.bool true), (22, Value.int .i64 ((k : Nat) : Int)), (23, Value.slice (some ⟨b15, o16, none⟩) l.length c_l), (24, Value.int .i64 ((l.length : Nat) : Int)), (25, Value.bool (decide ((((k : Nat) : Int) : Int) < (((l.length : Nat) : Int) : Int))))] ac_ ∧ Ws w No [Cel br7_11 #[Value.slice Aor7_6 (g3r7_6).length cor7_6] 51, Cel b8 #[Value.slice Aor7_6 (g3r7_6).length cor7_6] 51, PoolR g0r7_6 g1r7_6 g2r7_6] [nestR innerVecE g3r7_6, roR Aor7_6 2 enVecE g3r7_6, nestR innerVecE W, roR AA 2 enVecE W, roR A_c 1 enU c, roR (some ⟨b15, o16, none⟩) 6 enAct23 l] wl_) ?_ ?_
             · refine sr_region (m := 4) (C := Ws w No [Cel br7_11 #[Value.slice Aor7_6 (g3r7_6).length cor7_6] 51, Cel b8 #[Value.slice AA W.length cc] 51, PoolR g0r7_6 g1r7_6 g2r7_6] [nestR innerVecE g3r7_6, roR Aor7_6 2 enVecE g3r7_6, nestR innerVecE W, roR AA 2 enVecE W, roR A_c 1 enU c, roR (some ⟨b15, o16, none⟩) 6 enAct23 l]) (fun i => [1].contains i) (fun i => [1].contains i) (fun i => [0, 2].contains i) (by kernel_rfl) (by kernel_rfl) (by kernel_rfl) (by kernel_rfl) hW ?_; clear hW; intro w25 hW hfw25 hR; have hC : Ws w No [Cel br7_11 #[Value.slice Aor7_6 (g3r7_6).length cor7_6] 51, Cel b8 #[Value.slice AA W.length cc] 51, PoolR g0r7_6 g1r7_6 g2r7_6] [nestR innerVecE g3r7_6, roR Aor7_6 2 enVecE g3r7_6, nestR innerVecE W, roR AA 2 enVecE W, roR A_c 1 enU c, roR (some ⟨b15, o16, none⟩) 6 enAct23 l] w25 := hW.pick [0, 1, 2] (by decide) rfl
               refine sr_pure (i := 0) (v := Value.pointer (some ⟨g0r7_6, 0, none⟩)) hR (by kernel_rfl) rfl (by kernel_rfl) (by kernel_rfl) (fun _ _ _ h => h.elim) hA (by kernel_rfl) (by kernel_rfl) (by kernel_rfl) (Rd.pure fun _ => by kernel_rfl) ?_; clear hA ac; intro ac hA
               refine sr_take (i := 1) (v := Value.agg #[Value.slice Aor7_6 (g3r7_6).length cor7_6]) hR (by kernel_rfl) rfl (by kernel_rfl) (by kernel_rfl) (by kernel_rfl) (fun _ _ _ h => h.elim) hA (by kernel_rfl) (by kernel_rfl) (by kernel_rfl) hC (Rd.load (b := br7_11) (i := 0) (by kernel_rfl) (fun _ hw => (hw).cel 0 rfl) (by kernel_rfl)) ?_; clear hA ac; intro ac hA
               refine sr_pure (i := 2) (v := Value.pointer (some ⟨g0r7_6, 0, none⟩)) hR (by kernel_rfl) rfl (by kernel_rfl) (by kernel_rfl) (fun _ _ _ h => h.elim) hA (by kernel_rfl) (by kernel_rfl) (by kernel_rfl) (Rd.pure fun _ => by kernel_rfl) ?_; clear hA ac; intro ac hA
               refine sr_one (i := 3) (by kernel_rfl) (sr_do rfl hA (by kernel_rfl) (by kernel_rfl) (by kernel_rfl) (Runs.store (v := Value.agg #[Value.slice Aor7_6 (g3r7_6).length cor7_6]) (b := b8) (j := 0) (n := 1) (cs' := #[Value.slice Aor7_6 (g3r7_6).length cor7_6]) (H' := [Cel br7_11 #[Value.slice Aor7_6 (g3r7_6).length cor7_6] 51, Cel b8 #[Value.slice Aor7_6 (g3r7_6).length cor7_6] 51, PoolR g0r7_6 g1r7_6 g2r7_6]) (by kernel_rfl) (by kernel_rfl) (by kernel_rfl) (by kernel_rfl) (by kernel_rfl) hW 1 (by rfl) (Nat.le_of_ble_eq_true (by kernel_rfl)) (by kernel_rfl) (by rfl) ?_)); clear hA ac hW; intro w26 hW ac hA
               refine ⟨⟨fun h => absurd h (by decide), fun h => absurd h (by decide)⟩, ?_⟩
               refine sr_done (by kernel_rfl) ?_ _
               exact ⟨hA.sub ⟨⟨by kernel_rfl, by kernel_rfl⟩, ⟨by kernel_rfl, by kernel_rfl⟩, ⟨by kernel_rfl, by kernel_rfl⟩, ⟨by kernel_rfl, by kernel_rfl⟩, ⟨by kernel_rfl, by kernel_rfl⟩, ⟨by kernel_rfl, by kernel_rfl⟩, ⟨by kernel_rfl, by kernel_rfl⟩, ⟨by kernel_rfl, by kernel_rfl⟩, ⟨by kernel_rfl, by kernel_rfl⟩, ⟨by kernel_rfl, by kernel_rfl⟩, ⟨by kernel_rfl, by kernel_rfl⟩, trivial⟩, (hW.pick [0, 1, 2] (by decide) rfl).pickG [0, 1, 2, 3, 4, 5] rfl⟩
             clear hA ac hW; rintro ac w27 ⟨hA, hW⟩
             refine thenN ?_
             refine wp_seq ?_
             have hR2 := hr7_6_hR k hRl
             refine q_region (by kernel_rfl) (by kernel_rfl) hW ?_
             refine sq_rd (v := Value.bool true) hA (by kernel_rfl) (by kernel_rfl) (by kernel_rfl) (Rd.pure fun _ => by kernel_rfl) ?_; clear hA ac; intro ac hA
             refine sq_rd (v := Value.bool false) hA (by kernel_rfl) (by kernel_rfl) (by kernel_rfl) (Rd.pure fun _ => by kernel_rfl) ?_; clear hA ac; intro ac hA
             refine sq_rd (v := Value.bool false) hA (by kernel_rfl) (by kernel_rfl) (by kernel_rfl) (Rd.pure fun _ => by kernel_rfl) ?_; clear hA ac; intro ac hA
             refine sq_rd (v := Value.pointer (some ⟨g0r7_6, 0, none⟩)) hA (by kernel_rfl) (by kernel_rfl) (by kernel_rfl) (Rd.pure fun _ => by kernel_rfl) ?_; clear hA ac; intro ac hA
             refine sq_rd (v := Value.agg #[Value.slice Aor7_6 (g3r7_6).length cor7_6]) hA (by kernel_rfl) (by kernel_rfl) (by kernel_rfl) (Rd.load (b := b8) (i := 0) (by kernel_rfl) (fun _ hw => (hw.1).cel 1 rfl) (by kernel_rfl)) ?_; clear hA ac; intro ac hA
             refine sq_rd (v := Value.slice (some ⟨b15, o16, none⟩) l.length c_l) hA (by kernel_rfl) (by kernel_rfl) (by kernel_rfl) (Rd.pure fun _ => by kernel_rfl) ?_; clear hA ac; intro ac hA
             refine sq_rd (v := Value.int .i64 ((k : Nat) : Int)) hA (by kernel_rfl) (by kernel_rfl) (by kernel_rfl) (Rd.pure fun _ => by kernel_rfl) ?_; clear hA ac; intro ac hA
             refine sq_rd (v := Value.pointer (some ⟨b15, o16 + k * 6, none⟩)) hA (by kernel_rfl) (by kernel_rfl) (by kernel_rfl) (Rd.indexAddr (e := 34) (sz := 6) (b := b15) (off := o16) (n := l.length) (c := c_l) (k := k) (by kernel_rfl) (by kernel_rfl) (by first | omega | (simp; done) | (simp; omega)) (fun _ => by kernel_rfl) (fun _ => by kernel_rfl)) ?_; clear hA ac; intro ac hA
             refine sq_rd (v := Value.agg #[Value.int .i64 y14.what, Value.int .i64 y14.h, Value.int .i64 y14.id, Value.int .u64 y14.m.clock, Value.int .i64 y14.m.site.f, Value.int .i64 y14.m.site.pc]) hA (by kernel_rfl) (by kernel_rfl) (by kernel_rfl) (Rd.loadRow (b := b15) (i := o16 + k * 6) (xs := [Value.int .i64 y14.what, Value.int .i64 y14.h, Value.int .i64 y14.id, Value.int .u64 y14.m.clock, Value.int .i64 y14.m.site.f, Value.int .i64 y14.m.site.pc]) (by kernel_rfl) (fun _ hw => row_ld ((hw.1).getG 5 rfl) hy14 (Fr.refl No _) (fun h => h) 0 6 (by kernel_rfl)) (by kernel_rfl)) ?_; clear hA ac; intro ac hA
             refine sq_rd (v := Value.slice A_c c.length c_c) hA (by kernel_rfl) (by kernel_rfl) (by kernel_rfl) (Rd.pure fun _ => by kernel_rfl) ?_; clear hA ac; intro ac hA
             refine sq_rd (v := Value.int .i64 ((k : Nat) : Int)) hA (by kernel_rfl) (by kernel_rfl) (by kernel_rfl) (Rd.pure fun _ => by kernel_rfl) ?_; clear hA ac; intro ac hA
             refine sq_rd (v := Value.int .i64 ((k % 4 : Nat) : Int)) hA (by kernel_rfl) (by kernel_rfl) (by kernel_rfl) (Rd.pureE (v0 := Value.int .i64 (Int.tmod (((k : Nat) : Int) : Int) 4)) (fun _ => by kernel_rfl) (congrArg (Value.int .i64) (rem_ (x := ((k : Nat) : Int)) (by omega)))) ?_; clear hA ac; intro ac hA
             refine sq_call (v := Value.bool true) hA (by kernel_rfl) (by kernel_rfl) (by kernel_rfl) (fun _ => by kernel_rfl) (Cls.callNC fun wx hwx => e_is23 g0r7_6 g1r7_6 g2r7_6 Aor7_6 cor7_6 g3r7_6 y14 A_c c_c c (((k % 4 : Nat) : Int)) wx ((hwx.1).get 2 rfl) ((hwx.1).lt _ (List.mem_of_getElem? (i := 2) rfl)) ((hwx.1).getG 1 rfl) (by first | assumption | omega | (simp; omega) | simp) ((hwx.1).getG 0 rfl) hkcor7_6 ((hwx.1).getG 4 rfl) (by first | assumption | omega | (simp; omega) | simp) (by first | omega | exact ⟨_, by omega, hR2⟩ | exact ⟨_, by omega, hRl⟩ | exact Act23.bounds (hwf _ (List.mem_of_getElem? ‹_›)) | assumption) (by first | omega | exact ⟨_, by omega, hR2⟩ | exact ⟨_, by omega, hRl⟩ | exact Act23.bounds (hwf _ (List.mem_of_getElem? ‹_›)) | assumption)) ?_; clear hA ac; intro ac hA
             refine sq_rd (v := Value.bool false) hA (by kernel_rfl) (by kernel_rfl) (by kernel_rfl) (Rd.pure fun _ => by kernel_rfl) ?_; clear hA ac; intro ac hA
             refine sq_rd (v := Value.bool false) hA (by kernel_rfl) (by kernel_rfl) (by kernel_rfl) (Rd.pure fun _ => by kernel_rfl) ?_; clear hA ac; intro ac hA
             refine sq_nil ?_; intro w28 hww28; have hW := hww28.1; have hfw28 := hww28.2; clear hww28
             refine thenN ?_
             refine wp_cond_false (hA.eval (by kernel_rfl)) ?_
             refine wp_skip ?_
             refine blkN ?_
             refine thenN ?_
             refine wp_region_lit ?_
             refine st_rd (v := Value.int .i64 ((k : Nat) : Int)) hA (by kernel_rfl) (by kernel_rfl) (by kernel_rfl) hW.cls (Rd.pure fun _ => by kernel_rfl) ?_; clear hA ac; intro ac hA
             refine st_rd (v := Value.int .i64 ((k + 1 : Nat) : Int)) hA (by kernel_rfl) (by kernel_rfl) (by kernel_rfl) hW.cls (Rd.pureE (v0 := Value.int .i64 (IntKind.i64.wrap ((((k : Nat) : Int) : Int) + 1))) (fun _ => by kernel_rfl) (congrArg (Value.int .i64) ((w_i64 (x := (((k : Nat) : Int) : Int) + 1) (by omega) (by omega)).trans (by omega)))) ?_; clear hA ac; intro ac hA
             refine st_rd (v := Value.int .i64 ((k + 1 : Nat) : Int)) hA (by kernel_rfl) (by kernel_rfl) (by kernel_rfl) hW.cls (Rd.pure fun _ => by kernel_rfl) ?_; clear hA ac; intro ac hA
             refine wpList_nil ?_
             refine thenN ?_
             exact ⟨l.length - (k + 1), by omega, k + 1, g0r7_6, g1r7_6, g2r7_6, g3r7_6, Aor7_6, cor7_6, rfl, by omega, by exact hr7_6_hR k hRl, by first | exact hccor7_6 | simp, by exact hkcor7_6, hA.sub ⟨⟨by kernel_rfl, by kernel_rfl⟩, ⟨by kernel_rfl, by kernel_rfl⟩, ⟨by kernel_rfl, by kernel_rfl⟩, ⟨by kernel_rfl, by kernel_rfl⟩, ⟨by kernel_rfl, by kernel_rfl⟩, trivial⟩, (hW.pick [1, 2] (by decide) rfl).pickG [0, 1, 4, 5] rfl⟩)
         · skip
           have h13 := of_decide_eq_false h13
           first
           | (exfalso; clear hA hW; omega)
           | (
             refine wp_exit ?_
             refine thenX ?_
             refine thenX ?_
             refine blkX ?_
             refine thenN ?_
             refine wp_seq ?_
             refine wp_region_lit ?_
             refine st hA (by kernel_rfl) (by kernel_rfl) (by kernel_rfl) (Runs.callN (v := Value.bool true) (fun _ => by kernel_rfl) hW (e_works23 w12) ?_); clear hA ac hW; intro w29 hW hfw29 ac hA
             refine st_rd (v := Value.bool true) hA (by kernel_rfl) (by kernel_rfl) (by kernel_rfl) hW.cls (Rd.pure fun _ => by kernel_rfl) ?_; clear hA ac; intro ac hA
             refine wpList_nil ?_
             refine thenN ?_
             refine wp_ret ?_
             refine ret1 (v := Value.bool true) (by rfl) hA (Got.tmp hA (by kernel_rfl) (by kernel_rfl)) ?_
             clear hA
             exact ⟨retv (by rfl), hW.fr⟩)))

theorem plays23_walk (A : Option Addr) (len cap : Nat) (l : List Act23) (A2 : Option Addr) (len2 cap2 : Nat) (c : List Int) (w : World) (hl : l.length = len) (hc : len ≤ cap) (_ : cap ≤ maxLen) (hwf : ∀ x ∈ l, wfAct23 x) (hr : RowAt w A 6 enAct23 l) (hl2 : c.length = len2) (hc2 : len2 ≤ cap2) (_ : cap2 ≤ maxLen) (_ : ∀ x ∈ c, wfU x) (hr2 : RowAt w A2 1 enU c) :
    Calls Try.prog 4 #[.slice A len cap, .slice A2 len2 cap2] w fun e w' => e = .returned (.bool true) ∧ Fr No w w' := by
  subst hl hl2
  exact e_poolPlays A cap l A2 cap2 c w hr hc hr2 hc2 hwf
end Go.Proofs.Ytobbocpacacnhaa.L
