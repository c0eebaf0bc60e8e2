/- Contracts, walked by program over the engine's laws. -/
import Derived.Test.YtobbocpacacnhaaProg
import Derived.Test.YtobbocpacacnhaaT7P
import Derived.Test.YtobbocpacacnhaaE15
namespace Go.Proofs.Ytobbocpacacnhaa.L
open Go.RowKit

abbrev M5 : Mark := ⟨5, ⟨0, 0⟩⟩
set_option maxRecDepth 100000 in
theorem e_ints (A_l : Option Addr) (c_l : Nat) (l : List Int) (A_r : Option Addr) (c_r : Nat) (r : List Int) (w : World) (hr_l : RowAt w A_l 1 enI l) (hc_l : l.length ≤ c_l) (hr_r : RowAt w A_r 1 enI r) (hc_r : r.length ≤ c_r) (hl : l.length ≤ 100000 ∧ r.length ≤ 100000) : Calls Try.prog 22 #[Value.slice A_l l.length c_l, Value.slice A_r r.length c_r] w (fun e w' => e = .returned (Value.bool (decide (l = r))) ∧ Fr No w w') := by
 have _hu := hc_l; have _hv := hr_l; clear _hu _hv
 have _hu := hc_r; have _hv := hr_r; clear _hu _hv
 have _hu := hl; clear _hu
 refine enter_E 26 Try.func22 rfl rfl (by kernel_rfl) (L := [(0, Value.slice A_l l.length c_l), (1, Value.slice A_r r.length c_r)]) (by kernel_rfl) ?_
 intro ac hA
 have hW := Ws.start w No
 have hW := hW.arg hr_l
 have hW := hW.arg hr_r
 refine wp_seq ?_
 refine wp_region_lit ?_
 refine st_rd (v := Value.bool false) hA (by kernel_rfl) (by kernel_rfl) (by kernel_rfl) hW.cls (Rd.pure fun _ => by kernel_rfl) ?_; clear hA ac; intro ac hA
 refine wpList_nil ?_
 refine thenN ?_
 refine wp_seq ?_
 refine wp_seq ?_
 refine wp_region_lit ?_
 refine st_rd (v := Value.slice A_l l.length c_l) hA (by kernel_rfl) (by kernel_rfl) (by kernel_rfl) hW.cls (Rd.pure fun _ => by kernel_rfl) ?_; clear hA ac; intro ac hA
 refine st_rd (v := Value.int .i64 ((l.length : Nat) : Int)) hA (by kernel_rfl) (by kernel_rfl) (by kernel_rfl) hW.cls (Rd.pure fun _ => by kernel_rfl) ?_; clear hA ac; intro ac hA
 refine st_rd (v := Value.slice A_r r.length c_r) hA (by kernel_rfl) (by kernel_rfl) (by kernel_rfl) hW.cls (Rd.pure fun _ => by kernel_rfl) ?_; clear hA ac; intro ac hA
 refine st_rd (v := Value.int .i64 ((r.length : Nat) : Int)) hA (by kernel_rfl) (by kernel_rfl) (by kernel_rfl) hW.cls (Rd.pure fun _ => by kernel_rfl) ?_; clear hA ac; intro ac hA
 refine st_rd (v := Value.bool ((((l.length : Nat) : Int) : Int) != (((r.length : Nat) : Int) : Int))) hA (by kernel_rfl) (by kernel_rfl) (by kernel_rfl) hW.cls (Rd.pure fun _ => by kernel_rfl) ?_; clear hA ac; intro ac hA
 refine wpList_nil ?_
 refine thenN ?_
 refine wp_cond_split (t := (((l.length : Nat) : Int) : Int) != (((r.length : Nat) : Int) : Int)) (hA.eval (by kernel_rfl)) (fun h1 => ?_) (fun h1 => ?_)
 · skip
   have h1 := bne_iff_ne.1 h1
   first
   | (exfalso; clear hA hW; omega)
   | (
     refine wp_seq ?_
     refine wp_region_lit ?_
     refine st_rd (v := Value.bool false) hA (by kernel_rfl) (by kernel_rfl) (by kernel_rfl) hW.cls (Rd.pure fun _ => by kernel_rfl) ?_; clear hA ac; intro ac hA
     refine wpList_nil ?_
     refine thenN ?_
     refine wp_ret ?_
     refine thenR ?_
     refine ret1 (v := Value.bool false) (by rfl) hA (Got.tmp hA (by kernel_rfl) (by kernel_rfl)) ?_
     clear hA
     refine ⟨retv (congrArg Value.bool (decide_eq_false ?_).symm), hW.fr⟩; intro e; subst e; exact absurd rfl (by omega))
 · skip
   have h1 := of_bne_f h1
   first
   | (exfalso; clear hA hW; omega)
   | (
     refine wp_skip ?_
     refine thenN ?_
     refine wp_seq ?_
     refine wp_seq ?_
     refine wp_region_lit ?_
     refine st_rd (v := Value.int .i64 0) hA (by kernel_rfl) (by kernel_rfl) (by kernel_rfl) hW.cls (Rd.pure fun _ => by kernel_rfl) ?_; clear hA ac; intro ac hA
     refine wpList_nil ?_
     refine thenN ?_
     refine wp_block ?_
     refine wp_loop_m (fun m_ ac_ wl_ => ∃ k : Nat, m_ = l.length - k ∧ (k ≤ l.length) ∧ (l.take k = r.take k) ∧ Fm 26 [] [(0, Value.slice A_l l.length c_l), (1, Value.slice A_r r.length c_r), (5, Value.int .i64 ((k : Nat) : Int))] ac_ ∧ Ws w No [] [roR A_r 1 enI r, roR A_l 1 enI l] wl_) _ ⟨0, rfl, by omega, by rfl, hA.sub ⟨⟨by kernel_rfl, by kernel_rfl⟩, ⟨by kernel_rfl, by kernel_rfl⟩, ⟨by kernel_rfl, by kernel_rfl⟩, trivial⟩, (hW.pick [] (by decide) rfl).pickG [0, 1] rfl⟩ ?_
     clear hA ac hW; rintro m_ ac w2 ⟨k, rfl, hk, hn, hA, hW⟩
     refine wp_seq ?_
     refine wp_seq ?_
     refine wp_region_lit ?_
     refine st_rd (v := Value.int .i64 ((k : Nat) : Int)) hA (by kernel_rfl) (by kernel_rfl) (by kernel_rfl) hW.cls (Rd.pure fun _ => by kernel_rfl) ?_; clear hA ac; intro ac hA
     refine st_rd (v := Value.slice A_l l.length c_l) hA (by kernel_rfl) (by kernel_rfl) (by kernel_rfl) hW.cls (Rd.pure fun _ => by kernel_rfl) ?_; clear hA ac; intro ac hA
     refine st_rd (v := Value.int .i64 ((l.length : Nat) : Int)) hA (by kernel_rfl) (by kernel_rfl) (by kernel_rfl) hW.cls (Rd.pure fun _ => by kernel_rfl) ?_; clear hA ac; intro ac hA
     refine st_rd (v := Value.bool (decide ((((k : Nat) : Int) : Int) < (((l.length : Nat) : Int) : Int)))) hA (by kernel_rfl) (by kernel_rfl) (by kernel_rfl) hW.cls (Rd.pure fun _ => by kernel_rfl) ?_; clear hA ac; intro ac hA
     refine wpList_nil ?_
     refine thenN ?_
     refine wp_cond_split (t := decide ((((k : Nat) : Int) : Int) < (((l.length : Nat) : Int) : Int))) (hA.eval (by kernel_rfl)) (fun h3 => ?_) (fun h3 => ?_)
     · skip
       have h3 := of_decide_eq_true h3
       first
       | (exfalso; clear hA hW; omega)
       | (
         refine wp_skip ?_
         refine thenN ?_
         refine wp_seq ?_
         refine wp_block ?_
         refine wp_seq ?_
         refine q_region (by kernel_rfl) (by kernel_rfl) hW ?_
         refine sq_rd (v := Value.slice A_l l.length c_l) hA (by kernel_rfl) (by kernel_rfl) (by kernel_rfl) (Rd.pure fun _ => by kernel_rfl) ?_; clear hA ac; intro ac hA
         refine sq_rd (v := Value.int .i64 ((k : Nat) : Int)) hA (by kernel_rfl) (by kernel_rfl) (by kernel_rfl) (Rd.pure fun _ => by kernel_rfl) ?_; clear hA ac; intro ac hA
         obtain ⟨y4, hy4⟩ : ∃ y, l[k]? = some y := ⟨_, List.getElem?_eq_getElem (by first | omega | (simp; done) | (simp; omega))⟩
         obtain ⟨b5, o6, rfl, hbb5⟩ := row_some ((hW).getG 1 rfl) hy4
         refine sq_rd (v := Value.pointer (some ⟨b5, o6 + k * 1, none⟩)) hA (by kernel_rfl) (by kernel_rfl) (by kernel_rfl) (Rd.indexAddr (e := 3) (sz := 1) (b := b5) (off := o6) (n := l.length) (c := c_l) (k := k) (by kernel_rfl) (by kernel_rfl) (by first | omega | (simp; done) | (simp; omega)) (fun _ => by kernel_rfl) (fun _ => by kernel_rfl)) ?_; clear hA ac; intro ac hA
         refine sq_rd (v := Value.int .i64 y4) hA (by kernel_rfl) (by kernel_rfl) (by kernel_rfl) (Rd.loadRow (b := b5) (i := o6 + k * 1) (xs := [Value.int .i64 y4]) (by kernel_rfl) (fun _ hw => row_ld ((hw.1).getG 1 rfl) hy4 (Fr.refl No _) (fun h => h) 0 1 (by kernel_rfl)) (by kernel_rfl)) ?_; clear hA ac; intro ac hA
         refine sq_rd (v := Value.slice A_r r.length c_r) hA (by kernel_rfl) (by kernel_rfl) (by kernel_rfl) (Rd.pure fun _ => by kernel_rfl) ?_; clear hA ac; intro ac hA
         refine sq_rd (v := Value.int .i64 ((k : Nat) : Int)) hA (by kernel_rfl) (by kernel_rfl) (by kernel_rfl) (Rd.pure fun _ => by kernel_rfl) ?_; clear hA ac; intro ac hA
         obtain ⟨y7, hy7⟩ : ∃ y, r[k]? = some y := ⟨_, List.getElem?_eq_getElem (by first | omega | (simp; done) | (simp; omega))⟩
         obtain ⟨b8, o9, rfl, hbb8⟩ := row_some ((hW).getG 0 rfl) hy7
         refine sq_rd (v := Value.pointer (some ⟨b8, o9 + k * 1, none⟩)) hA (by kernel_rfl) (by kernel_rfl) (by kernel_rfl) (Rd.indexAddr (e := 3) (sz := 1) (b := b8) (off := o9) (n := r.length) (c := c_r) (k := k) (by kernel_rfl) (by kernel_rfl) (by first | omega | (simp; done) | (simp; omega)) (fun _ => by kernel_rfl) (fun _ => by kernel_rfl)) ?_; clear hA ac; intro ac hA
         refine sq_rd (v := Value.int .i64 y7) hA (by kernel_rfl) (by kernel_rfl) (by kernel_rfl) (Rd.loadRow (b := b8) (i := o9 + k * 1) (xs := [Value.int .i64 y7]) (by kernel_rfl) (fun _ hw => row_ld ((hw.1).getG 0 rfl) hy7 (Fr.refl No _) (fun h => h) 0 1 (by kernel_rfl)) (by kernel_rfl)) ?_; clear hA ac; intro ac hA
         refine sq_rd (v := Value.bool ((y4 : Int) != (y7 : Int))) hA (by kernel_rfl) (by kernel_rfl) (by kernel_rfl) (Rd.pure fun _ => by kernel_rfl) ?_; clear hA ac; intro ac hA
         refine sq_nil ?_; intro w10 hww10; have hW := hww10.1; have hfw10 := hww10.2; clear hww10
         refine thenN ?_
         refine wp_cond_split (t := (y4 : Int) != (y7 : Int)) (hA.eval (by kernel_rfl)) (fun h11 => ?_) (fun h11 => ?_)
         · skip
           have h11 := bne_iff_ne.1 h11
           first
           | (exfalso; clear hA hW; omega)
           | (
             refine wp_seq ?_
             refine wp_region_lit ?_
             refine st_rd (v := Value.bool false) hA (by kernel_rfl) (by kernel_rfl) (by kernel_rfl) hW.cls (Rd.pure fun _ => by kernel_rfl) ?_; clear hA ac; intro ac hA
             refine wpList_nil ?_
             refine thenN ?_
             refine wp_ret ?_
             refine blkR ?_
             refine thenR ?_
             refine thenR ?_
             refine blkR ?_
             refine thenR ?_
             refine ret1 (v := Value.bool false) (by rfl) hA (Got.tmp hA (by kernel_rfl) (by kernel_rfl)) ?_
             clear hA
             refine ⟨retv (congrArg Value.bool (decide_eq_false ?_).symm), hW.fr⟩; intro e; subst e; rw [hy4] at hy7; exact h11 (Option.some.inj hy7))
         · skip
           have h11 := of_bne_f h11
           first
           | (exfalso; clear hA hW; omega)
           | (
             refine wp_skip ?_
             refine blkN ?_
             refine thenN ?_
             refine wp_region_lit ?_
             refine st_rd (v := Value.int .i64 ((k : Nat) : Int)) hA (by kernel_rfl) (by kernel_rfl) (by kernel_rfl) hW.cls (Rd.pure fun _ => by kernel_rfl) ?_; clear hA ac; intro ac hA
             refine st_rd (v := Value.int .i64 ((k + 1 : Nat) : Int)) hA (by kernel_rfl) (by kernel_rfl) (by kernel_rfl) hW.cls (Rd.pureE (v0 := Value.int .i64 (IntKind.i64.wrap ((((k : Nat) : Int) : Int) + 1))) (fun _ => by kernel_rfl) (congrArg (Value.int .i64) ((w_i64 (x := (((k : Nat) : Int) : Int) + 1) (by omega) (by omega)).trans (by omega)))) ?_; clear hA ac; intro ac hA
             refine st_rd (v := Value.int .i64 ((k + 1 : Nat) : Int)) hA (by kernel_rfl) (by kernel_rfl) (by kernel_rfl) hW.cls (Rd.pure fun _ => by kernel_rfl) ?_; clear hA ac; intro ac hA
             refine wpList_nil ?_
             refine thenN ?_
             exact ⟨l.length - (k + 1), by omega, k + 1, rfl, by omega, by rw [tk_snoc hy4, tk_snoc hy7, hn, h11], hA.sub ⟨⟨by kernel_rfl, by kernel_rfl⟩, ⟨by kernel_rfl, by kernel_rfl⟩, ⟨by kernel_rfl, by kernel_rfl⟩, trivial⟩, (hW.pick [] (by decide) rfl).pickG [0, 1] rfl⟩))
     · skip
       have h3 := of_decide_eq_false h3
       first
       | (exfalso; clear hA hW; omega)
       | (
         refine wp_exit ?_
         refine thenX ?_
         refine thenX ?_
         refine blkX ?_
         refine thenN ?_
         refine wp_seq ?_
         refine wp_region_lit ?_
         refine st_rd (v := Value.bool true) hA (by kernel_rfl) (by kernel_rfl) (by kernel_rfl) hW.cls (Rd.pure fun _ => by kernel_rfl) ?_; clear hA ac; intro ac hA
         refine wpList_nil ?_
         refine thenN ?_
         refine wp_ret ?_
         refine ret1 (v := Value.bool true) (by rfl) hA (Got.tmp hA (by kernel_rfl) (by kernel_rfl)) ?_
         clear hA
         refine ⟨retv (congrArg Value.bool (decide_eq_true ?_).symm), hW.fr⟩; rw [List.take_of_length_le (by omega), List.take_of_length_le (by omega)] at hn; exact hn))

set_option maxRecDepth 100000 in
theorem e_works23  (w : World)  : Calls Try.prog 7 #[] w (fun e w' => e = .returned (Value.bool true) ∧ Fr No w w') := by
 refine enter_E 117 Try.func7 rfl rfl (by kernel_rfl) (L := []) (by kernel_rfl) ?_
 intro ac hA
 have hW := Ws.start w No
 refine wp_seq ?_
 refine wp_region_lit ?_
 refine st_rd (v := Value.bool false) hA (by kernel_rfl) (by kernel_rfl) (by kernel_rfl) hW.cls (Rd.pure fun _ => by kernel_rfl) ?_; clear hA ac; intro ac hA
 refine wpList_nil ?_
 refine thenN ?_
 refine wp_seq ?_
 refine wp_region_lit ?_
 refine st hA (by kernel_rfl) (by kernel_rfl) (by kernel_rfl) (Runs.call (fun _ => by kernel_rfl) (e_pNew w) ?_)
 rintro _ w1 ⟨n2, n3, rfl, hu_⟩; refine ⟨_, rfl, ?_⟩; replace hW := hW.made hu_; clear hA ac; intro ac hA
 refine st_rd (v := Value.pointer (some ⟨n2, 0, none⟩)) hA (by kernel_rfl) (by kernel_rfl) (by kernel_rfl) hW.cls (Rd.pure fun _ => by kernel_rfl) ?_; clear hA ac; intro ac hA
 refine wpList_nil ?_
 refine thenN ?_
 refine wp_seq ?_
 refine wp_region_lit ?_
 refine st_rd (v := Value.pointer (some ⟨n2, 0, none⟩)) hA (by kernel_rfl) (by kernel_rfl) (by kernel_rfl) hW.cls (Rd.pure fun _ => by kernel_rfl) ?_; clear hA ac; intro ac hA
 refine st hA (by kernel_rfl) (by kernel_rfl) (by kernel_rfl) (Runs.call (fun _ => by kernel_rfl) (e_make n2 n3 ([] : List (Int × Nat × List (Int × Mark))) w1 ((hW).get 0 rfl) ((hW).lt _ (List.mem_of_getElem? (i := 0) rfl)) (by first | assumption | omega | decide | (simp; done) | (simp; omega) | exact ⟨by omega, by decide⟩)) ?_)
 rintro _ w4 ⟨u5, u6, rfl, hw4_hM, hu_⟩; refine ⟨_, rfl, ?_⟩; replace hW := hW.upd (H' := [PoolR n2 n3 u6]) 0 rfl hu_ rfl; clear hA ac; intro ac hA
 obtain ⟨qh0, hv0⟩ := make_1 hw4_hM
 have hl0 : u6.length ≤ 1000 := by rw [← vals_len, hv0]; decide
 have hn0 : (keys (vals u6)).Nodup := by rw [hv0]; decide
 refine st_rd (v := Value.tuple #[Value.int .i64 u5, Value.int .i64 0]) hA (by kernel_rfl) (by kernel_rfl) (by kernel_rfl) hW.cls (Rd.pure fun _ => by kernel_rfl) ?_; clear hA ac; intro ac hA
 refine st_rd (v := Value.int .i64 u5) hA (by kernel_rfl) (by kernel_rfl) (by kernel_rfl) hW.cls (Rd.pure fun _ => by kernel_rfl) ?_; clear hA ac; intro ac hA
 refine st_rd (v := Value.int .i64 0) hA (by kernel_rfl) (by kernel_rfl) (by kernel_rfl) hW.cls (Rd.pure fun _ => by kernel_rfl) ?_; clear hA ac; intro ac hA
 refine st_rd (v := Value.int .i64 u5) hA (by kernel_rfl) (by kernel_rfl) (by kernel_rfl) hW.cls (Rd.pure fun _ => by kernel_rfl) ?_; clear hA ac; intro ac hA
 refine st_rd (v := Value.int .i64 0) hA (by kernel_rfl) (by kernel_rfl) (by kernel_rfl) hW.cls (Rd.pure fun _ => by kernel_rfl) ?_; clear hA ac; intro ac hA
 refine wpList_nil ?_
 refine thenN ?_
 refine wp_seq ?_
 refine wp_region_lit ?_
 refine st_rd (v := Value.pointer (some ⟨n2, 0, none⟩)) hA (by kernel_rfl) (by kernel_rfl) (by kernel_rfl) hW.cls (Rd.pure fun _ => by kernel_rfl) ?_; clear hA ac; intro ac hA
 refine st hA (by kernel_rfl) (by kernel_rfl) (by kernel_rfl) (Runs.call (fun _ => by kernel_rfl) (e_make n2 n3 u6 w4 ((hW).get 0 rfl) ((hW).lt _ (List.mem_of_getElem? (i := 0) rfl)) (by first | assumption | omega | decide | (simp; done) | (simp; omega) | exact ⟨by omega, by decide⟩)) ?_)
 rintro _ w7 ⟨u8, u9, rfl, hw7_hM, hu_⟩; refine ⟨_, rfl, ?_⟩; replace hW := hW.upd (H' := [PoolR n2 n3 u9]) 0 rfl hu_ rfl; clear hA ac; intro ac hA
 obtain ⟨hv1, qa1, qb1, qc1, -⟩ := make_end hv0 hw7_hM; have qh1 : u8 = 2 := by (have q_ : u8 ≠ 1 := fun e_ => by rw [e_] at qc1; cases qc1); simp at qb1; omega
 rw [qh1] at hv1; replace hv1 : vals u9 = [(1, []), (2, [])] := hv1
 have hl1 : u9.length ≤ 1000 := by rw [← vals_len, hv1]; decide
 have hn1 : (keys (vals u9)).Nodup := by rw [hv1]; decide
 refine st_rd (v := Value.tuple #[Value.int .i64 u8, Value.int .i64 0]) hA (by kernel_rfl) (by kernel_rfl) (by kernel_rfl) hW.cls (Rd.pure fun _ => by kernel_rfl) ?_; clear hA ac; intro ac hA
 refine st_rd (v := Value.int .i64 u8) hA (by kernel_rfl) (by kernel_rfl) (by kernel_rfl) hW.cls (Rd.pure fun _ => by kernel_rfl) ?_; clear hA ac; intro ac hA
 refine st_rd (v := Value.int .i64 0) hA (by kernel_rfl) (by kernel_rfl) (by kernel_rfl) hW.cls (Rd.pure fun _ => by kernel_rfl) ?_; clear hA ac; intro ac hA
 refine st_rd (v := Value.int .i64 u8) hA (by kernel_rfl) (by kernel_rfl) (by kernel_rfl) hW.cls (Rd.pure fun _ => by kernel_rfl) ?_; clear hA ac; intro ac hA
 refine st_rd (v := Value.int .i64 0) hA (by kernel_rfl) (by kernel_rfl) (by kernel_rfl) hW.cls (Rd.pure fun _ => by kernel_rfl) ?_; clear hA ac; intro ac hA
 refine wpList_nil ?_
 refine thenN ?_
 refine wp_seq ?_
 refine wp_region_lit ?_
 refine st_rd (v := Value.pointer (some ⟨n2, 0, none⟩)) hA (by kernel_rfl) (by kernel_rfl) (by kernel_rfl) hW.cls (Rd.pure fun _ => by kernel_rfl) ?_; clear hA ac; intro ac hA
 refine st_rd (v := Value.agg #[Value.int .u64 5, Value.int .i64 0, Value.int .i64 0]) hA (by kernel_rfl) (by kernel_rfl) (by kernel_rfl) hW.cls (Rd.pure fun _ => by kernel_rfl) ?_; clear hA ac; intro ac hA
 refine st hA (by kernel_rfl) (by kernel_rfl) (by kernel_rfl) (Runs.call (fun _ => by kernel_rfl) (e_mark n2 n3 u9 (1) (2) (⟨5, (⟨0, 0⟩ : Site)⟩ : Mark) w7 ((hW).get 0 rfl) ((hW).lt _ (List.mem_of_getElem? (i := 0) rfl)) (by first | assumption | omega | decide | (simp; done) | (simp; omega) | exact ⟨by omega, by decide⟩) (by first | assumption | omega | decide | (simp; done) | (simp; omega) | exact ⟨by omega, by decide⟩)) ?_)
 rintro _ w10 ⟨u11, u12, rfl, hw10_hM, hu_⟩; refine ⟨_, rfl, ?_⟩; replace hW := hW.upd (H' := [PoolR n2 n3 u11]) 0 rfl hu_ rfl; clear hA ac; intro ac hA
 obtain ⟨qe2, hv2⟩ := mark_yes hv1 (by decide) hw10_hM (by decide) (by rfl); replace hv2 : vals u11 = [(1, [(2, M5)]), (2, [])] := hv2
 have hl2 : u11.length ≤ 1000 := by rw [← vals_len, hv2]; decide
 have hn2 : (keys (vals u11)).Nodup := by rw [hv2]; decide
 have hP2 : ∀ m, look (vals u11) 1 = some m → m.length ≤ 100000 ∧ ∀ x ∈ m, 0 ≤ x.1 ∧ x.1 ≤ 65536 := fun m hm => by rw [hv2] at hm; cases hm; decide
 refine st_rd (v := Value.int .i64 u12) hA (by kernel_rfl) (by kernel_rfl) (by kernel_rfl) hW.cls (Rd.pure fun _ => by kernel_rfl) ?_; clear hA ac; intro ac hA
 refine wpList_nil ?_
 refine thenN ?_
 refine wp_seq ?_
 refine wp_region_lit ?_
 refine st_rd (v := Value.pointer (some ⟨n2, 0, none⟩)) hA (by kernel_rfl) (by kernel_rfl) (by kernel_rfl) hW.cls (Rd.pure fun _ => by kernel_rfl) ?_; clear hA ac; intro ac hA
 refine st hA (by kernel_rfl) (by kernel_rfl) (by kernel_rfl) (Runs.cells (fun b => Value.slice (some ⟨b, 0, none⟩) 3 3) #[Value.int .u64 0, Value.int .u64 0, Value.int .u64 4] 28 (fun _ => by kernel_rfl) hW ?_); clear hA ac hW; intro b13 w14 hW hb13 hfw14 ac hA
 have hW := hW.share 0 rfl (H' := [PoolR n2 n3 u11]) rfl
 have hW := hW.nestG (roR (some ⟨b13, 0, none⟩) 1 enU ([0, 0, 4] : List Int)) (rowAt_cel (show _ = _ from hW.getG 0 rfl) ([0, 0, 4] : List Int) (by rfl) elt_U.len) (fun _ hb_ => ⟨_, List.mem_of_getElem? (i := 0) rfl, cel_fp _ hb_⟩)
 refine st hA (by kernel_rfl) (by kernel_rfl) (by kernel_rfl) (Runs.call (fun _ => by kernel_rfl) (e_beyond n2 n3 u11 (1) (some ⟨b13, 0, none⟩) 3 ([0, 0, 4] : List Int) w14 ((hW).get 0 rfl) ((hW).lt _ (List.mem_of_getElem? (i := 0) rfl)) ((hW).getG 0 rfl) (by first | assumption | omega | (simp; omega) | simp) (by first | assumption | omega | decide | (simp; done) | (simp; omega) | exact ⟨by omega, by decide⟩) (by first | assumption | omega | decide | (simp; done) | (simp; omega) | exact ⟨by omega, by decide⟩)) ?_)
 rintro _ w15 ⟨g16, g17, g18, rfl, hw15_hB, hfw15⟩; refine ⟨_, rfl, ?_⟩; have hW0 := hW; have hW := hW0.call hfw15
 clear hW0 hA ac; intro ac hA
 rw [hv2] at hw15_hB; obtain ⟨qi0, qj0⟩ := bey_one (i := 2) (m := M5) (show BeyR (some [(2, M5)]) _ _ _ _ from hw15_hB)
 obtain ⟨qj0a, qj0b⟩ := qj0 (by decide); have qi0' : g18 = true := qi0; have qj0c : g17.clock = 5 := by rw [qj0b]
 refine st_rd (v := Value.tuple #[Value.int .i64 g16, g17.v, Value.bool g18]) hA (by kernel_rfl) (by kernel_rfl) (by kernel_rfl) hW.cls (Rd.pure fun _ => by kernel_rfl) ?_; clear hA ac; intro ac hA
 refine st_rd (v := Value.int .i64 g16) hA (by kernel_rfl) (by kernel_rfl) (by kernel_rfl) hW.cls (Rd.pure fun _ => by kernel_rfl) ?_; clear hA ac; intro ac hA
 refine st_rd (v := g17.v) hA (by kernel_rfl) (by kernel_rfl) (by kernel_rfl) hW.cls (Rd.pure fun _ => by kernel_rfl) ?_; clear hA ac; intro ac hA
 refine st_rd (v := Value.bool g18) hA (by kernel_rfl) (by kernel_rfl) (by kernel_rfl) hW.cls (Rd.pure fun _ => by kernel_rfl) ?_; clear hA ac; intro ac hA
 refine st hA (by kernel_rfl) (by kernel_rfl) (by kernel_rfl) (Runs.cells (fun b => Value.pointer (some ⟨b, 0, none⟩)) #[Value.int .u64 0, Value.int .i64 0, Value.int .i64 0] 32 (fun _ => by kernel_rfl) hW ?_); clear hA ac hW; intro b19 w20 hW hb19 hfw20 ac hA
 refine st_rd (v := Value.int .i64 g16) hA (by kernel_rfl) (by kernel_rfl) (by kernel_rfl) hW.cls (Rd.pure fun _ => by kernel_rfl) ?_; clear hA ac; intro ac hA
 refine st hA (by kernel_rfl) (by kernel_rfl) (by kernel_rfl) (Runs.store (v := g17.v) (b := b19) (j := 0) (n := 3) (cs' := #[Value.int .u64 g17.clock, Value.int .i64 g17.site.f, Value.int .i64 g17.site.pc]) (H' := [Cel b19 #[Value.int .u64 g17.clock, Value.int .i64 g17.site.f, Value.int .i64 g17.site.pc] 32, PoolR n2 n3 u11]) (by kernel_rfl) (by kernel_rfl) (by kernel_rfl) (by kernel_rfl) (by kernel_rfl) hW 0 (by rfl) (Nat.le_of_ble_eq_true (by kernel_rfl)) (by kernel_rfl) (by rfl) ?_); clear hA ac hW; intro w21 hW ac hA
 refine st_rd (v := Value.bool g18) hA (by kernel_rfl) (by kernel_rfl) (by kernel_rfl) hW.cls (Rd.pure fun _ => by kernel_rfl) ?_; clear hA ac; intro ac hA
 refine wpList_nil ?_
 refine thenN ?_
 refine wp_seq ?_
 refine wp_region_lit ?_
 refine st_rd (v := Value.pointer (some ⟨n2, 0, none⟩)) hA (by kernel_rfl) (by kernel_rfl) (by kernel_rfl) hW.cls (Rd.pure fun _ => by kernel_rfl) ?_; clear hA ac; intro ac hA
 refine st hA (by kernel_rfl) (by kernel_rfl) (by kernel_rfl) (Runs.cells (fun b => Value.slice (some ⟨b, 0, none⟩) 3 3) #[Value.int .u64 0, Value.int .u64 0, Value.int .u64 5] 28 (fun _ => by kernel_rfl) hW ?_); clear hA ac hW; intro b22 w23 hW hb22 hfw23 ac hA
 have hW := hW.share 0 rfl (H' := [Cel b19 #[Value.int .u64 g17.clock, Value.int .i64 g17.site.f, Value.int .i64 g17.site.pc] 32, PoolR n2 n3 u11]) rfl
 have hW := hW.nestG (roR (some ⟨b22, 0, none⟩) 1 enU ([0, 0, 5] : List Int)) (rowAt_cel (show _ = _ from hW.getG 0 rfl) ([0, 0, 5] : List Int) (by rfl) elt_U.len) (fun _ hb_ => ⟨_, List.mem_of_getElem? (i := 0) rfl, cel_fp _ hb_⟩)
 refine st hA (by kernel_rfl) (by kernel_rfl) (by kernel_rfl) (Runs.call (fun _ => by kernel_rfl) (e_beyond n2 n3 u11 (1) (some ⟨b22, 0, none⟩) 3 ([0, 0, 5] : List Int) w23 ((hW).get 1 rfl) ((hW).lt _ (List.mem_of_getElem? (i := 1) rfl)) ((hW).getG 0 rfl) (by first | assumption | omega | (simp; omega) | simp) (by first | assumption | omega | decide | (simp; done) | (simp; omega) | exact ⟨by omega, by decide⟩) (by first | assumption | omega | decide | (simp; done) | (simp; omega) | exact ⟨by omega, by decide⟩)) ?_)
 rintro _ w24 ⟨g25, g26, g27, rfl, hw24_hB, hfw24⟩; refine ⟨_, rfl, ?_⟩; have hW0 := hW; have hW := hW0.call hfw24
 clear hW0 hA ac; intro ac hA
 rw [hv2] at hw24_hB; obtain ⟨qi1, qj1⟩ := bey_one (i := 2) (m := M5) (show BeyR (some [(2, M5)]) _ _ _ _ from hw24_hB)
 have qi1' : g27 = false := qi1
 refine st_rd (v := Value.tuple #[Value.int .i64 g25, g26.v, Value.bool g27]) hA (by kernel_rfl) (by kernel_rfl) (by kernel_rfl) hW.cls (Rd.pure fun _ => by kernel_rfl) ?_; clear hA ac; intro ac hA
 refine st_rd (v := Value.int .i64 g25) hA (by kernel_rfl) (by kernel_rfl) (by kernel_rfl) hW.cls (Rd.pure fun _ => by kernel_rfl) ?_; clear hA ac; intro ac hA
 refine st_rd (v := g26.v) hA (by kernel_rfl) (by kernel_rfl) (by kernel_rfl) hW.cls (Rd.pure fun _ => by kernel_rfl) ?_; clear hA ac; intro ac hA
 refine st_rd (v := Value.bool g27) hA (by kernel_rfl) (by kernel_rfl) (by kernel_rfl) hW.cls (Rd.pure fun _ => by kernel_rfl) ?_; clear hA ac; intro ac hA
 refine st hA (by kernel_rfl) (by kernel_rfl) (by kernel_rfl) (Runs.cells (fun b => Value.pointer (some ⟨b, 0, none⟩)) #[Value.int .u64 0, Value.int .i64 0, Value.int .i64 0] 32 (fun _ => by kernel_rfl) hW ?_); clear hA ac hW; intro b28 w29 hW hb28 hfw29 ac hA
 refine st_rd (v := Value.int .i64 g25) hA (by kernel_rfl) (by kernel_rfl) (by kernel_rfl) hW.cls (Rd.pure fun _ => by kernel_rfl) ?_; clear hA ac; intro ac hA
 refine st hA (by kernel_rfl) (by kernel_rfl) (by kernel_rfl) (Runs.store (v := g26.v) (b := b28) (j := 0) (n := 3) (cs' := #[Value.int .u64 g26.clock, Value.int .i64 g26.site.f, Value.int .i64 g26.site.pc]) (H' := [Cel b28 #[Value.int .u64 g26.clock, Value.int .i64 g26.site.f, Value.int .i64 g26.site.pc] 32, Cel b19 #[Value.int .u64 g17.clock, Value.int .i64 g17.site.f, Value.int .i64 g17.site.pc] 32, PoolR n2 n3 u11]) (by kernel_rfl) (by kernel_rfl) (by kernel_rfl) (by kernel_rfl) (by kernel_rfl) hW 0 (by rfl) (Nat.le_of_ble_eq_true (by kernel_rfl)) (by kernel_rfl) (by rfl) ?_); clear hA ac hW; intro w30 hW ac hA
 refine st_rd (v := Value.bool g27) hA (by kernel_rfl) (by kernel_rfl) (by kernel_rfl) hW.cls (Rd.pure fun _ => by kernel_rfl) ?_; clear hA ac; intro ac hA
 refine wpList_nil ?_
 refine thenN ?_
 refine wp_seq ?_
 refine wp_region_lit ?_
 refine st_rd (v := Value.pointer (some ⟨n2, 0, none⟩)) hA (by kernel_rfl) (by kernel_rfl) (by kernel_rfl) hW.cls (Rd.pure fun _ => by kernel_rfl) ?_; clear hA ac; intro ac hA
 refine st hA (by kernel_rfl) (by kernel_rfl) (by kernel_rfl) (Runs.call (fun _ => by kernel_rfl) (e_free n2 n3 u11 (1) w30 ((hW).get 2 rfl) ((hW).lt _ (List.mem_of_getElem? (i := 2) rfl))) ?_)
 rintro _ w31 ⟨u32, u33, rfl, hw31_hM, hu_⟩; refine ⟨_, rfl, ?_⟩; replace hW := hW.upd (H' := [Cel b28 #[Value.int .u64 g26.clock, Value.int .i64 g26.site.f, Value.int .i64 g26.site.pc] 32, Cel b19 #[Value.int .u64 g17.clock, Value.int .i64 g17.site.f, Value.int .i64 g17.site.pc] 32, PoolR n2 n3 u32]) 2 rfl hu_ rfl; clear hA ac; intro ac hA
 obtain ⟨qe3, hv3⟩ := free_yes hv2 hw31_hM (by rfl); replace hv3 : vals u32 = [(2, [])] := hv3
 have hl3 : u32.length ≤ 1000 := by rw [← vals_len, hv3]; decide
 have hn3 : (keys (vals u32)).Nodup := by rw [hv3]; decide
 refine st_rd (v := Value.int .i64 u33) hA (by kernel_rfl) (by kernel_rfl) (by kernel_rfl) hW.cls (Rd.pure fun _ => by kernel_rfl) ?_; clear hA ac; intro ac hA
 refine wpList_nil ?_
 refine thenN ?_
 refine wp_seq ?_
 refine wp_region_lit ?_
 refine st_rd (v := Value.pointer (some ⟨n2, 0, none⟩)) hA (by kernel_rfl) (by kernel_rfl) (by kernel_rfl) hW.cls (Rd.pure fun _ => by kernel_rfl) ?_; clear hA ac; intro ac hA
 refine st hA (by kernel_rfl) (by kernel_rfl) (by kernel_rfl) (Runs.call (fun _ => by kernel_rfl) (e_make n2 n3 u32 w31 ((hW).get 2 rfl) ((hW).lt _ (List.mem_of_getElem? (i := 2) rfl)) (by first | assumption | omega | decide | (simp; done) | (simp; omega) | exact ⟨by omega, by decide⟩)) ?_)
 rintro _ w34 ⟨u35, u36, rfl, hw34_hM, hu_⟩; refine ⟨_, rfl, ?_⟩; replace hW := hW.upd (H' := [Cel b28 #[Value.int .u64 g26.clock, Value.int .i64 g26.site.f, Value.int .i64 g26.site.pc] 32, Cel b19 #[Value.int .u64 g17.clock, Value.int .i64 g17.site.f, Value.int .i64 g17.site.pc] 32, PoolR n2 n3 u36]) 2 rfl hu_ rfl; clear hA ac; intro ac hA
 obtain ⟨hv4, qa4, qb4, qc4, qd4⟩ := make_end hv3 hw34_hM; have qh4 : u35 = 1 := by (by_cases q_ : (1 : Int) < u35; (have := qd4 1 (by omega) q_; cases this); omega)
 rw [qh4] at hv4; replace hv4 : vals u36 = [(2, []), (1, [])] := hv4
 have hl4 : u36.length ≤ 1000 := by rw [← vals_len, hv4]; decide
 have hn4 : (keys (vals u36)).Nodup := by rw [hv4]; decide
 refine st_rd (v := Value.tuple #[Value.int .i64 u35, Value.int .i64 0]) hA (by kernel_rfl) (by kernel_rfl) (by kernel_rfl) hW.cls (Rd.pure fun _ => by kernel_rfl) ?_; clear hA ac; intro ac hA
 refine st_rd (v := Value.int .i64 u35) hA (by kernel_rfl) (by kernel_rfl) (by kernel_rfl) hW.cls (Rd.pure fun _ => by kernel_rfl) ?_; clear hA ac; intro ac hA
 refine st_rd (v := Value.int .i64 0) hA (by kernel_rfl) (by kernel_rfl) (by kernel_rfl) hW.cls (Rd.pure fun _ => by kernel_rfl) ?_; clear hA ac; intro ac hA
 refine st_rd (v := Value.int .i64 u35) hA (by kernel_rfl) (by kernel_rfl) (by kernel_rfl) hW.cls (Rd.pure fun _ => by kernel_rfl) ?_; clear hA ac; intro ac hA
 refine st_rd (v := Value.int .i64 0) hA (by kernel_rfl) (by kernel_rfl) (by kernel_rfl) hW.cls (Rd.pure fun _ => by kernel_rfl) ?_; clear hA ac; intro ac hA
 refine wpList_nil ?_
 refine thenN ?_
 refine wp_seq ?_
 refine wp_region_lit ?_
 refine st_rd (v := Value.pointer (some ⟨n2, 0, none⟩)) hA (by kernel_rfl) (by kernel_rfl) (by kernel_rfl) hW.cls (Rd.pure fun _ => by kernel_rfl) ?_; clear hA ac; intro ac hA
 refine st hA (by kernel_rfl) (by kernel_rfl) (by kernel_rfl) (Runs.callN (v := Value.tuple #[((getP (vals u36) (1) (2)).getD (⟨0, ⟨0, 0⟩⟩ : Mark)).v, Value.bool (getP (vals u36) (1) (2)).isSome]) (fun _ => by kernel_rfl) hW (e_get n2 n3 u36 (1) (2) w34 ((hW).get 2 rfl) ((hW).lt _ (List.mem_of_getElem? (i := 2) rfl))) ?_); clear hA ac hW; intro w37 hW hfw37 ac hA
 refine st_rd (v := Value.tuple #[((getP (vals u36) (1) (2)).getD (⟨0, ⟨0, 0⟩⟩ : Mark)).v, Value.bool (getP (vals u36) (1) (2)).isSome]) hA (by kernel_rfl) (by kernel_rfl) (by kernel_rfl) hW.cls (Rd.pure fun _ => by kernel_rfl) ?_; clear hA ac; intro ac hA
 refine st_rd (v := ((getP (vals u36) (1) (2)).getD (⟨0, ⟨0, 0⟩⟩ : Mark)).v) hA (by kernel_rfl) (by kernel_rfl) (by kernel_rfl) hW.cls (Rd.pure fun _ => by kernel_rfl) ?_; clear hA ac; intro ac hA
 refine st_rd (v := Value.bool (getP (vals u36) (1) (2)).isSome) hA (by kernel_rfl) (by kernel_rfl) (by kernel_rfl) hW.cls (Rd.pure fun _ => by kernel_rfl) ?_; clear hA ac; intro ac hA
 refine st hA (by kernel_rfl) (by kernel_rfl) (by kernel_rfl) (Runs.cells (fun b => Value.pointer (some ⟨b, 0, none⟩)) #[Value.int .u64 0, Value.int .i64 0, Value.int .i64 0] 32 (fun _ => by kernel_rfl) hW ?_); clear hA ac hW; intro b38 w39 hW hb38 hfw39 ac hA
 refine st hA (by kernel_rfl) (by kernel_rfl) (by kernel_rfl) (Runs.store (v := ((getP (vals u36) (1) (2)).getD (⟨0, ⟨0, 0⟩⟩ : Mark)).v) (b := b38) (j := 0) (n := 3) (cs' := #[Value.int .u64 ((getP (vals u36) (1) (2)).getD (⟨0, ⟨0, 0⟩⟩ : Mark)).clock, Value.int .i64 ((getP (vals u36) (1) (2)).getD (⟨0, ⟨0, 0⟩⟩ : Mark)).site.f, Value.int .i64 ((getP (vals u36) (1) (2)).getD (⟨0, ⟨0, 0⟩⟩ : Mark)).site.pc]) (H' := [Cel b38 #[Value.int .u64 ((getP (vals u36) (1) (2)).getD (⟨0, ⟨0, 0⟩⟩ : Mark)).clock, Value.int .i64 ((getP (vals u36) (1) (2)).getD (⟨0, ⟨0, 0⟩⟩ : Mark)).site.f, Value.int .i64 ((getP (vals u36) (1) (2)).getD (⟨0, ⟨0, 0⟩⟩ : Mark)).site.pc] 32, Cel b28 #[Value.int .u64 g26.clock, Value.int .i64 g26.site.f, Value.int .i64 g26.site.pc] 32, Cel b19 #[Value.int .u64 g17.clock, Value.int .i64 g17.site.f, Value.int .i64 g17.site.pc] 32, PoolR n2 n3 u36]) (by kernel_rfl) (by kernel_rfl) (by kernel_rfl) (by kernel_rfl) (by kernel_rfl) hW 0 (by rfl) (Nat.le_of_ble_eq_true (by kernel_rfl)) (by kernel_rfl) (by rfl) ?_); clear hA ac hW; intro w40 hW ac hA
 refine st_rd (v := Value.bool (getP (vals u36) (1) (2)).isSome) hA (by kernel_rfl) (by kernel_rfl) (by kernel_rfl) hW.cls (Rd.pure fun _ => by kernel_rfl) ?_; clear hA ac; intro ac hA
 refine wpList_nil ?_
 refine thenN ?_
 refine wp_seq ?_
 have qg : (getP (vals u36) (1) (2)).isSome = false := by rw [hv4]; rfl
 refine wp_region_lit ?_
 refine st_rd (v := Value.int .i64 0) hA (by kernel_rfl) (by kernel_rfl) (by kernel_rfl) hW.cls (Rd.pure fun _ => by kernel_rfl) ?_; clear hA ac; intro ac hA
 refine st hA (by kernel_rfl) (by kernel_rfl) (by kernel_rfl) (Runs.callS (v := Value.int .i64 (0)) (fun _ => by kernel_rfl) (e_num23 (0) w40) ?_); clear hA ac; intro  ac hA
 refine st_rd (v := Value.int .i64 0) hA (by kernel_rfl) (by kernel_rfl) (by kernel_rfl) hW.cls (Rd.pure fun _ => by kernel_rfl) ?_; clear hA ac; intro ac hA
 refine st hA (by kernel_rfl) (by kernel_rfl) (by kernel_rfl) (Runs.callS (v := Value.int .i64 (0)) (fun _ => by kernel_rfl) (e_num23 (0) w40) ?_); clear hA ac; intro  ac hA
 refine st_rd (v := Value.int .i64 (((0) : Int) + (0))) hA (by kernel_rfl) (by kernel_rfl) (by kernel_rfl) hW.cls (Rd.pureE (v0 := Value.int .i64 (IntKind.i64.wrap (((0) : Int) + (0)))) (fun _ => by kernel_rfl) (congrArg (Value.int .i64) ((w_i64 (x := ((0) : Int) + (0)) (by omega) (by omega)).trans (by omega)))) ?_; clear hA ac; intro ac hA
 refine st_rd (v := Value.int .i64 u12) hA (by kernel_rfl) (by kernel_rfl) (by kernel_rfl) hW.cls (Rd.pure fun _ => by kernel_rfl) ?_; clear hA ac; intro ac hA
 refine st hA (by kernel_rfl) (by kernel_rfl) (by kernel_rfl) (Runs.callS (v := Value.int .i64 (u12)) (fun _ => by kernel_rfl) (e_num23 (u12) w40) ?_); clear hA ac; intro  ac hA
 refine st_rd (v := Value.int .i64 ((((0) : Int) + (0) : Int) + (u12))) hA (by kernel_rfl) (by kernel_rfl) (by kernel_rfl) hW.cls (Rd.pureE (v0 := Value.int .i64 (IntKind.i64.wrap ((((0) : Int) + (0) : Int) + (u12)))) (fun _ => by kernel_rfl) (congrArg (Value.int .i64) ((w_i64 (x := (((0) : Int) + (0) : Int) + (u12)) (by omega) (by omega)).trans (by omega)))) ?_; clear hA ac; intro ac hA
 refine st_rd (v := Value.int .i64 u33) hA (by kernel_rfl) (by kernel_rfl) (by kernel_rfl) hW.cls (Rd.pure fun _ => by kernel_rfl) ?_; clear hA ac; intro ac hA
 refine st hA (by kernel_rfl) (by kernel_rfl) (by kernel_rfl) (Runs.callS (v := Value.int .i64 (u33)) (fun _ => by kernel_rfl) (e_num23 (u33) w40) ?_); clear hA ac; intro  ac hA
 refine st_rd (v := Value.int .i64 (((((0) : Int) + (0) : Int) + (u12) : Int) + (u33))) hA (by kernel_rfl) (by kernel_rfl) (by kernel_rfl) hW.cls (Rd.pureE (v0 := Value.int .i64 (IntKind.i64.wrap (((((0) : Int) + (0) : Int) + (u12) : Int) + (u33)))) (fun _ => by kernel_rfl) (congrArg (Value.int .i64) ((w_i64 (x := ((((0) : Int) + (0) : Int) + (u12) : Int) + (u33)) (by omega) (by omega)).trans (by omega)))) ?_; clear hA ac; intro ac hA
 refine st_rd (v := Value.int .i64 0) hA (by kernel_rfl) (by kernel_rfl) (by kernel_rfl) hW.cls (Rd.pure fun _ => by kernel_rfl) ?_; clear hA ac; intro ac hA
 refine st hA (by kernel_rfl) (by kernel_rfl) (by kernel_rfl) (Runs.callS (v := Value.int .i64 (0)) (fun _ => by kernel_rfl) (e_num23 (0) w40) ?_); clear hA ac; intro  ac hA
 refine st_rd (v := Value.int .i64 ((((((0) : Int) + (0) : Int) + (u12) : Int) + (u33) : Int) + (0))) hA (by kernel_rfl) (by kernel_rfl) (by kernel_rfl) hW.cls (Rd.pureE (v0 := Value.int .i64 (IntKind.i64.wrap ((((((0) : Int) + (0) : Int) + (u12) : Int) + (u33) : Int) + (0)))) (fun _ => by kernel_rfl) (congrArg (Value.int .i64) ((w_i64 (x := (((((0) : Int) + (0) : Int) + (u12) : Int) + (u33) : Int) + (0)) (by omega) (by omega)).trans (by omega)))) ?_; clear hA ac; intro ac hA
 refine st_rd (v := Value.bool (((((((0) : Int) + (0) : Int) + (u12) : Int) + (u33) : Int) + (0) : Int) == (0 : Int))) hA (by kernel_rfl) (by kernel_rfl) (by kernel_rfl) hW.cls (Rd.pure fun _ => by kernel_rfl) ?_; clear hA ac; intro ac hA
 refine st_rd (v := Value.bool (((((((0) : Int) + (0) : Int) + (u12) : Int) + (u33) : Int) + (0) : Int) == (0 : Int))) hA (by kernel_rfl) (by kernel_rfl) (by kernel_rfl) hW.cls (Rd.pure fun _ => by kernel_rfl) ?_; clear hA ac; intro ac hA
 rcases Bool.eq_false_or_eq_true (((((((0) : Int) + (0) : Int) + (u12) : Int) + (u33) : Int) + (0) : Int) == (0 : Int)) with h41 | h41
 · skip
   rw [h41] at hA
   have h41 := eq_of_beq h41
   first
   | (exfalso; clear hA hW; omega)
   | (exfalso; clear hA hW; rw [qi0'] at h41; cases h41; done)
   | (exfalso; clear hA hW; rw [qi1'] at h41; cases h41; done)
   | (exfalso; clear hA hW; rw [qg] at h41; cases h41; done)
   | (exfalso; clear hA hW; exact absurd qk h41; done)
   | (exfalso; clear hA hW; rw [qk] at h41; exact absurd rfl h41; done)
   | (exfalso; clear hA hW; rw [qk] at h41; cases h41; done)
   | (
     refine st_rd (v := Value.int .i64 u5) hA (by kernel_rfl) (by kernel_rfl) (by kernel_rfl) hW.cls (Rd.pure fun _ => by kernel_rfl) ?_; clear hA ac; intro ac hA
     refine st_rd (v := Value.bool ((u5 : Int) == (1 : Int))) hA (by kernel_rfl) (by kernel_rfl) (by kernel_rfl) hW.cls (Rd.pure fun _ => by kernel_rfl) ?_; clear hA ac; intro ac hA
     refine st_rd (v := Value.bool ((u5 : Int) == (1 : Int))) hA (by kernel_rfl) (by kernel_rfl) (by kernel_rfl) hW.cls (Rd.pure fun _ => by kernel_rfl) ?_; clear hA ac; intro ac hA
     refine st_rd (v := Value.bool ((u5 : Int) == (1 : Int))) hA (by kernel_rfl) (by kernel_rfl) (by kernel_rfl) hW.cls (Rd.pure fun _ => by kernel_rfl) ?_; clear hA ac; intro ac hA
     rcases Bool.eq_false_or_eq_true ((u5 : Int) == (1 : Int)) with h42 | h42
     · skip
       rw [h42] at hA
       have h42 := eq_of_beq h42
       first
       | (exfalso; clear hA hW; omega)
       | (exfalso; clear hA hW; rw [qi0'] at h42; cases h42; done)
       | (exfalso; clear hA hW; rw [qi1'] at h42; cases h42; done)
       | (exfalso; clear hA hW; rw [qg] at h42; cases h42; done)
       | (exfalso; clear hA hW; exact absurd qk h42; done)
       | (exfalso; clear hA hW; rw [qk] at h42; exact absurd rfl h42; done)
       | (exfalso; clear hA hW; rw [qk] at h42; cases h42; done)
       | (
         refine st_rd (v := Value.int .i64 u8) hA (by kernel_rfl) (by kernel_rfl) (by kernel_rfl) hW.cls (Rd.pure fun _ => by kernel_rfl) ?_; clear hA ac; intro ac hA
         refine st_rd (v := Value.bool ((u8 : Int) == (2 : Int))) hA (by kernel_rfl) (by kernel_rfl) (by kernel_rfl) hW.cls (Rd.pure fun _ => by kernel_rfl) ?_; clear hA ac; intro ac hA
         refine st_rd (v := Value.bool ((u8 : Int) == (2 : Int))) hA (by kernel_rfl) (by kernel_rfl) (by kernel_rfl) hW.cls (Rd.pure fun _ => by kernel_rfl) ?_; clear hA ac; intro ac hA
         refine st_rd (v := Value.bool ((u8 : Int) == (2 : Int))) hA (by kernel_rfl) (by kernel_rfl) (by kernel_rfl) hW.cls (Rd.pure fun _ => by kernel_rfl) ?_; clear hA ac; intro ac hA
         rcases Bool.eq_false_or_eq_true ((u8 : Int) == (2 : Int)) with h43 | h43
         · skip
           rw [h43] at hA
           have h43 := eq_of_beq h43
           first
           | (exfalso; clear hA hW; omega)
           | (exfalso; clear hA hW; rw [qi0'] at h43; cases h43; done)
           | (exfalso; clear hA hW; rw [qi1'] at h43; cases h43; done)
           | (exfalso; clear hA hW; rw [qg] at h43; cases h43; done)
           | (exfalso; clear hA hW; exact absurd qk h43; done)
           | (exfalso; clear hA hW; rw [qk] at h43; exact absurd rfl h43; done)
           | (exfalso; clear hA hW; rw [qk] at h43; cases h43; done)
           | (
             refine st_rd (v := Value.int .i64 u35) hA (by kernel_rfl) (by kernel_rfl) (by kernel_rfl) hW.cls (Rd.pure fun _ => by kernel_rfl) ?_; clear hA ac; intro ac hA
             refine st_rd (v := Value.bool ((u35 : Int) == (1 : Int))) hA (by kernel_rfl) (by kernel_rfl) (by kernel_rfl) hW.cls (Rd.pure fun _ => by kernel_rfl) ?_; clear hA ac; intro ac hA
             refine st_rd (v := Value.bool ((u35 : Int) == (1 : Int))) hA (by kernel_rfl) (by kernel_rfl) (by kernel_rfl) hW.cls (Rd.pure fun _ => by kernel_rfl) ?_; clear hA ac; intro ac hA
             refine st_rd (v := Value.bool ((u35 : Int) == (1 : Int))) hA (by kernel_rfl) (by kernel_rfl) (by kernel_rfl) hW.cls (Rd.pure fun _ => by kernel_rfl) ?_; clear hA ac; intro ac hA
             rcases Bool.eq_false_or_eq_true ((u35 : Int) == (1 : Int)) with h44 | h44
             · skip
               rw [h44] at hA
               have h44 := eq_of_beq h44
               first
               | (exfalso; clear hA hW; omega)
               | (exfalso; clear hA hW; rw [qi0'] at h44; cases h44; done)
               | (exfalso; clear hA hW; rw [qi1'] at h44; cases h44; done)
               | (exfalso; clear hA hW; rw [qg] at h44; cases h44; done)
               | (exfalso; clear hA hW; exact absurd qk h44; done)
               | (exfalso; clear hA hW; rw [qk] at h44; exact absurd rfl h44; done)
               | (exfalso; clear hA hW; rw [qk] at h44; cases h44; done)
               | (
                 refine st_rd (v := Value.int .i64 g16) hA (by kernel_rfl) (by kernel_rfl) (by kernel_rfl) hW.cls (Rd.pure fun _ => by kernel_rfl) ?_; clear hA ac; intro ac hA
                 refine st_rd (v := Value.bool ((g16 : Int) == (2 : Int))) hA (by kernel_rfl) (by kernel_rfl) (by kernel_rfl) hW.cls (Rd.pure fun _ => by kernel_rfl) ?_; clear hA ac; intro ac hA
                 refine st_rd (v := Value.bool ((g16 : Int) == (2 : Int))) hA (by kernel_rfl) (by kernel_rfl) (by kernel_rfl) hW.cls (Rd.pure fun _ => by kernel_rfl) ?_; clear hA ac; intro ac hA
                 refine st_rd (v := Value.bool ((g16 : Int) == (2 : Int))) hA (by kernel_rfl) (by kernel_rfl) (by kernel_rfl) hW.cls (Rd.pure fun _ => by kernel_rfl) ?_; clear hA ac; intro ac hA
                 rcases Bool.eq_false_or_eq_true ((g16 : Int) == (2 : Int)) with h45 | h45
                 · skip
                   rw [h45] at hA
                   have h45 := eq_of_beq h45
                   first
                   | (exfalso; clear hA hW; omega)
                   | (exfalso; clear hA hW; rw [qi0'] at h45; cases h45; done)
                   | (exfalso; clear hA hW; rw [qi1'] at h45; cases h45; done)
                   | (exfalso; clear hA hW; rw [qg] at h45; cases h45; done)
                   | (exfalso; clear hA hW; exact absurd qk h45; done)
                   | (exfalso; clear hA hW; rw [qk] at h45; exact absurd rfl h45; done)
                   | (exfalso; clear hA hW; rw [qk] at h45; cases h45; done)
                   | (
                     refine st_rd (v := Value.pointer (some ⟨b19, 0, none⟩)) hA (by kernel_rfl) (by kernel_rfl) (by kernel_rfl) hW.cls (Rd.pure fun _ => by kernel_rfl) ?_; clear hA ac; intro ac hA
                     refine st_rd (v := Value.int .u64 g17.clock) hA (by kernel_rfl) (by kernel_rfl) (by kernel_rfl) hW.cls (Rd.load (b := b19) (i := 0) (by kernel_rfl) (fun _ hw => (hw.1).cel 2 rfl) (by kernel_rfl)) ?_; clear hA ac; intro ac hA
                     refine st_rd (v := Value.bool ((g17.clock : Int) == (5 : Int))) hA (by kernel_rfl) (by kernel_rfl) (by kernel_rfl) hW.cls (Rd.pure fun _ => by kernel_rfl) ?_; clear hA ac; intro ac hA
                     refine st_rd (v := Value.bool ((g17.clock : Int) == (5 : Int))) hA (by kernel_rfl) (by kernel_rfl) (by kernel_rfl) hW.cls (Rd.pure fun _ => by kernel_rfl) ?_; clear hA ac; intro ac hA
                     refine st_rd (v := Value.bool ((g17.clock : Int) == (5 : Int))) hA (by kernel_rfl) (by kernel_rfl) (by kernel_rfl) hW.cls (Rd.pure fun _ => by kernel_rfl) ?_; clear hA ac; intro ac hA
                     rcases Bool.eq_false_or_eq_true ((g17.clock : Int) == (5 : Int)) with h46 | h46
                     · skip
                       rw [h46] at hA
                       have h46 := eq_of_beq h46
                       first
                       | (exfalso; clear hA hW; omega)
                       | (exfalso; clear hA hW; rw [qi0'] at h46; cases h46; done)
                       | (exfalso; clear hA hW; rw [qi1'] at h46; cases h46; done)
                       | (exfalso; clear hA hW; rw [qg] at h46; cases h46; done)
                       | (exfalso; clear hA hW; exact absurd qk h46; done)
                       | (exfalso; clear hA hW; rw [qk] at h46; exact absurd rfl h46; done)
                       | (exfalso; clear hA hW; rw [qk] at h46; cases h46; done)
                       | (
                         refine st_rd (v := Value.bool g18) hA (by kernel_rfl) (by kernel_rfl) (by kernel_rfl) hW.cls (Rd.pure fun _ => by kernel_rfl) ?_; clear hA ac; intro ac hA
                         refine st_rd (v := Value.bool g18) hA (by kernel_rfl) (by kernel_rfl) (by kernel_rfl) hW.cls (Rd.pure fun _ => by kernel_rfl) ?_; clear hA ac; intro ac hA
                         refine st_rd (v := Value.bool g18) hA (by kernel_rfl) (by kernel_rfl) (by kernel_rfl) hW.cls (Rd.pure fun _ => by kernel_rfl) ?_; clear hA ac; intro ac hA
                         rcases Bool.eq_false_or_eq_true (g18) with h47 | h47
                         · skip
                           rw [h47] at hA
                           first
                           | (exfalso; clear hA hW; omega)
                           | (exfalso; clear hA hW; rw [qi0'] at h47; cases h47; done)
                           | (exfalso; clear hA hW; rw [qi1'] at h47; cases h47; done)
                           | (exfalso; clear hA hW; rw [qg] at h47; cases h47; done)
                           | (exfalso; clear hA hW; exact absurd qk h47; done)
                           | (exfalso; clear hA hW; rw [qk] at h47; exact absurd rfl h47; done)
                           | (exfalso; clear hA hW; rw [qk] at h47; cases h47; done)
                           | (
                             refine st_rd (v := Value.bool g27) hA (by kernel_rfl) (by kernel_rfl) (by kernel_rfl) hW.cls (Rd.pure fun _ => by kernel_rfl) ?_; clear hA ac; intro ac hA
                             refine st_rd (v := Value.bool (!g27)) hA (by kernel_rfl) (by kernel_rfl) (by kernel_rfl) hW.cls (Rd.pure fun _ => by kernel_rfl) ?_; clear hA ac; intro ac hA
                             refine st_rd (v := Value.bool (!g27)) hA (by kernel_rfl) (by kernel_rfl) (by kernel_rfl) hW.cls (Rd.pure fun _ => by kernel_rfl) ?_; clear hA ac; intro ac hA
                             refine st_rd (v := Value.bool (!g27)) hA (by kernel_rfl) (by kernel_rfl) (by kernel_rfl) hW.cls (Rd.pure fun _ => by kernel_rfl) ?_; clear hA ac; intro ac hA
                             rcases Bool.eq_false_or_eq_true (!g27) with h48 | h48
                             · skip
                               rw [h48] at hA
                               have h48 := not_t h48
                               first
                               | (exfalso; clear hA hW; omega)
                               | (exfalso; clear hA hW; rw [qi0'] at h48; cases h48; done)
                               | (exfalso; clear hA hW; rw [qi1'] at h48; cases h48; done)
                               | (exfalso; clear hA hW; rw [qg] at h48; cases h48; done)
                               | (exfalso; clear hA hW; exact absurd qk h48; done)
                               | (exfalso; clear hA hW; rw [qk] at h48; exact absurd rfl h48; done)
                               | (exfalso; clear hA hW; rw [qk] at h48; cases h48; done)
                               | (
                                 refine st_rd (v := Value.bool (getP (vals u36) (1) (2)).isSome) hA (by kernel_rfl) (by kernel_rfl) (by kernel_rfl) hW.cls (Rd.pure fun _ => by kernel_rfl) ?_; clear hA ac; intro ac hA
                                 refine st_rd (v := Value.bool (!(getP (vals u36) (1) (2)).isSome)) hA (by kernel_rfl) (by kernel_rfl) (by kernel_rfl) hW.cls (Rd.pure fun _ => by kernel_rfl) ?_; clear hA ac; intro ac hA
                                 refine st_rd (v := Value.bool (!(getP (vals u36) (1) (2)).isSome)) hA (by kernel_rfl) (by kernel_rfl) (by kernel_rfl) hW.cls (Rd.pure fun _ => by kernel_rfl) ?_; clear hA ac; intro ac hA
                                 refine st_rd (v := Value.bool (!(getP (vals u36) (1) (2)).isSome)) hA (by kernel_rfl) (by kernel_rfl) (by kernel_rfl) hW.cls (Rd.pure fun _ => by kernel_rfl) ?_; clear hA ac; intro ac hA
                                 rcases Bool.eq_false_or_eq_true (!(getP (vals u36) (1) (2)).isSome) with h49 | h49
                                 · skip
                                   rw [h49] at hA
                                   have h49 := not_t h49
                                   first
                                   | (exfalso; clear hA hW; omega)
                                   | (exfalso; clear hA hW; rw [qi0'] at h49; cases h49; done)
                                   | (exfalso; clear hA hW; rw [qi1'] at h49; cases h49; done)
                                   | (exfalso; clear hA hW; rw [qg] at h49; cases h49; done)
                                   | (exfalso; clear hA hW; exact absurd qk h49; done)
                                   | (exfalso; clear hA hW; rw [qk] at h49; exact absurd rfl h49; done)
                                   | (exfalso; clear hA hW; rw [qk] at h49; cases h49; done)
                                   | (
                                     refine st_rd (v := Value.pointer (some ⟨n2, 0, none⟩)) hA (by kernel_rfl) (by kernel_rfl) (by kernel_rfl) hW.cls (Rd.pure fun _ => by kernel_rfl) ?_; clear hA ac; intro ac hA
                                     refine st hA (by kernel_rfl) (by kernel_rfl) (by kernel_rfl) (Runs.call (fun _ => by kernel_rfl) (e_free n2 n3 u36 (3) w40 ((hW).get 3 rfl) ((hW).lt _ (List.mem_of_getElem? (i := 3) rfl))) ?_)
                                     rintro _ w50 ⟨u51, u52, rfl, hw50_hM, hu_⟩; refine ⟨_, rfl, ?_⟩; replace hW := hW.upd (H' := [Cel b38 #[Value.int .u64 ((getP (vals u36) (1) (2)).getD (⟨0, ⟨0, 0⟩⟩ : Mark)).clock, Value.int .i64 ((getP (vals u36) (1) (2)).getD (⟨0, ⟨0, 0⟩⟩ : Mark)).site.f, Value.int .i64 ((getP (vals u36) (1) (2)).getD (⟨0, ⟨0, 0⟩⟩ : Mark)).site.pc] 32, Cel b28 #[Value.int .u64 g26.clock, Value.int .i64 g26.site.f, Value.int .i64 g26.site.pc] 32, Cel b19 #[Value.int .u64 g17.clock, Value.int .i64 g17.site.f, Value.int .i64 g17.site.pc] 32, PoolR n2 n3 u51]) 3 rfl hu_ rfl; clear hA ac; intro ac hA
                                     obtain ⟨qe5, hv5⟩ := free_no hv4 hw50_hM (by rfl)
                                     have hl5 : u51.length ≤ 1000 := by rw [← vals_len, hv5]; decide
                                     have hn5 : (keys (vals u51)).Nodup := by rw [hv5]; decide
                                     have hh5 : ∀ e ∈ u51, 1 ≤ e.1 ∧ e.1 ≤ 65536 := vals_all (p := fun a _ => 1 ≤ a ∧ a ≤ 65536) hv5 (by decide)
                                     refine st hA (by kernel_rfl) (by kernel_rfl) (by kernel_rfl) (Runs.callS (v := Value.int .i64 (u52)) (fun _ => by kernel_rfl) (e_num23 (u52) w50) ?_); clear hA ac; intro  ac hA
                                     refine st_rd (v := Value.bool (((u52) : Int) == (5 : Int))) hA (by kernel_rfl) (by kernel_rfl) (by kernel_rfl) hW.cls (Rd.pure fun _ => by kernel_rfl) ?_; clear hA ac; intro ac hA
                                     refine st_rd (v := Value.bool (((u52) : Int) == (5 : Int))) hA (by kernel_rfl) (by kernel_rfl) (by kernel_rfl) hW.cls (Rd.pure fun _ => by kernel_rfl) ?_; clear hA ac; intro ac hA
                                     refine st_rd (v := Value.bool (((u52) : Int) == (5 : Int))) hA (by kernel_rfl) (by kernel_rfl) (by kernel_rfl) hW.cls (Rd.pure fun _ => by kernel_rfl) ?_; clear hA ac; intro ac hA
                                     rcases Bool.eq_false_or_eq_true (((u52) : Int) == (5 : Int)) with h53 | h53
                                     · skip
                                       rw [h53] at hA
                                       have h53 := eq_of_beq h53
                                       first
                                       | (exfalso; clear hA hW; omega)
                                       | (exfalso; clear hA hW; rw [qi0'] at h53; cases h53; done)
                                       | (exfalso; clear hA hW; rw [qi1'] at h53; cases h53; done)
                                       | (exfalso; clear hA hW; rw [qg] at h53; cases h53; done)
                                       | (exfalso; clear hA hW; exact absurd qk h53; done)
                                       | (exfalso; clear hA hW; rw [qk] at h53; exact absurd rfl h53; done)
                                       | (exfalso; clear hA hW; rw [qk] at h53; cases h53; done)
                                       | (
                                         refine st_rd (v := Value.pointer (some ⟨n2, 0, none⟩)) hA (by kernel_rfl) (by kernel_rfl) (by kernel_rfl) hW.cls (Rd.pure fun _ => by kernel_rfl) ?_; clear hA ac; intro ac hA
                                         refine st hA (by kernel_rfl) (by kernel_rfl) (by kernel_rfl) (Runs.call (fun _ => by kernel_rfl) (e_live n2 n3 u51 w50 ((hW).get 3 rfl) ((hW).lt _ (List.mem_of_getElem? (i := 3) rfl)) (by first | assumption | omega | decide | (simp; done) | (simp; omega) | exact ⟨by omega, by decide⟩) (by first | assumption | omega | decide | (simp; done) | (simp; omega) | exact ⟨by omega, by decide⟩)) ?_)
                                         rintro _ w54 ⟨g55, Ao56, co57, rfl, hw54_hp, hw54_hs, hcco57, hu_⟩; refine ⟨_, rfl, ?_⟩; replace hW := hW.made hu_; clear hA ac; intro ac hA
                                         rw [hv5] at hw54_hp; have qk : g55 = [1, 2] := sorted_12 hw54_hp hw54_hs
                                         have qkl : g55.length ≤ 100000 := by rw [qk]; decide
                                         refine st hA (by kernel_rfl) (by kernel_rfl) (by kernel_rfl) (Runs.cells (fun b => Value.slice (some ⟨b, 0, none⟩) 2 2) #[Value.int .i64 1, Value.int .i64 2] 3 (fun _ => by kernel_rfl) hW ?_); clear hA ac hW; intro b59 w60 hW hb59 hfw60 ac hA
                                         refine st hA (by kernel_rfl) (by kernel_rfl) (by kernel_rfl) (Runs.callN (v := Value.bool (decide (g55 = ([1, 2] : List Int)))) (fun _ => by kernel_rfl) hW (e_ints Ao56 co57 g55 (some ⟨b59, 0, none⟩) 2 ([1, 2] : List Int) w60 (rowR_at ((hW).get 1 rfl) elt_I.len) (own_cap ((hW).get 1 rfl)) (rowAt_cel ((hW).cel 0 rfl) ([1, 2] : List Int) (by rfl) elt_I.len) (by first | assumption | omega | (simp; omega) | simp) (by first | assumption | omega | decide | (simp; done) | (simp; omega) | exact ⟨by omega, by decide⟩)) ?_); clear hA ac hW; intro w61 hW hfw61 ac hA
                                         refine st_rd (v := Value.bool (decide (g55 = ([1, 2] : List Int)))) hA (by kernel_rfl) (by kernel_rfl) (by kernel_rfl) hW.cls (Rd.pure fun _ => by kernel_rfl) ?_; clear hA ac; intro ac hA
                                         refine st_rd (v := Value.bool (decide (g55 = ([1, 2] : List Int)))) hA (by kernel_rfl) (by kernel_rfl) (by kernel_rfl) hW.cls (Rd.pure fun _ => by kernel_rfl) ?_; clear hA ac; intro ac hA
                                         refine wpList_nil ?_
                                         refine thenN ?_
                                         refine wp_ret ?_
                                         refine ret1 (v := Value.bool (decide (g55 = ([1, 2] : List Int)))) (by rfl) hA (Got.tmp hA (by kernel_rfl) (by kernel_rfl)) ?_
                                         clear hA
                                         exact ⟨retv (by first | rfl | exact congrArg Value.bool (decide_eq_true qk)), hW.fr⟩)
                                     · skip
                                       rw [h53] at hA
                                       have h53 := ne_of_beq_false h53
                                       first
                                       | (exfalso; clear hA hW; omega)
                                       | (exfalso; clear hA hW; rw [qi0'] at h53; cases h53; done)
                                       | (exfalso; clear hA hW; rw [qi1'] at h53; cases h53; done)
                                       | (exfalso; clear hA hW; rw [qg] at h53; cases h53; done)
                                       | (exfalso; clear hA hW; exact absurd qk h53; done)
                                       | (exfalso; clear hA hW; rw [qk] at h53; exact absurd rfl h53; done)
                                       | (exfalso; clear hA hW; rw [qk] at h53; cases h53; done)
                                       | (
                                         refine st_skip hA (by kernel_rfl) (by kernel_rfl) ?_; clear hA ac; intro ac hA
                                         refine st_skip hA (by kernel_rfl) (by kernel_rfl) ?_; clear hA ac; intro ac hA
                                         refine st_skip hA (by kernel_rfl) (by kernel_rfl) ?_; clear hA ac; intro ac hA
                                         refine st_skip hA (by kernel_rfl) (by kernel_rfl) ?_; clear hA ac; intro ac hA
                                         refine st_rd (v := Value.bool false) hA (by kernel_rfl) (by kernel_rfl) (by kernel_rfl) hW.cls (Rd.pure fun _ => by kernel_rfl) ?_; clear hA ac; intro ac hA
                                         refine st_rd (v := Value.bool false) hA (by kernel_rfl) (by kernel_rfl) (by kernel_rfl) hW.cls (Rd.pure fun _ => by kernel_rfl) ?_; clear hA ac; intro ac hA
                                         refine wpList_nil ?_
                                         refine thenN ?_
                                         refine wp_ret ?_
                                         refine ret1 (v := Value.bool false) (by rfl) hA (Got.tmp hA (by kernel_rfl) (by kernel_rfl)) ?_
                                         clear hA
                                         exact ⟨retv (by first | rfl | exact congrArg Value.bool (decide_eq_true qk)), hW.fr⟩))
                                 · skip
                                   rw [h49] at hA
                                   have h49 := not_f h49
                                   first
                                   | (exfalso; clear hA hW; omega)
                                   | (exfalso; clear hA hW; rw [qi0'] at h49; cases h49; done)
                                   | (exfalso; clear hA hW; rw [qi1'] at h49; cases h49; done)
                                   | (exfalso; clear hA hW; rw [qg] at h49; cases h49; done)
                                   | (exfalso; clear hA hW; exact absurd qk h49; done)
                                   | (exfalso; clear hA hW; rw [qk] at h49; exact absurd rfl h49; done)
                                   | (exfalso; clear hA hW; rw [qk] at h49; cases h49; done)
                                   | (
                                     refine st_skip hA (by kernel_rfl) (by kernel_rfl) ?_; clear hA ac; intro ac hA
                                     refine st_skip hA (by kernel_rfl) (by kernel_rfl) ?_; clear hA ac; intro ac hA
                                     refine st_skip hA (by kernel_rfl) (by kernel_rfl) ?_; clear hA ac; intro ac hA
                                     refine st_skip hA (by kernel_rfl) (by kernel_rfl) ?_; clear hA ac; intro ac hA
                                     refine st_rd (v := Value.bool false) hA (by kernel_rfl) (by kernel_rfl) (by kernel_rfl) hW.cls (Rd.pure fun _ => by kernel_rfl) ?_; clear hA ac; intro ac hA
                                     refine st_rd (v := Value.bool false) hA (by kernel_rfl) (by kernel_rfl) (by kernel_rfl) hW.cls (Rd.pure fun _ => by kernel_rfl) ?_; clear hA ac; intro ac hA
                                     refine st_skip hA (by kernel_rfl) (by kernel_rfl) ?_; clear hA ac; intro ac hA
                                     refine st_skip hA (by kernel_rfl) (by kernel_rfl) ?_; clear hA ac; intro ac hA
                                     refine st_skip hA (by kernel_rfl) (by kernel_rfl) ?_; clear hA ac; intro ac hA
                                     refine st_skip hA (by kernel_rfl) (by kernel_rfl) ?_; clear hA ac; intro ac hA
                                     refine st_rd (v := Value.bool false) hA (by kernel_rfl) (by kernel_rfl) (by kernel_rfl) hW.cls (Rd.pure fun _ => by kernel_rfl) ?_; clear hA ac; intro ac hA
                                     refine st_rd (v := Value.bool false) hA (by kernel_rfl) (by kernel_rfl) (by kernel_rfl) hW.cls (Rd.pure fun _ => by kernel_rfl) ?_; clear hA ac; intro ac hA
                                     refine wpList_nil ?_
                                     refine thenN ?_
                                     refine wp_ret ?_
                                     refine ret1 (v := Value.bool false) (by rfl) hA (Got.tmp hA (by kernel_rfl) (by kernel_rfl)) ?_
                                     clear hA
                                     exact ⟨retv (by first | rfl | exact congrArg Value.bool (decide_eq_true qk)), hW.fr⟩))
                             · skip
                               rw [h48] at hA
                               have h48 := not_f h48
                               first
                               | (exfalso; clear hA hW; omega)
                               | (exfalso; clear hA hW; rw [qi0'] at h48; cases h48; done)
                               | (exfalso; clear hA hW; rw [qi1'] at h48; cases h48; done)
                               | (exfalso; clear hA hW; rw [qg] at h48; cases h48; done)
                               | (exfalso; clear hA hW; exact absurd qk h48; done)
                               | (exfalso; clear hA hW; rw [qk] at h48; exact absurd rfl h48; done)
                               | (exfalso; clear hA hW; rw [qk] at h48; cases h48; done)
                               | (
                                 refine st_skip hA (by kernel_rfl) (by kernel_rfl) ?_; clear hA ac; intro ac hA
                                 refine st_skip hA (by kernel_rfl) (by kernel_rfl) ?_; clear hA ac; intro ac hA
                                 refine st_rd (v := Value.bool false) hA (by kernel_rfl) (by kernel_rfl) (by kernel_rfl) hW.cls (Rd.pure fun _ => by kernel_rfl) ?_; clear hA ac; intro ac hA
                                 refine st_rd (v := Value.bool false) hA (by kernel_rfl) (by kernel_rfl) (by kernel_rfl) hW.cls (Rd.pure fun _ => by kernel_rfl) ?_; clear hA ac; intro ac hA
                                 refine st_skip hA (by kernel_rfl) (by kernel_rfl) ?_; clear hA ac; intro ac hA
                                 refine st_skip hA (by kernel_rfl) (by kernel_rfl) ?_; clear hA ac; intro ac hA
                                 refine st_skip hA (by kernel_rfl) (by kernel_rfl) ?_; clear hA ac; intro ac hA
                                 refine st_skip hA (by kernel_rfl) (by kernel_rfl) ?_; clear hA ac; intro ac hA
                                 refine st_rd (v := Value.bool false) hA (by kernel_rfl) (by kernel_rfl) (by kernel_rfl) hW.cls (Rd.pure fun _ => by kernel_rfl) ?_; clear hA ac; intro ac hA
                                 refine st_rd (v := Value.bool false) hA (by kernel_rfl) (by kernel_rfl) (by kernel_rfl) hW.cls (Rd.pure fun _ => by kernel_rfl) ?_; clear hA ac; intro ac hA
                                 refine st_skip hA (by kernel_rfl) (by kernel_rfl) ?_; clear hA ac; intro ac hA
                                 refine st_skip hA (by kernel_rfl) (by kernel_rfl) ?_; clear hA ac; intro ac hA
                                 refine st_skip hA (by kernel_rfl) (by kernel_rfl) ?_; clear hA ac; intro ac hA
                                 refine st_skip hA (by kernel_rfl) (by kernel_rfl) ?_; clear hA ac; intro ac hA
                                 refine st_rd (v := Value.bool false) hA (by kernel_rfl) (by kernel_rfl) (by kernel_rfl) hW.cls (Rd.pure fun _ => by kernel_rfl) ?_; clear hA ac; intro ac hA
                                 refine st_rd (v := Value.bool false) hA (by kernel_rfl) (by kernel_rfl) (by kernel_rfl) hW.cls (Rd.pure fun _ => by kernel_rfl) ?_; clear hA ac; intro ac hA
                                 refine wpList_nil ?_
                                 refine thenN ?_
                                 refine wp_ret ?_
                                 refine ret1 (v := Value.bool false) (by rfl) hA (Got.tmp hA (by kernel_rfl) (by kernel_rfl)) ?_
                                 clear hA
                                 exact ⟨retv (by first | rfl | exact congrArg Value.bool (decide_eq_true qk)), hW.fr⟩))
                         · skip
                           rw [h47] at hA
                           first
                           | (exfalso; clear hA hW; omega)
                           | (exfalso; clear hA hW; rw [qi0'] at h47; cases h47; done)
                           | (exfalso; clear hA hW; rw [qi1'] at h47; cases h47; done)
                           | (exfalso; clear hA hW; rw [qg] at h47; cases h47; done)
                           | (exfalso; clear hA hW; exact absurd qk h47; done)
                           | (exfalso; clear hA hW; rw [qk] at h47; exact absurd rfl h47; done)
                           | (exfalso; clear hA hW; rw [qk] at h47; cases h47; done)
                           | (
                             refine st_skip hA (by kernel_rfl) (by kernel_rfl) ?_; clear hA ac; intro ac hA
                             refine st_skip hA (by kernel_rfl) (by kernel_rfl) ?_; clear hA ac; intro ac hA
                             refine st_rd (v := Value.bool false) hA (by kernel_rfl) (by kernel_rfl) (by kernel_rfl) hW.cls (Rd.pure fun _ => by kernel_rfl) ?_; clear hA ac; intro ac hA
                             refine st_rd (v := Value.bool false) hA (by kernel_rfl) (by kernel_rfl) (by kernel_rfl) hW.cls (Rd.pure fun _ => by kernel_rfl) ?_; clear hA ac; intro ac hA
                             refine st_skip hA (by kernel_rfl) (by kernel_rfl) ?_; clear hA ac; intro ac hA
                             refine st_skip hA (by kernel_rfl) (by kernel_rfl) ?_; clear hA ac; intro ac hA
                             refine st_rd (v := Value.bool false) hA (by kernel_rfl) (by kernel_rfl) (by kernel_rfl) hW.cls (Rd.pure fun _ => by kernel_rfl) ?_; clear hA ac; intro ac hA
                             refine st_rd (v := Value.bool false) hA (by kernel_rfl) (by kernel_rfl) (by kernel_rfl) hW.cls (Rd.pure fun _ => by kernel_rfl) ?_; clear hA ac; intro ac hA
                             refine st_skip hA (by kernel_rfl) (by kernel_rfl) ?_; clear hA ac; intro ac hA
                             refine st_skip hA (by kernel_rfl) (by kernel_rfl) ?_; clear hA ac; intro ac hA
                             refine st_skip hA (by kernel_rfl) (by kernel_rfl) ?_; clear hA ac; intro ac hA
                             refine st_skip hA (by kernel_rfl) (by kernel_rfl) ?_; clear hA ac; intro ac hA
                             refine st_rd (v := Value.bool false) hA (by kernel_rfl) (by kernel_rfl) (by kernel_rfl) hW.cls (Rd.pure fun _ => by kernel_rfl) ?_; clear hA ac; intro ac hA
                             refine st_rd (v := Value.bool false) hA (by kernel_rfl) (by kernel_rfl) (by kernel_rfl) hW.cls (Rd.pure fun _ => by kernel_rfl) ?_; clear hA ac; intro ac hA
                             refine st_skip hA (by kernel_rfl) (by kernel_rfl) ?_; clear hA ac; intro ac hA
                             refine st_skip hA (by kernel_rfl) (by kernel_rfl) ?_; clear hA ac; intro ac hA
                             refine st_skip hA (by kernel_rfl) (by kernel_rfl) ?_; clear hA ac; intro ac hA
                             refine st_skip hA (by kernel_rfl) (by kernel_rfl) ?_; clear hA ac; intro ac hA
                             refine st_rd (v := Value.bool false) hA (by kernel_rfl) (by kernel_rfl) (by kernel_rfl) hW.cls (Rd.pure fun _ => by kernel_rfl) ?_; clear hA ac; intro ac hA
                             refine st_rd (v := Value.bool false) hA (by kernel_rfl) (by kernel_rfl) (by kernel_rfl) hW.cls (Rd.pure fun _ => by kernel_rfl) ?_; clear hA ac; intro ac hA
                             refine wpList_nil ?_
                             refine thenN ?_
                             refine wp_ret ?_
                             refine ret1 (v := Value.bool false) (by rfl) hA (Got.tmp hA (by kernel_rfl) (by kernel_rfl)) ?_
                             clear hA
                             exact ⟨retv (by first | rfl | exact congrArg Value.bool (decide_eq_true qk)), hW.fr⟩))
                     · skip
                       rw [h46] at hA
                       have h46 := ne_of_beq_false h46
                       first
                       | (exfalso; clear hA hW; omega)
                       | (exfalso; clear hA hW; rw [qi0'] at h46; cases h46; done)
                       | (exfalso; clear hA hW; rw [qi1'] at h46; cases h46; done)
                       | (exfalso; clear hA hW; rw [qg] at h46; cases h46; done)
                       | (exfalso; clear hA hW; exact absurd qk h46; done)
                       | (exfalso; clear hA hW; rw [qk] at h46; exact absurd rfl h46; done)
                       | (exfalso; clear hA hW; rw [qk] at h46; cases h46; done)
                       | (
                         refine st_skip hA (by kernel_rfl) (by kernel_rfl) ?_; clear hA ac; intro ac hA
                         refine st_rd (v := Value.bool false) hA (by kernel_rfl) (by kernel_rfl) (by kernel_rfl) hW.cls (Rd.pure fun _ => by kernel_rfl) ?_; clear hA ac; intro ac hA
                         refine st_rd (v := Value.bool false) hA (by kernel_rfl) (by kernel_rfl) (by kernel_rfl) hW.cls (Rd.pure fun _ => by kernel_rfl) ?_; clear hA ac; intro ac hA
                         refine st_skip hA (by kernel_rfl) (by kernel_rfl) ?_; clear hA ac; intro ac hA
                         refine st_skip hA (by kernel_rfl) (by kernel_rfl) ?_; clear hA ac; intro ac hA
                         refine st_rd (v := Value.bool false) hA (by kernel_rfl) (by kernel_rfl) (by kernel_rfl) hW.cls (Rd.pure fun _ => by kernel_rfl) ?_; clear hA ac; intro ac hA
                         refine st_rd (v := Value.bool false) hA (by kernel_rfl) (by kernel_rfl) (by kernel_rfl) hW.cls (Rd.pure fun _ => by kernel_rfl) ?_; clear hA ac; intro ac hA
                         refine st_skip hA (by kernel_rfl) (by kernel_rfl) ?_; clear hA ac; intro ac hA
                         refine st_skip hA (by kernel_rfl) (by kernel_rfl) ?_; clear hA ac; intro ac hA
                         refine st_rd (v := Value.bool false) hA (by kernel_rfl) (by kernel_rfl) (by kernel_rfl) hW.cls (Rd.pure fun _ => by kernel_rfl) ?_; clear hA ac; intro ac hA
                         refine st_rd (v := Value.bool false) hA (by kernel_rfl) (by kernel_rfl) (by kernel_rfl) hW.cls (Rd.pure fun _ => by kernel_rfl) ?_; clear hA ac; intro ac hA
                         refine st_skip hA (by kernel_rfl) (by kernel_rfl) ?_; clear hA ac; intro ac hA
                         refine st_skip hA (by kernel_rfl) (by kernel_rfl) ?_; clear hA ac; intro ac hA
                         refine st_skip hA (by kernel_rfl) (by kernel_rfl) ?_; clear hA ac; intro ac hA
                         refine st_skip hA (by kernel_rfl) (by kernel_rfl) ?_; clear hA ac; intro ac hA
                         refine st_rd (v := Value.bool false) hA (by kernel_rfl) (by kernel_rfl) (by kernel_rfl) hW.cls (Rd.pure fun _ => by kernel_rfl) ?_; clear hA ac; intro ac hA
                         refine st_rd (v := Value.bool false) hA (by kernel_rfl) (by kernel_rfl) (by kernel_rfl) hW.cls (Rd.pure fun _ => by kernel_rfl) ?_; clear hA ac; intro ac hA
                         refine st_skip hA (by kernel_rfl) (by kernel_rfl) ?_; clear hA ac; intro ac hA
                         refine st_skip hA (by kernel_rfl) (by kernel_rfl) ?_; clear hA ac; intro ac hA
                         refine st_skip hA (by kernel_rfl) (by kernel_rfl) ?_; clear hA ac; intro ac hA
                         refine st_skip hA (by kernel_rfl) (by kernel_rfl) ?_; clear hA ac; intro ac hA
                         refine st_rd (v := Value.bool false) hA (by kernel_rfl) (by kernel_rfl) (by kernel_rfl) hW.cls (Rd.pure fun _ => by kernel_rfl) ?_; clear hA ac; intro ac hA
                         refine st_rd (v := Value.bool false) hA (by kernel_rfl) (by kernel_rfl) (by kernel_rfl) hW.cls (Rd.pure fun _ => by kernel_rfl) ?_; clear hA ac; intro ac hA
                         refine wpList_nil ?_
                         refine thenN ?_
                         refine wp_ret ?_
                         refine ret1 (v := Value.bool false) (by rfl) hA (Got.tmp hA (by kernel_rfl) (by kernel_rfl)) ?_
                         clear hA
                         exact ⟨retv (by first | rfl | exact congrArg Value.bool (decide_eq_true qk)), hW.fr⟩))
                 · skip
                   rw [h45] at hA
                   have h45 := ne_of_beq_false h45
                   first
                   | (exfalso; clear hA hW; omega)
                   | (exfalso; clear hA hW; rw [qi0'] at h45; cases h45; done)
                   | (exfalso; clear hA hW; rw [qi1'] at h45; cases h45; done)
                   | (exfalso; clear hA hW; rw [qg] at h45; cases h45; done)
                   | (exfalso; clear hA hW; exact absurd qk h45; done)
                   | (exfalso; clear hA hW; rw [qk] at h45; exact absurd rfl h45; done)
                   | (exfalso; clear hA hW; rw [qk] at h45; cases h45; done)
                   | (
                     refine st_skip hA (by kernel_rfl) (by kernel_rfl) ?_; clear hA ac; intro ac hA
                     refine st_skip hA (by kernel_rfl) (by kernel_rfl) ?_; clear hA ac; intro ac hA
                     refine st_skip hA (by kernel_rfl) (by kernel_rfl) ?_; clear hA ac; intro ac hA
                     refine st_rd (v := Value.bool false) hA (by kernel_rfl) (by kernel_rfl) (by kernel_rfl) hW.cls (Rd.pure fun _ => by kernel_rfl) ?_; clear hA ac; intro ac hA
                     refine st_rd (v := Value.bool false) hA (by kernel_rfl) (by kernel_rfl) (by kernel_rfl) hW.cls (Rd.pure fun _ => by kernel_rfl) ?_; clear hA ac; intro ac hA
                     refine st_skip hA (by kernel_rfl) (by kernel_rfl) ?_; clear hA ac; intro ac hA
                     refine st_rd (v := Value.bool false) hA (by kernel_rfl) (by kernel_rfl) (by kernel_rfl) hW.cls (Rd.pure fun _ => by kernel_rfl) ?_; clear hA ac; intro ac hA
                     refine st_rd (v := Value.bool false) hA (by kernel_rfl) (by kernel_rfl) (by kernel_rfl) hW.cls (Rd.pure fun _ => by kernel_rfl) ?_; clear hA ac; intro ac hA
                     refine st_skip hA (by kernel_rfl) (by kernel_rfl) ?_; clear hA ac; intro ac hA
                     refine st_skip hA (by kernel_rfl) (by kernel_rfl) ?_; clear hA ac; intro ac hA
                     refine st_rd (v := Value.bool false) hA (by kernel_rfl) (by kernel_rfl) (by kernel_rfl) hW.cls (Rd.pure fun _ => by kernel_rfl) ?_; clear hA ac; intro ac hA
                     refine st_rd (v := Value.bool false) hA (by kernel_rfl) (by kernel_rfl) (by kernel_rfl) hW.cls (Rd.pure fun _ => by kernel_rfl) ?_; clear hA ac; intro ac hA
                     refine st_skip hA (by kernel_rfl) (by kernel_rfl) ?_; clear hA ac; intro ac hA
                     refine st_skip hA (by kernel_rfl) (by kernel_rfl) ?_; clear hA ac; intro ac hA
                     refine st_rd (v := Value.bool false) hA (by kernel_rfl) (by kernel_rfl) (by kernel_rfl) hW.cls (Rd.pure fun _ => by kernel_rfl) ?_; clear hA ac; intro ac hA
                     refine st_rd (v := Value.bool false) hA (by kernel_rfl) (by kernel_rfl) (by kernel_rfl) hW.cls (Rd.pure fun _ => by kernel_rfl) ?_; clear hA ac; intro ac hA
                     refine st_skip hA (by kernel_rfl) (by kernel_rfl) ?_; clear hA ac; intro ac hA
                     refine st_skip hA (by kernel_rfl) (by kernel_rfl) ?_; clear hA ac; intro ac hA
                     refine st_skip hA (by kernel_rfl) (by kernel_rfl) ?_; clear hA ac; intro ac hA
                     refine st_skip hA (by kernel_rfl) (by kernel_rfl) ?_; clear hA ac; intro ac hA
                     refine st_rd (v := Value.bool false) hA (by kernel_rfl) (by kernel_rfl) (by kernel_rfl) hW.cls (Rd.pure fun _ => by kernel_rfl) ?_; clear hA ac; intro ac hA
                     refine st_rd (v := Value.bool false) hA (by kernel_rfl) (by kernel_rfl) (by kernel_rfl) hW.cls (Rd.pure fun _ => by kernel_rfl) ?_; clear hA ac; intro ac hA
                     refine st_skip hA (by kernel_rfl) (by kernel_rfl) ?_; clear hA ac; intro ac hA
                     refine st_skip hA (by kernel_rfl) (by kernel_rfl) ?_; clear hA ac; intro ac hA
                     refine st_skip hA (by kernel_rfl) (by kernel_rfl) ?_; clear hA ac; intro ac hA
                     refine st_skip hA (by kernel_rfl) (by kernel_rfl) ?_; clear hA ac; intro ac hA
                     refine st_rd (v := Value.bool false) hA (by kernel_rfl) (by kernel_rfl) (by kernel_rfl) hW.cls (Rd.pure fun _ => by kernel_rfl) ?_; clear hA ac; intro ac hA
                     refine st_rd (v := Value.bool false) hA (by kernel_rfl) (by kernel_rfl) (by kernel_rfl) hW.cls (Rd.pure fun _ => by kernel_rfl) ?_; clear hA ac; intro ac hA
                     refine wpList_nil ?_
                     refine thenN ?_
                     refine wp_ret ?_
                     refine ret1 (v := Value.bool false) (by rfl) hA (Got.tmp hA (by kernel_rfl) (by kernel_rfl)) ?_
                     clear hA
                     exact ⟨retv (by first | rfl | exact congrArg Value.bool (decide_eq_true qk)), hW.fr⟩))
             · skip
               rw [h44] at hA
               have h44 := ne_of_beq_false h44
               first
               | (exfalso; clear hA hW; omega)
               | (exfalso; clear hA hW; rw [qi0'] at h44; cases h44; done)
               | (exfalso; clear hA hW; rw [qi1'] at h44; cases h44; done)
               | (exfalso; clear hA hW; rw [qg] at h44; cases h44; done)
               | (exfalso; clear hA hW; exact absurd qk h44; done)
               | (exfalso; clear hA hW; rw [qk] at h44; exact absurd rfl h44; done)
               | (exfalso; clear hA hW; rw [qk] at h44; cases h44; done)
               | (
                 refine st_skip hA (by kernel_rfl) (by kernel_rfl) ?_; clear hA ac; intro ac hA
                 refine st_skip hA (by kernel_rfl) (by kernel_rfl) ?_; clear hA ac; intro ac hA
                 refine st_rd (v := Value.bool false) hA (by kernel_rfl) (by kernel_rfl) (by kernel_rfl) hW.cls (Rd.pure fun _ => by kernel_rfl) ?_; clear hA ac; intro ac hA
                 refine st_rd (v := Value.bool false) hA (by kernel_rfl) (by kernel_rfl) (by kernel_rfl) hW.cls (Rd.pure fun _ => by kernel_rfl) ?_; clear hA ac; intro ac hA
                 refine st_skip hA (by kernel_rfl) (by kernel_rfl) ?_; clear hA ac; intro ac hA
                 refine st_skip hA (by kernel_rfl) (by kernel_rfl) ?_; clear hA ac; intro ac hA
                 refine st_skip hA (by kernel_rfl) (by kernel_rfl) ?_; clear hA ac; intro ac hA
                 refine st_rd (v := Value.bool false) hA (by kernel_rfl) (by kernel_rfl) (by kernel_rfl) hW.cls (Rd.pure fun _ => by kernel_rfl) ?_; clear hA ac; intro ac hA
                 refine st_rd (v := Value.bool false) hA (by kernel_rfl) (by kernel_rfl) (by kernel_rfl) hW.cls (Rd.pure fun _ => by kernel_rfl) ?_; clear hA ac; intro ac hA
                 refine st_skip hA (by kernel_rfl) (by kernel_rfl) ?_; clear hA ac; intro ac hA
                 refine st_rd (v := Value.bool false) hA (by kernel_rfl) (by kernel_rfl) (by kernel_rfl) hW.cls (Rd.pure fun _ => by kernel_rfl) ?_; clear hA ac; intro ac hA
                 refine st_rd (v := Value.bool false) hA (by kernel_rfl) (by kernel_rfl) (by kernel_rfl) hW.cls (Rd.pure fun _ => by kernel_rfl) ?_; clear hA ac; intro ac hA
                 refine st_skip hA (by kernel_rfl) (by kernel_rfl) ?_; clear hA ac; intro ac hA
                 refine st_skip hA (by kernel_rfl) (by kernel_rfl) ?_; clear hA ac; intro ac hA
                 refine st_rd (v := Value.bool false) hA (by kernel_rfl) (by kernel_rfl) (by kernel_rfl) hW.cls (Rd.pure fun _ => by kernel_rfl) ?_; clear hA ac; intro ac hA
                 refine st_rd (v := Value.bool false) hA (by kernel_rfl) (by kernel_rfl) (by kernel_rfl) hW.cls (Rd.pure fun _ => by kernel_rfl) ?_; clear hA ac; intro ac hA
                 refine st_skip hA (by kernel_rfl) (by kernel_rfl) ?_; clear hA ac; intro ac hA
                 refine st_skip hA (by kernel_rfl) (by kernel_rfl) ?_; clear hA ac; intro ac hA
                 refine st_rd (v := Value.bool false) hA (by kernel_rfl) (by kernel_rfl) (by kernel_rfl) hW.cls (Rd.pure fun _ => by kernel_rfl) ?_; clear hA ac; intro ac hA
                 refine st_rd (v := Value.bool false) hA (by kernel_rfl) (by kernel_rfl) (by kernel_rfl) hW.cls (Rd.pure fun _ => by kernel_rfl) ?_; clear hA ac; intro ac hA
                 refine st_skip hA (by kernel_rfl) (by kernel_rfl) ?_; clear hA ac; intro ac hA
                 refine st_skip hA (by kernel_rfl) (by kernel_rfl) ?_; clear hA ac; intro ac hA
                 refine st_skip hA (by kernel_rfl) (by kernel_rfl) ?_; clear hA ac; intro ac hA
                 refine st_skip hA (by kernel_rfl) (by kernel_rfl) ?_; clear hA ac; intro ac hA
                 refine st_rd (v := Value.bool false) hA (by kernel_rfl) (by kernel_rfl) (by kernel_rfl) hW.cls (Rd.pure fun _ => by kernel_rfl) ?_; clear hA ac; intro ac hA
                 refine st_rd (v := Value.bool false) hA (by kernel_rfl) (by kernel_rfl) (by kernel_rfl) hW.cls (Rd.pure fun _ => by kernel_rfl) ?_; clear hA ac; intro ac hA
                 refine st_skip hA (by kernel_rfl) (by kernel_rfl) ?_; clear hA ac; intro ac hA
                 refine st_skip hA (by kernel_rfl) (by kernel_rfl) ?_; clear hA ac; intro ac hA
                 refine st_skip hA (by kernel_rfl) (by kernel_rfl) ?_; clear hA ac; intro ac hA
                 refine st_skip hA (by kernel_rfl) (by kernel_rfl) ?_; clear hA ac; intro ac hA
                 refine st_rd (v := Value.bool false) hA (by kernel_rfl) (by kernel_rfl) (by kernel_rfl) hW.cls (Rd.pure fun _ => by kernel_rfl) ?_; clear hA ac; intro ac hA
                 refine st_rd (v := Value.bool false) hA (by kernel_rfl) (by kernel_rfl) (by kernel_rfl) hW.cls (Rd.pure fun _ => by kernel_rfl) ?_; clear hA ac; intro ac hA
                 refine wpList_nil ?_
                 refine thenN ?_
                 refine wp_ret ?_
                 refine ret1 (v := Value.bool false) (by rfl) hA (Got.tmp hA (by kernel_rfl) (by kernel_rfl)) ?_
                 clear hA
                 exact ⟨retv (by first | rfl | exact congrArg Value.bool (decide_eq_true qk)), hW.fr⟩))
         · skip
           rw [h43] at hA
           have h43 := ne_of_beq_false h43
           first
           | (exfalso; clear hA hW; omega)
           | (exfalso; clear hA hW; rw [qi0'] at h43; cases h43; done)
           | (exfalso; clear hA hW; rw [qi1'] at h43; cases h43; done)
           | (exfalso; clear hA hW; rw [qg] at h43; cases h43; done)
           | (exfalso; clear hA hW; exact absurd qk h43; done)
           | (exfalso; clear hA hW; rw [qk] at h43; exact absurd rfl h43; done)
           | (exfalso; clear hA hW; rw [qk] at h43; cases h43; done)
           | (
             refine st_skip hA (by kernel_rfl) (by kernel_rfl) ?_; clear hA ac; intro ac hA
             refine st_skip hA (by kernel_rfl) (by kernel_rfl) ?_; clear hA ac; intro ac hA
             refine st_rd (v := Value.bool false) hA (by kernel_rfl) (by kernel_rfl) (by kernel_rfl) hW.cls (Rd.pure fun _ => by kernel_rfl) ?_; clear hA ac; intro ac hA
             refine st_rd (v := Value.bool false) hA (by kernel_rfl) (by kernel_rfl) (by kernel_rfl) hW.cls (Rd.pure fun _ => by kernel_rfl) ?_; clear hA ac; intro ac hA
             refine st_skip hA (by kernel_rfl) (by kernel_rfl) ?_; clear hA ac; intro ac hA
             refine st_skip hA (by kernel_rfl) (by kernel_rfl) ?_; clear hA ac; intro ac hA
             refine st_rd (v := Value.bool false) hA (by kernel_rfl) (by kernel_rfl) (by kernel_rfl) hW.cls (Rd.pure fun _ => by kernel_rfl) ?_; clear hA ac; intro ac hA
             refine st_rd (v := Value.bool false) hA (by kernel_rfl) (by kernel_rfl) (by kernel_rfl) hW.cls (Rd.pure fun _ => by kernel_rfl) ?_; clear hA ac; intro ac hA
             refine st_skip hA (by kernel_rfl) (by kernel_rfl) ?_; clear hA ac; intro ac hA
             refine st_skip hA (by kernel_rfl) (by kernel_rfl) ?_; clear hA ac; intro ac hA
             refine st_skip hA (by kernel_rfl) (by kernel_rfl) ?_; clear hA ac; intro ac hA
             refine st_rd (v := Value.bool false) hA (by kernel_rfl) (by kernel_rfl) (by kernel_rfl) hW.cls (Rd.pure fun _ => by kernel_rfl) ?_; clear hA ac; intro ac hA
             refine st_rd (v := Value.bool false) hA (by kernel_rfl) (by kernel_rfl) (by kernel_rfl) hW.cls (Rd.pure fun _ => by kernel_rfl) ?_; clear hA ac; intro ac hA
             refine st_skip hA (by kernel_rfl) (by kernel_rfl) ?_; clear hA ac; intro ac hA
             refine st_rd (v := Value.bool false) hA (by kernel_rfl) (by kernel_rfl) (by kernel_rfl) hW.cls (Rd.pure fun _ => by kernel_rfl) ?_; clear hA ac; intro ac hA
             refine st_rd (v := Value.bool false) hA (by kernel_rfl) (by kernel_rfl) (by kernel_rfl) hW.cls (Rd.pure fun _ => by kernel_rfl) ?_; clear hA ac; intro ac hA
             refine st_skip hA (by kernel_rfl) (by kernel_rfl) ?_; clear hA ac; intro ac hA
             refine st_skip hA (by kernel_rfl) (by kernel_rfl) ?_; clear hA ac; intro ac hA
             refine st_rd (v := Value.bool false) hA (by kernel_rfl) (by kernel_rfl) (by kernel_rfl) hW.cls (Rd.pure fun _ => by kernel_rfl) ?_; clear hA ac; intro ac hA
             refine st_rd (v := Value.bool false) hA (by kernel_rfl) (by kernel_rfl) (by kernel_rfl) hW.cls (Rd.pure fun _ => by kernel_rfl) ?_; clear hA ac; intro ac hA
             refine st_skip hA (by kernel_rfl) (by kernel_rfl) ?_; clear hA ac; intro ac hA
             refine st_skip hA (by kernel_rfl) (by kernel_rfl) ?_; clear hA ac; intro ac hA
             refine st_rd (v := Value.bool false) hA (by kernel_rfl) (by kernel_rfl) (by kernel_rfl) hW.cls (Rd.pure fun _ => by kernel_rfl) ?_; clear hA ac; intro ac hA
             refine st_rd (v := Value.bool false) hA (by kernel_rfl) (by kernel_rfl) (by kernel_rfl) hW.cls (Rd.pure fun _ => by kernel_rfl) ?_; clear hA ac; intro ac hA
             refine st_skip hA (by kernel_rfl) (by kernel_rfl) ?_; clear hA ac; intro ac hA
             refine st_skip hA (by kernel_rfl) (by kernel_rfl) ?_; clear hA ac; intro ac hA
             refine st_skip hA (by kernel_rfl) (by kernel_rfl) ?_; clear hA ac; intro ac hA
             refine st_skip hA (by kernel_rfl) (by kernel_rfl) ?_; clear hA ac; intro ac hA
             refine st_rd (v := Value.bool false) hA (by kernel_rfl) (by kernel_rfl) (by kernel_rfl) hW.cls (Rd.pure fun _ => by kernel_rfl) ?_; clear hA ac; intro ac hA
             refine st_rd (v := Value.bool false) hA (by kernel_rfl) (by kernel_rfl) (by kernel_rfl) hW.cls (Rd.pure fun _ => by kernel_rfl) ?_; clear hA ac; intro ac hA
             refine st_skip hA (by kernel_rfl) (by kernel_rfl) ?_; clear hA ac; intro ac hA
             refine st_skip hA (by kernel_rfl) (by kernel_rfl) ?_; clear hA ac; intro ac hA
             refine st_skip hA (by kernel_rfl) (by kernel_rfl) ?_; clear hA ac; intro ac hA
             refine st_skip hA (by kernel_rfl) (by kernel_rfl) ?_; clear hA ac; intro ac hA
             refine st_rd (v := Value.bool false) hA (by kernel_rfl) (by kernel_rfl) (by kernel_rfl) hW.cls (Rd.pure fun _ => by kernel_rfl) ?_; clear hA ac; intro ac hA
             refine st_rd (v := Value.bool false) hA (by kernel_rfl) (by kernel_rfl) (by kernel_rfl) hW.cls (Rd.pure fun _ => by kernel_rfl) ?_; clear hA ac; intro ac hA
             refine wpList_nil ?_
             refine thenN ?_
             refine wp_ret ?_
             refine ret1 (v := Value.bool false) (by rfl) hA (Got.tmp hA (by kernel_rfl) (by kernel_rfl)) ?_
             clear hA
             exact ⟨retv (by first | rfl | exact congrArg Value.bool (decide_eq_true qk)), hW.fr⟩))
     · skip
       rw [h42] at hA
       have h42 := ne_of_beq_false h42
       first
       | (exfalso; clear hA hW; omega)
       | (exfalso; clear hA hW; rw [qi0'] at h42; cases h42; done)
       | (exfalso; clear hA hW; rw [qi1'] at h42; cases h42; done)
       | (exfalso; clear hA hW; rw [qg] at h42; cases h42; done)
       | (exfalso; clear hA hW; exact absurd qk h42; done)
       | (exfalso; clear hA hW; rw [qk] at h42; exact absurd rfl h42; done)
       | (exfalso; clear hA hW; rw [qk] at h42; cases h42; done)
       | (
         refine st_skip hA (by kernel_rfl) (by kernel_rfl) ?_; clear hA ac; intro ac hA
         refine st_skip hA (by kernel_rfl) (by kernel_rfl) ?_; clear hA ac; intro ac hA
         refine st_rd (v := Value.bool false) hA (by kernel_rfl) (by kernel_rfl) (by kernel_rfl) hW.cls (Rd.pure fun _ => by kernel_rfl) ?_; clear hA ac; intro ac hA
         refine st_rd (v := Value.bool false) hA (by kernel_rfl) (by kernel_rfl) (by kernel_rfl) hW.cls (Rd.pure fun _ => by kernel_rfl) ?_; clear hA ac; intro ac hA
         refine st_skip hA (by kernel_rfl) (by kernel_rfl) ?_; clear hA ac; intro ac hA
         refine st_skip hA (by kernel_rfl) (by kernel_rfl) ?_; clear hA ac; intro ac hA
         refine st_rd (v := Value.bool false) hA (by kernel_rfl) (by kernel_rfl) (by kernel_rfl) hW.cls (Rd.pure fun _ => by kernel_rfl) ?_; clear hA ac; intro ac hA
         refine st_rd (v := Value.bool false) hA (by kernel_rfl) (by kernel_rfl) (by kernel_rfl) hW.cls (Rd.pure fun _ => by kernel_rfl) ?_; clear hA ac; intro ac hA
         refine st_skip hA (by kernel_rfl) (by kernel_rfl) ?_; clear hA ac; intro ac hA
         refine st_skip hA (by kernel_rfl) (by kernel_rfl) ?_; clear hA ac; intro ac hA
         refine st_rd (v := Value.bool false) hA (by kernel_rfl) (by kernel_rfl) (by kernel_rfl) hW.cls (Rd.pure fun _ => by kernel_rfl) ?_; clear hA ac; intro ac hA
         refine st_rd (v := Value.bool false) hA (by kernel_rfl) (by kernel_rfl) (by kernel_rfl) hW.cls (Rd.pure fun _ => by kernel_rfl) ?_; clear hA ac; intro ac hA
         refine st_skip hA (by kernel_rfl) (by kernel_rfl) ?_; clear hA ac; intro ac hA
         refine st_skip hA (by kernel_rfl) (by kernel_rfl) ?_; clear hA ac; intro ac hA
         refine st_skip hA (by kernel_rfl) (by kernel_rfl) ?_; clear hA ac; intro ac hA
         refine st_rd (v := Value.bool false) hA (by kernel_rfl) (by kernel_rfl) (by kernel_rfl) hW.cls (Rd.pure fun _ => by kernel_rfl) ?_; clear hA ac; intro ac hA
         refine st_rd (v := Value.bool false) hA (by kernel_rfl) (by kernel_rfl) (by kernel_rfl) hW.cls (Rd.pure fun _ => by kernel_rfl) ?_; clear hA ac; intro ac hA
         refine st_skip hA (by kernel_rfl) (by kernel_rfl) ?_; clear hA ac; intro ac hA
         refine st_rd (v := Value.bool false) hA (by kernel_rfl) (by kernel_rfl) (by kernel_rfl) hW.cls (Rd.pure fun _ => by kernel_rfl) ?_; clear hA ac; intro ac hA
         refine st_rd (v := Value.bool false) hA (by kernel_rfl) (by kernel_rfl) (by kernel_rfl) hW.cls (Rd.pure fun _ => by kernel_rfl) ?_; clear hA ac; intro ac hA
         refine st_skip hA (by kernel_rfl) (by kernel_rfl) ?_; clear hA ac; intro ac hA
         refine st_skip hA (by kernel_rfl) (by kernel_rfl) ?_; clear hA ac; intro ac hA
         refine st_rd (v := Value.bool false) hA (by kernel_rfl) (by kernel_rfl) (by kernel_rfl) hW.cls (Rd.pure fun _ => by kernel_rfl) ?_; clear hA ac; intro ac hA
         refine st_rd (v := Value.bool false) hA (by kernel_rfl) (by kernel_rfl) (by kernel_rfl) hW.cls (Rd.pure fun _ => by kernel_rfl) ?_; clear hA ac; intro ac hA
         refine st_skip hA (by kernel_rfl) (by kernel_rfl) ?_; clear hA ac; intro ac hA
         refine st_skip hA (by kernel_rfl) (by kernel_rfl) ?_; clear hA ac; intro ac hA
         refine st_rd (v := Value.bool false) hA (by kernel_rfl) (by kernel_rfl) (by kernel_rfl) hW.cls (Rd.pure fun _ => by kernel_rfl) ?_; clear hA ac; intro ac hA
         refine st_rd (v := Value.bool false) hA (by kernel_rfl) (by kernel_rfl) (by kernel_rfl) hW.cls (Rd.pure fun _ => by kernel_rfl) ?_; clear hA ac; intro ac hA
         refine st_skip hA (by kernel_rfl) (by kernel_rfl) ?_; clear hA ac; intro ac hA
         refine st_skip hA (by kernel_rfl) (by kernel_rfl) ?_; clear hA ac; intro ac hA
         refine st_skip hA (by kernel_rfl) (by kernel_rfl) ?_; clear hA ac; intro ac hA
         refine st_skip hA (by kernel_rfl) (by kernel_rfl) ?_; clear hA ac; intro ac hA
         refine st_rd (v := Value.bool false) hA (by kernel_rfl) (by kernel_rfl) (by kernel_rfl) hW.cls (Rd.pure fun _ => by kernel_rfl) ?_; clear hA ac; intro ac hA
         refine st_rd (v := Value.bool false) hA (by kernel_rfl) (by kernel_rfl) (by kernel_rfl) hW.cls (Rd.pure fun _ => by kernel_rfl) ?_; clear hA ac; intro ac hA
         refine st_skip hA (by kernel_rfl) (by kernel_rfl) ?_; clear hA ac; intro ac hA
         refine st_skip hA (by kernel_rfl) (by kernel_rfl) ?_; clear hA ac; intro ac hA
         refine st_skip hA (by kernel_rfl) (by kernel_rfl) ?_; clear hA ac; intro ac hA
         refine st_skip hA (by kernel_rfl) (by kernel_rfl) ?_; clear hA ac; intro ac hA
         refine st_rd (v := Value.bool false) hA (by kernel_rfl) (by kernel_rfl) (by kernel_rfl) hW.cls (Rd.pure fun _ => by kernel_rfl) ?_; clear hA ac; intro ac hA
         refine st_rd (v := Value.bool false) hA (by kernel_rfl) (by kernel_rfl) (by kernel_rfl) hW.cls (Rd.pure fun _ => by kernel_rfl) ?_; clear hA ac; intro ac hA
         refine wpList_nil ?_
         refine thenN ?_
         refine wp_ret ?_
         refine ret1 (v := Value.bool false) (by rfl) hA (Got.tmp hA (by kernel_rfl) (by kernel_rfl)) ?_
         clear hA
         exact ⟨retv (by first | rfl | exact congrArg Value.bool (decide_eq_true qk)), hW.fr⟩))
 · skip
   rw [h41] at hA
   have h41 := ne_of_beq_false h41
   first
   | (exfalso; clear hA hW; omega)
   | (exfalso; clear hA hW; rw [qi0'] at h41; cases h41; done)
   | (exfalso; clear hA hW; rw [qi1'] at h41; cases h41; done)
   | (exfalso; clear hA hW; rw [qg] at h41; cases h41; done)
   | (exfalso; clear hA hW; exact absurd qk h41; done)
   | (exfalso; clear hA hW; rw [qk] at h41; exact absurd rfl h41; done)
   | (exfalso; clear hA hW; rw [qk] at h41; cases h41; done)
   | (
     refine st_skip hA (by kernel_rfl) (by kernel_rfl) ?_; clear hA ac; intro ac hA
     refine st_skip hA (by kernel_rfl) (by kernel_rfl) ?_; clear hA ac; intro ac hA
     refine st_rd (v := Value.bool false) hA (by kernel_rfl) (by kernel_rfl) (by kernel_rfl) hW.cls (Rd.pure fun _ => by kernel_rfl) ?_; clear hA ac; intro ac hA
     refine st_rd (v := Value.bool false) hA (by kernel_rfl) (by kernel_rfl) (by kernel_rfl) hW.cls (Rd.pure fun _ => by kernel_rfl) ?_; clear hA ac; intro ac hA
     refine st_skip hA (by kernel_rfl) (by kernel_rfl) ?_; clear hA ac; intro ac hA
     refine st_skip hA (by kernel_rfl) (by kernel_rfl) ?_; clear hA ac; intro ac hA
     refine st_rd (v := Value.bool false) hA (by kernel_rfl) (by kernel_rfl) (by kernel_rfl) hW.cls (Rd.pure fun _ => by kernel_rfl) ?_; clear hA ac; intro ac hA
     refine st_rd (v := Value.bool false) hA (by kernel_rfl) (by kernel_rfl) (by kernel_rfl) hW.cls (Rd.pure fun _ => by kernel_rfl) ?_; clear hA ac; intro ac hA
     refine st_skip hA (by kernel_rfl) (by kernel_rfl) ?_; clear hA ac; intro ac hA
     refine st_skip hA (by kernel_rfl) (by kernel_rfl) ?_; clear hA ac; intro ac hA
     refine st_rd (v := Value.bool false) hA (by kernel_rfl) (by kernel_rfl) (by kernel_rfl) hW.cls (Rd.pure fun _ => by kernel_rfl) ?_; clear hA ac; intro ac hA
     refine st_rd (v := Value.bool false) hA (by kernel_rfl) (by kernel_rfl) (by kernel_rfl) hW.cls (Rd.pure fun _ => by kernel_rfl) ?_; clear hA ac; intro ac hA
     refine st_skip hA (by kernel_rfl) (by kernel_rfl) ?_; clear hA ac; intro ac hA
     refine st_skip hA (by kernel_rfl) (by kernel_rfl) ?_; clear hA ac; intro ac hA
     refine st_rd (v := Value.bool false) hA (by kernel_rfl) (by kernel_rfl) (by kernel_rfl) hW.cls (Rd.pure fun _ => by kernel_rfl) ?_; clear hA ac; intro ac hA
     refine st_rd (v := Value.bool false) hA (by kernel_rfl) (by kernel_rfl) (by kernel_rfl) hW.cls (Rd.pure fun _ => by kernel_rfl) ?_; clear hA ac; intro ac hA
     refine st_skip hA (by kernel_rfl) (by kernel_rfl) ?_; clear hA ac; intro ac hA
     refine st_skip hA (by kernel_rfl) (by kernel_rfl) ?_; clear hA ac; intro ac hA
     refine st_skip hA (by kernel_rfl) (by kernel_rfl) ?_; clear hA ac; intro ac hA
     refine st_rd (v := Value.bool false) hA (by kernel_rfl) (by kernel_rfl) (by kernel_rfl) hW.cls (Rd.pure fun _ => by kernel_rfl) ?_; clear hA ac; intro ac hA
     refine st_rd (v := Value.bool false) hA (by kernel_rfl) (by kernel_rfl) (by kernel_rfl) hW.cls (Rd.pure fun _ => by kernel_rfl) ?_; clear hA ac; intro ac hA
     refine st_skip hA (by kernel_rfl) (by kernel_rfl) ?_; clear hA ac; intro ac hA
     refine st_rd (v := Value.bool false) hA (by kernel_rfl) (by kernel_rfl) (by kernel_rfl) hW.cls (Rd.pure fun _ => by kernel_rfl) ?_; clear hA ac; intro ac hA
     refine st_rd (v := Value.bool false) hA (by kernel_rfl) (by kernel_rfl) (by kernel_rfl) hW.cls (Rd.pure fun _ => by kernel_rfl) ?_; clear hA ac; intro ac hA
     refine st_skip hA (by kernel_rfl) (by kernel_rfl) ?_; clear hA ac; intro ac hA
     refine st_skip hA (by kernel_rfl) (by kernel_rfl) ?_; clear hA ac; intro ac hA
     refine st_rd (v := Value.bool false) hA (by kernel_rfl) (by kernel_rfl) (by kernel_rfl) hW.cls (Rd.pure fun _ => by kernel_rfl) ?_; clear hA ac; intro ac hA
     refine st_rd (v := Value.bool false) hA (by kernel_rfl) (by kernel_rfl) (by kernel_rfl) hW.cls (Rd.pure fun _ => by kernel_rfl) ?_; clear hA ac; intro ac hA
     refine st_skip hA (by kernel_rfl) (by kernel_rfl) ?_; clear hA ac; intro ac hA
     refine st_skip hA (by kernel_rfl) (by kernel_rfl) ?_; clear hA ac; intro ac hA
     refine st_rd (v := Value.bool false) hA (by kernel_rfl) (by kernel_rfl) (by kernel_rfl) hW.cls (Rd.pure fun _ => by kernel_rfl) ?_; clear hA ac; intro ac hA
     refine st_rd (v := Value.bool false) hA (by kernel_rfl) (by kernel_rfl) (by kernel_rfl) hW.cls (Rd.pure fun _ => by kernel_rfl) ?_; clear hA ac; intro ac hA
     refine st_skip hA (by kernel_rfl) (by kernel_rfl) ?_; clear hA ac; intro ac hA
     refine st_skip hA (by kernel_rfl) (by kernel_rfl) ?_; clear hA ac; intro ac hA
     refine st_skip hA (by kernel_rfl) (by kernel_rfl) ?_; clear hA ac; intro ac hA
     refine st_skip hA (by kernel_rfl) (by kernel_rfl) ?_; clear hA ac; intro ac hA
     refine st_rd (v := Value.bool false) hA (by kernel_rfl) (by kernel_rfl) (by kernel_rfl) hW.cls (Rd.pure fun _ => by kernel_rfl) ?_; clear hA ac; intro ac hA
     refine st_rd (v := Value.bool false) hA (by kernel_rfl) (by kernel_rfl) (by kernel_rfl) hW.cls (Rd.pure fun _ => by kernel_rfl) ?_; clear hA ac; intro ac hA
     refine st_skip hA (by kernel_rfl) (by kernel_rfl) ?_; clear hA ac; intro ac hA
     refine st_skip hA (by kernel_rfl) (by kernel_rfl) ?_; clear hA ac; intro ac hA
     refine st_skip hA (by kernel_rfl) (by kernel_rfl) ?_; clear hA ac; intro ac hA
     refine st_skip hA (by kernel_rfl) (by kernel_rfl) ?_; clear hA ac; intro ac hA
     refine st_rd (v := Value.bool false) hA (by kernel_rfl) (by kernel_rfl) (by kernel_rfl) hW.cls (Rd.pure fun _ => by kernel_rfl) ?_; clear hA ac; intro ac hA
     refine st_rd (v := Value.bool false) hA (by kernel_rfl) (by kernel_rfl) (by kernel_rfl) hW.cls (Rd.pure fun _ => by kernel_rfl) ?_; clear hA ac; intro ac hA
     refine wpList_nil ?_
     refine thenN ?_
     refine wp_ret ?_
     refine ret1 (v := Value.bool false) (by rfl) hA (Got.tmp hA (by kernel_rfl) (by kernel_rfl)) ?_
     clear hA
     exact ⟨retv (by first | rfl | exact congrArg Value.bool (decide_eq_true qk)), hW.fr⟩)

end Go.Proofs.Ytobbocpacacnhaa.L
