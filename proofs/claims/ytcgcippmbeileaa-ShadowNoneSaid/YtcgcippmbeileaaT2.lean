/- Contracts, walked by program over the engine's laws. -/
import Derived.Test.YtcgcippmbeileaaProg
import Derived.Test.YtcgcippmbeileaaT1
namespace Go.Proofs.Ytcgcippmbeileaa.L
open Go.RowKit

set_option maxRecDepth 100000 in
theorem e_sift (A_l : Option Addr) (n_l c_l : Nat) (l : List Int) (lo : Nat) (hi : Nat) (first : Nat) (w : World) (ho_l : (srtR A_l n_l c_l l).p w) (hl_l : ∀ x_ ∈ (srtR A_l n_l c_l l).fp, x_ < w.heap.size) (hb : first + hi ≤ l.length ∧ lo ≤ hi) (hsz : l.length ≤ 1000000) : Calls Try.prog 68 #[Value.slice A_l n_l c_l, Value.int .i64 ((lo : Nat) : Int), Value.int .i64 ((hi : Nat) : Int), Value.int .i64 ((first : Nat) : Int)] w (fun e w' => ∃ l' : List Int, e = .returned (Value.tuple #[]) ∧ (l'.toArray = Sort.siftDown Sort.ltInt hi first lo l.toArray) ∧ (l'.length = l.length) ∧ Upd (srtR A_l n_l c_l l) (srtR A_l n_l c_l l') w w') := by
 have _hu := ho_l; have _hv := hl_l; clear _hu _hv
 have _hu := hb; clear _hu
 have _hu := hsz; clear _hu
 refine enter_E 76 Try.func68 rfl rfl (by kernel_rfl) (L := [(0, Value.slice A_l n_l c_l), (1, Value.int .i64 ((lo : Nat) : Int)), (2, Value.int .i64 ((hi : Nat) : Int)), (3, Value.int .i64 ((first : Nat) : Int))]) (by kernel_rfl) ?_
 intro ac hA
 have hW : Ws w (· ∈ (srtR A_l n_l c_l l).fp) [rowR 35 1 enU4 (Value.slice A_l n_l c_l) l] [] w := objW ho_l hl_l
 clear ho_l hl_l
 have hn_l : n_l = l.length := rowR_n (hW.get 0 rfl)
 refine wp_seq ?_
 refine wp_region_lit ?_
 refine st_p (Value.int .i64 ((lo : Nat) : Int)) hA ?_; clear hA ac; intro ac hA
 refine st_p (Value.int .i64 ((lo : Nat) : Int)) hA ?_; clear hA ac; intro ac hA
 refine wpList_nil ?_
 refine thenN ?_
 refine wp_block ?_
 refine wp_loop_m (fun m_ ac_ wl_ => ∃ r : Nat, ∃ d : List Int, m_ = hi - r ∧ (r ≤ hi) ∧ (Sort.siftDown Sort.ltInt hi first r d.toArray = Sort.siftDown Sort.ltInt hi first lo l.toArray) ∧ (d.length = l.length) ∧ Fm 76 [] [(0, Value.slice A_l n_l c_l), (2, Value.int .i64 ((hi : Nat) : Int)), (3, Value.int .i64 ((first : Nat) : Int)), (8, Value.int .i64 ((r : Nat) : Int))] ac_ ∧ Ws w (· ∈ (srtR A_l n_l c_l l).fp) [rowR 35 1 enU4 (Value.slice A_l n_l c_l) d] [] wl_) _ ⟨lo, l, rfl, by omega, by rfl, by rfl, hA.sub ⟨⟨by kernel_rfl, by kernel_rfl⟩, ⟨by kernel_rfl, by kernel_rfl⟩, ⟨by kernel_rfl, by kernel_rfl⟩, ⟨by kernel_rfl, by kernel_rfl⟩, trivial⟩, (hW.pick [0] (by decide) rfl).pickG [] rfl⟩ ?_
 clear hA ac hW; rintro m_ ac w1 ⟨r, d, rfl, hr, hs, hl, hA, hW⟩
 refine wp_block ?_
 refine wp_seq ?_
 refine wp_region_lit ?_
 refine st_p (Value.int .i64 ((r : Nat) : Int)) hA ?_; clear hA ac; intro ac hA
 refine st_q (Value.int .i64 ((2 * r : Nat) : Int)) hA hW.cls (Rd.pureE (v0 := Value.int .i64 (IntKind.i64.wrap ((2 : Int) * ((r : Nat) : Int)))) (fun _ => by kernel_rfl) (congrArg (Value.int .i64) ((w_i64 (x := (2 : Int) * ((r : Nat) : Int)) (by omega) (by omega)).trans (by omega)))) ?_; clear hA ac; intro ac hA
 refine st_q (Value.int .i64 (((2 * r) + 1 : Nat) : Int)) hA hW.cls (Rd.pureE (v0 := Value.int .i64 (IntKind.i64.wrap ((((2 * r : Nat) : Int) : Int) + 1))) (fun _ => by kernel_rfl) (congrArg (Value.int .i64) ((w_i64 (x := (((2 * r : Nat) : Int) : Int) + 1) (by omega) (by omega)).trans (by omega)))) ?_; clear hA ac; intro ac hA
 refine st_p (Value.int .i64 (((2 * r) + 1 : Nat) : Int)) hA ?_; clear hA ac; intro ac hA
 refine wpList_nil ?_
 refine thenN ?_
 refine wp_seq ?_
 refine wp_seq ?_
 refine wp_region_lit ?_
 refine st_p (Value.int .i64 (((2 * r) + 1 : Nat) : Int)) hA ?_; clear hA ac; intro ac hA
 refine st_p (Value.int .i64 ((hi : Nat) : Int)) hA ?_; clear hA ac; intro ac hA
 refine st_p (Value.bool (decide (((((2 * r) + 1 : Nat) : Int) : Int) ≥ (((hi : Nat) : Int) : Int)))) hA ?_; clear hA ac; intro ac hA
 refine wpList_nil ?_
 refine thenN ?_
 refine wp_cond_split (t := decide (((((2 * r) + 1 : Nat) : Int) : Int) ≥ (((hi : Nat) : Int) : Int))) (hA.eval (by kernel_rfl)) (fun h2 => ?_) (fun h2 => ?_)
 · skip
   have h2 := of_decide_eq_true h2
   first
   | (exfalso; clear hA hW; omega)
   | (
     refine wp_exit ?_
     refine thenX ?_
     refine blkY (by kernel_rfl) ?_
     refine thenX ?_
     refine blkX ?_
     refine ret0 (.inr rfl) rfl hA ?_
     clear hA
     exact ⟨d, rfl, by rw [← hs, sift_end (by omega)], by exact hl, (hW.pick [0] (by decide) rfl).updDone 0 rfl⟩)
 · skip
   have h2 := of_decide_eq_false h2
   first
   | (exfalso; clear hA hW; omega)
   | (
     refine wp_skip ?_
     refine thenN ?_
     refine wp_seq ?_
     refine wp_seq ?_
     refine q_region (by kernel_rfl) (by kernel_rfl) hW ?_
     refine sq_p (Value.int .i64 (((2 * r) + 1 : Nat) : Int)) hA ?_; clear hA ac; intro ac hA
     refine sq_q (Value.int .i64 ((((2 * r) + 1) + 1 : Nat) : Int)) hA (Rd.pureE (v0 := Value.int .i64 (IntKind.i64.wrap (((((2 * r) + 1 : Nat) : Int) : Int) + 1))) (fun _ => by kernel_rfl) (congrArg (Value.int .i64) ((w_i64 (x := ((((2 * r) + 1 : Nat) : Int) : Int) + 1) (by omega) (by omega)).trans (by omega)))) ?_; clear hA ac; intro ac hA
     refine sq_p (Value.int .i64 ((hi : Nat) : Int)) hA ?_; clear hA ac; intro ac hA
     refine sq_p (Value.bool (decide ((((((2 * r) + 1) + 1 : Nat) : Int) : Int) < (((hi : Nat) : Int) : Int)))) hA ?_; clear hA ac; intro ac hA
     refine sq_p (Value.bool (decide ((((((2 * r) + 1) + 1 : Nat) : Int) : Int) < (((hi : Nat) : Int) : Int)))) hA ?_; clear hA ac; intro ac hA
     rcases Bool.eq_false_or_eq_true (decide ((((((2 * r) + 1) + 1 : Nat) : Int) : Int) < (((hi : Nat) : Int) : Int))) with h3 | h3
     · skip
       rw [h3] at hA
       have h3 := of_decide_eq_true h3
       first
       | (exfalso; clear hA hW; omega)
       | (
         refine sq_p (Value.slice A_l n_l c_l) hA ?_; clear hA ac; intro ac hA
         refine sq_p (Value.int .i64 ((first : Nat) : Int)) hA ?_; clear hA ac; intro ac hA
         refine sq_p (Value.int .i64 (((2 * r) + 1 : Nat) : Int)) hA ?_; clear hA ac; intro ac hA
         refine sq_q (Value.int .i64 ((first + ((2 * r) + 1) : Nat) : Int)) hA (Rd.pureE (v0 := Value.int .i64 (IntKind.i64.wrap ((((first : Nat) : Int) : Int) + (((2 * r) + 1 : Nat) : Int)))) (fun _ => by kernel_rfl) (congrArg (Value.int .i64) ((w_i64 (x := (((first : Nat) : Int) : Int) + (((2 * r) + 1 : Nat) : Int)) (by omega) (by omega)).trans (by omega)))) ?_; clear hA ac; intro ac hA
         obtain ⟨y4, hy4⟩ : ∃ y, d[first + ((2 * r) + 1)]? = some y := ⟨_, List.getElem?_eq_getElem (by first | omega | (simp; done) | (simp; omega))⟩
         obtain ⟨b5, o6, rfl, hbb5⟩ := row_some (rowR_at ((hW).get 0 rfl) elt_U4.len) hy4
         refine sq_q (Value.pointer (some ⟨b5, o6 + (first + ((2 * r) + 1)) * 1, none⟩)) hA (Rd.indexAddr (e := 35) (sz := 1) (b := b5) (off := o6) (n := n_l) (c := c_l) (k := first + ((2 * r) + 1)) (by kernel_rfl) (by kernel_rfl) (by first | omega | (simp; done) | (simp; omega)) (fun _ => by kernel_rfl) (fun _ => by kernel_rfl)) ?_; clear hA ac; intro ac hA
         refine sq_q (Value.int .u32 y4) hA (Rd.loadRow (b := b5) (i := o6 + (first + ((2 * r) + 1)) * 1) (xs := [Value.int .u32 y4]) (by kernel_rfl) (fun _ hw => row_ld (rowR_at ((hw.1).get 0 rfl) elt_U4.len) hy4 (Fr.refl No _) (fun h => h) 0 1 (by kernel_rfl)) (by kernel_rfl)) ?_; clear hA ac; intro ac hA
         refine sq_p (Value.slice (some ⟨b5, o6, none⟩) n_l c_l) hA ?_; clear hA ac; intro ac hA
         refine sq_p (Value.int .i64 ((first : Nat) : Int)) hA ?_; clear hA ac; intro ac hA
         refine sq_p (Value.int .i64 (((2 * r) + 1 : Nat) : Int)) hA ?_; clear hA ac; intro ac hA
         refine sq_q (Value.int .i64 ((first + ((2 * r) + 1) : Nat) : Int)) hA (Rd.pureE (v0 := Value.int .i64 (IntKind.i64.wrap ((((first : Nat) : Int) : Int) + (((2 * r) + 1 : Nat) : Int)))) (fun _ => by kernel_rfl) (congrArg (Value.int .i64) ((w_i64 (x := (((first : Nat) : Int) : Int) + (((2 * r) + 1 : Nat) : Int)) (by omega) (by omega)).trans (by omega)))) ?_; clear hA ac; intro ac hA
         refine sq_q (Value.int .i64 (((first + ((2 * r) + 1)) + 1 : Nat) : Int)) hA (Rd.pureE (v0 := Value.int .i64 (IntKind.i64.wrap ((((first + ((2 * r) + 1) : Nat) : Int) : Int) + 1))) (fun _ => by kernel_rfl) (congrArg (Value.int .i64) ((w_i64 (x := (((first + ((2 * r) + 1) : Nat) : Int) : Int) + 1) (by omega) (by omega)).trans (by omega)))) ?_; clear hA ac; intro ac hA
         obtain ⟨y7, hy7⟩ : ∃ y, d[(first + ((2 * r) + 1)) + 1]? = some y := ⟨_, List.getElem?_eq_getElem (by first | omega | (simp; done) | (simp; omega))⟩
         refine sq_q (Value.pointer (some ⟨b5, o6 + ((first + ((2 * r) + 1)) + 1) * 1, none⟩)) hA (Rd.indexAddr (e := 35) (sz := 1) (b := b5) (off := o6) (n := n_l) (c := c_l) (k := (first + ((2 * r) + 1)) + 1) (by kernel_rfl) (by kernel_rfl) (by first | omega | (simp; done) | (simp; omega)) (fun _ => by kernel_rfl) (fun _ => by kernel_rfl)) ?_; clear hA ac; intro ac hA
         refine sq_q (Value.int .u32 y7) hA (Rd.loadRow (b := b5) (i := o6 + ((first + ((2 * r) + 1)) + 1) * 1) (xs := [Value.int .u32 y7]) (by kernel_rfl) (fun _ hw => row_ld (rowR_at ((hw.1).get 0 rfl) elt_U4.len) hy7 (Fr.refl No _) (fun h => h) 0 1 (by kernel_rfl)) (by kernel_rfl)) ?_; clear hA ac; intro ac hA
         refine sq_call (v := Value.bool (decide ((y4) < (y7)))) hA (by kernel_rfl) (by kernel_rfl) (by kernel_rfl) (fun _ => by kernel_rfl) (Cls.callNC fun wx hwx => e_less (y4) (y7) wx) ?_; clear hA ac; intro ac hA
         refine sq_p (Value.bool (decide ((y4) < (y7)))) hA ?_; clear hA ac; intro ac hA
         refine sq_nil ?_; intro w8 hww8; have hW := hww8.1; have hfw8 := hww8.2; clear hww8
         refine thenN ?_
         refine wp_cond_split (t := decide ((y4) < (y7))) (hA.eval (by kernel_rfl)) (fun h9 => ?_) (fun h9 => ?_)
         · skip
           have h9 := of_decide_eq_true h9
           first
           | (exfalso; clear hA hW; omega)
           | (
             refine wp_region_lit ?_
             refine st_p (Value.int .i64 (((2 * r) + 1 : Nat) : Int)) hA ?_; clear hA ac; intro ac hA
             refine st_q (Value.int .i64 ((((2 * r) + 1) + 1 : Nat) : Int)) hA hW.cls (Rd.pureE (v0 := Value.int .i64 (IntKind.i64.wrap (((((2 * r) + 1 : Nat) : Int) : Int) + 1))) (fun _ => by kernel_rfl) (congrArg (Value.int .i64) ((w_i64 (x := ((((2 * r) + 1 : Nat) : Int) : Int) + 1) (by omega) (by omega)).trans (by omega)))) ?_; clear hA ac; intro ac hA
             refine st_p (Value.int .i64 ((((2 * r) + 1) + 1 : Nat) : Int)) hA ?_; clear hA ac; intro ac hA
             refine wpList_nil ?_
             refine thenN ?_
             refine wp_seq ?_
             refine wp_seq ?_
             refine q_region (by kernel_rfl) (by kernel_rfl) hW ?_
             refine sq_p (Value.slice (some ⟨b5, o6, none⟩) n_l c_l) hA ?_; clear hA ac; intro ac hA
             refine sq_p (Value.int .i64 ((first : Nat) : Int)) hA ?_; clear hA ac; intro ac hA
             refine sq_p (Value.int .i64 ((r : Nat) : Int)) hA ?_; clear hA ac; intro ac hA
             refine sq_q (Value.int .i64 ((first + r : Nat) : Int)) hA (Rd.pureE (v0 := Value.int .i64 (IntKind.i64.wrap ((((first : Nat) : Int) : Int) + ((r : Nat) : Int)))) (fun _ => by kernel_rfl) (congrArg (Value.int .i64) ((w_i64 (x := (((first : Nat) : Int) : Int) + ((r : Nat) : Int)) (by omega) (by omega)).trans (by omega)))) ?_; clear hA ac; intro ac hA
             obtain ⟨y10, hy10⟩ : ∃ y, d[first + r]? = some y := ⟨_, List.getElem?_eq_getElem (by first | omega | (simp; done) | (simp; omega))⟩
             refine sq_q (Value.pointer (some ⟨b5, o6 + (first + r) * 1, none⟩)) hA (Rd.indexAddr (e := 35) (sz := 1) (b := b5) (off := o6) (n := n_l) (c := c_l) (k := first + r) (by kernel_rfl) (by kernel_rfl) (by first | omega | (simp; done) | (simp; omega)) (fun _ => by kernel_rfl) (fun _ => by kernel_rfl)) ?_; clear hA ac; intro ac hA
             refine sq_q (Value.int .u32 y10) hA (Rd.loadRow (b := b5) (i := o6 + (first + r) * 1) (xs := [Value.int .u32 y10]) (by kernel_rfl) (fun _ hw => row_ld (rowR_at ((hw.1).get 0 rfl) elt_U4.len) hy10 (Fr.refl No _) (fun h => h) 0 1 (by kernel_rfl)) (by kernel_rfl)) ?_; clear hA ac; intro ac hA
             refine sq_p (Value.slice (some ⟨b5, o6, none⟩) n_l c_l) hA ?_; clear hA ac; intro ac hA
             refine sq_p (Value.int .i64 ((first : Nat) : Int)) hA ?_; clear hA ac; intro ac hA
             refine sq_p (Value.int .i64 ((((2 * r) + 1) + 1 : Nat) : Int)) hA ?_; clear hA ac; intro ac hA
             refine sq_q (Value.int .i64 ((first + (((2 * r) + 1) + 1) : Nat) : Int)) hA (Rd.pureE (v0 := Value.int .i64 (IntKind.i64.wrap ((((first : Nat) : Int) : Int) + ((((2 * r) + 1) + 1 : Nat) : Int)))) (fun _ => by kernel_rfl) (congrArg (Value.int .i64) ((w_i64 (x := (((first : Nat) : Int) : Int) + ((((2 * r) + 1) + 1 : Nat) : Int)) (by omega) (by omega)).trans (by omega)))) ?_; clear hA ac; intro ac hA
             refine sq_q (Value.pointer (some ⟨b5, o6 + (first + (((2 * r) + 1) + 1)) * 1, none⟩)) hA (Rd.indexAddr (e := 35) (sz := 1) (b := b5) (off := o6) (n := n_l) (c := c_l) (k := first + (((2 * r) + 1) + 1)) (by kernel_rfl) (by kernel_rfl) (by first | omega | (simp; done) | (simp; omega)) (fun _ => by kernel_rfl) (fun _ => by kernel_rfl)) ?_; clear hA ac; intro ac hA
             refine sq_q (Value.int .u32 y7) hA (Rd.loadRow (b := b5) (i := o6 + (first + (((2 * r) + 1) + 1)) * 1) (xs := [Value.int .u32 y7]) (by kernel_rfl) (fun _ hw => row_ld (rowR_at ((hw.1).get 0 rfl) elt_U4.len) hy7 (Fr.refl No _) (fun h => h) 0 1 (by kernel_rfl)) (by kernel_rfl)) ?_; clear hA ac; intro ac hA
             refine sq_call (v := Value.bool (decide ((y10) < (y7)))) hA (by kernel_rfl) (by kernel_rfl) (by kernel_rfl) (fun _ => by kernel_rfl) (Cls.callNC fun wx hwx => e_less (y10) (y7) wx) ?_; clear hA ac; intro ac hA
             refine sq_p (Value.bool (!(decide ((y10) < (y7))))) hA ?_; clear hA ac; intro ac hA
             refine sq_nil ?_; intro w11 hww11; have hW := hww11.1; have hfw11 := hww11.2; clear hww11
             refine thenN ?_
             refine wp_cond_split (t := !(decide ((y10) < (y7)))) (hA.eval (by kernel_rfl)) (fun h12 => ?_) (fun h12 => ?_)
             · skip
               have h12 := not_t h12
               have h12 := of_decide_eq_false h12
               first
               | (exfalso; clear hA hW; omega)
               | (
                 refine wp_ret ?_
                 refine thenR ?_
                 refine blkR ?_
                 refine thenR ?_
                 refine blkR ?_
                 refine ret0 (.inl rfl) rfl hA ?_
                 clear hA
                 exact ⟨d, rfl, by rw [← hs, sift_r_end (by omega) hy4 hy7 (by omega) hy10 (by omega)], by exact hl, (hW.pick [0] (by decide) rfl).updDone 0 rfl⟩)
             · skip
               have h12 := not_f h12
               have h12 := of_decide_eq_true h12
               first
               | (exfalso; clear hA hW; omega)
               | (
                 refine wp_skip ?_
                 refine thenN ?_
                 refine wp_seq ?_
                 refine wp_cut (fun ac_ wl_ => Fm 76 [] [(0, Value.slice (some ⟨b5, o6, none⟩) n_l c_l), (2, Value.int .i64 ((hi : Nat) : Int)), (3, Value.int .i64 ((first : Nat) : Int)), (8, Value.int .i64 ((r : Nat) : Int)), (9, Value.int .i64 ((((2 * r) + 1) + 1 : Nat) : Int)), (11, Value.int .i64 ((r : Nat) : Int)), (12, Value.int .i64 ((2 * r : Nat) : Int)), (13, Value.int .i64 (((2 * r) + 1 : Nat) : Int)), (14, Value.int .i64 (((2 * r) + 1 : Nat) : Int)), (15, Value.int .i64 ((hi : Nat) : Int)), (16, Value.bool (decide (((((2 * r) + 1 : Nat) : Int) : Int) ≥ (((hi : Nat) : Int) : Int)))), (17, Value.int .i64 (((2 * r) + 1 : Nat) : Int)), (18, Value.int .i64 ((((2 * r) + 1) + 1 : Nat) : Int)), (19, Value.int .i64 ((hi : Nat) : Int)), (20, Value.bool true), (21, Value.bool true), (22, Value.slice (some ⟨b5, o6, none⟩) n_l c_l), (23, Value.int .i64 ((first : Nat) : Int)), (24, Value.int .i64 (((2 * r) + 1 : Nat) : Int)), (25, Value.int .i64 ((first + ((2 * r) + 1) : Nat) : Int)), (26, Value.pointer (some ⟨b5, o6 + (first + ((2 * r) + 1)) * 1, none⟩)), (27, Value.int .u32 y4), (28, Value.slice (some ⟨b5, o6, none⟩) n_l c_l), (29, Value.int .i64 ((first : Nat) : Int)), (30, Value.int .i64 (((2 * r) + 1 : Nat) : Int)), (31, Value.int .i64 ((first + ((2 * r) + 1) : Nat) : Int)), (32, Value.int .i64 (((first + ((2 * r) + 1)) + 1 : Nat) : Int)), (33, Value.pointer (some ⟨b5, o6 + ((first + ((2 * r) + 1)) + 1) * 1, none⟩)), (34, Value.int .u32 y7), (35, Value.bool (decide ((y4) < (y7)))), (36, Value.bool (decide ((y4) < (y7)))), (37, Value.int .i64 (((2 * r) + 1 : Nat) : Int)), (38, Value.int .i64 ((((2 * r) + 1) + 1 : Nat) : Int)), (39, Value.slice (some ⟨b5, o6, none⟩) n_l c_l), (40, Value.int .i64 ((first : Nat) : Int)), (41, Value.int .i64 ((r : Nat) : Int)), (42, Value.int .i64 ((first + r : Nat) : Int)), (43, Value.pointer (some ⟨b5, o6 + (first + r) * 1, none⟩)), (44, Value.int .u32 y10), (45, Value.slice (some ⟨b5, o6, none⟩) n_l c_l), (46, Value.int .i64 ((first : Nat) : Int)), (47, Value.int .i64 ((((2 * r) + 1) + 1 : Nat) : Int)), (48, Value.int .i64 ((first + (((2 * r) + 1) + 1) : Nat) : Int)), (49, Value.pointer (some ⟨b5, o6 + (first + (((2 * r) + 1) + 1)) * 1, none⟩)), (50, Value.int .u32 y7), (51, Value.bool (decide ((y10) < (y7)))), (52, Value.bool (!(decide ((y10) < (y7)))))] ac_ ∧ Ws w (· ∈ (srtR (some ⟨b5, o6, none⟩) n_l c_l l).fp) [rowR 35 1 enU4 (Value.slice (some ⟨b5, o6, none⟩) n_l c_l) (List.set (List.set d (first + r) (y7 : Int)) (first + (((2 * r) + 1) + 1)) (y10 : Int))] [] wl_) ?_ ?_
                 · refine sr_region (m := 24) (C := Ws w (· ∈ (srtR (some ⟨b5, o6, none⟩) n_l c_l l).fp) [rowR 35 1 enU4 (Value.slice (some ⟨b5, o6, none⟩) n_l c_l) d] []) (fun i => [13, 19].contains i) (fun i => [13, 19].contains i) (fun i => [0, 1, 2, 3, 4, 5, 6, 7, 8, 9, 10, 11, 12, 14, 15, 16, 17, 18, 20, 22].contains i) (by kernel_rfl) (by kernel_rfl) (by kernel_rfl) (by kernel_rfl) hW ?_; clear hW; intro w13 hW hfw13 hR; have hC : Ws w (· ∈ (srtR (some ⟨b5, o6, none⟩) n_l c_l l).fp) [rowR 35 1 enU4 (Value.slice (some ⟨b5, o6, none⟩) n_l c_l) d] [] w13 := hW.pick [0] (by decide) rfl
                   refine sr_p 0 (Value.slice (some ⟨b5, o6, none⟩) n_l c_l) hR rfl hA ?_; clear hA ac; intro ac hA
                   refine sr_p 1 (Value.int .i64 ((first : Nat) : Int)) hR rfl hA ?_; clear hA ac; intro ac hA
                   refine sr_p 2 (Value.int .i64 ((r : Nat) : Int)) hR rfl hA ?_; clear hA ac; intro ac hA
                   refine sr_q 3 (Value.int .i64 ((first + r : Nat) : Int)) hR rfl hA (Rd.pureE (v0 := Value.int .i64 (IntKind.i64.wrap ((((first : Nat) : Int) : Int) + ((r : Nat) : Int)))) (fun _ => by kernel_rfl) (congrArg (Value.int .i64) ((w_i64 (x := (((first : Nat) : Int) : Int) + ((r : Nat) : Int)) (by omega) (by omega)).trans (by omega)))) ?_; clear hA ac; intro ac hA
                   refine sr_p 4 (Value.slice (some ⟨b5, o6, none⟩) n_l c_l) hR rfl hA ?_; clear hA ac; intro ac hA
                   refine sr_p 5 (Value.int .i64 ((first : Nat) : Int)) hR rfl hA ?_; clear hA ac; intro ac hA
                   refine sr_p 6 (Value.int .i64 ((((2 * r) + 1) + 1 : Nat) : Int)) hR rfl hA ?_; clear hA ac; intro ac hA
                   refine sr_q 7 (Value.int .i64 ((first + (((2 * r) + 1) + 1) : Nat) : Int)) hR rfl hA (Rd.pureE (v0 := Value.int .i64 (IntKind.i64.wrap ((((first : Nat) : Int) : Int) + ((((2 * r) + 1) + 1 : Nat) : Int)))) (fun _ => by kernel_rfl) (congrArg (Value.int .i64) ((w_i64 (x := (((first : Nat) : Int) : Int) + ((((2 * r) + 1) + 1 : Nat) : Int)) (by omega) (by omega)).trans (by omega)))) ?_; clear hA ac; intro ac hA
                   refine sr_p 8 (Value.slice (some ⟨b5, o6, none⟩) n_l c_l) hR rfl hA ?_; clear hA ac; intro ac hA
                   refine sr_p 9 (Value.int .i64 ((first : Nat) : Int)) hR rfl hA ?_; clear hA ac; intro ac hA
                   refine sr_p 10 (Value.int .i64 ((((2 * r) + 1) + 1 : Nat) : Int)) hR rfl hA ?_; clear hA ac; intro ac hA
                   refine sr_q 11 (Value.int .i64 ((first + (((2 * r) + 1) + 1) : Nat) : Int)) hR rfl hA (Rd.pureE (v0 := Value.int .i64 (IntKind.i64.wrap ((((first : Nat) : Int) : Int) + ((((2 * r) + 1) + 1 : Nat) : Int)))) (fun _ => by kernel_rfl) (congrArg (Value.int .i64) ((w_i64 (x := (((first : Nat) : Int) : Int) + ((((2 * r) + 1) + 1 : Nat) : Int)) (by omega) (by omega)).trans (by omega)))) ?_; clear hA ac; intro ac hA
                   refine sr_q 12 (Value.pointer (some ⟨b5, o6 + (first + (((2 * r) + 1) + 1)) * 1, none⟩)) hR rfl hA (Rd.indexAddr (e := 35) (sz := 1) (b := b5) (off := o6) (n := n_l) (c := c_l) (k := first + (((2 * r) + 1) + 1)) (by kernel_rfl) (by kernel_rfl) (by first | omega | (simp; done) | (simp; omega)) (fun _ => by kernel_rfl) (fun _ => by kernel_rfl)) ?_; clear hA ac; intro ac hA
                   refine sr_t 13 (Value.int .u32 y7) hR rfl hA hC (Rd.loadRow (b := b5) (i := o6 + (first + (((2 * r) + 1) + 1)) * 1) (xs := [Value.int .u32 y7]) (by kernel_rfl) (fun _ hw => row_ld (rowR_at ((hw).get 0 rfl) elt_U4.len) hy7 (Fr.refl No _) (fun h => h) 0 1 (by kernel_rfl)) (by kernel_rfl)) ?_; clear hA ac; intro ac hA
                   refine sr_p 14 (Value.slice (some ⟨b5, o6, none⟩) n_l c_l) hR rfl hA ?_; clear hA ac; intro ac hA
                   refine sr_p 15 (Value.int .i64 ((first : Nat) : Int)) hR rfl hA ?_; clear hA ac; intro ac hA
                   refine sr_p 16 (Value.int .i64 ((r : Nat) : Int)) hR rfl hA ?_; clear hA ac; intro ac hA
                   refine sr_q 17 (Value.int .i64 ((first + r : Nat) : Int)) hR rfl hA (Rd.pureE (v0 := Value.int .i64 (IntKind.i64.wrap ((((first : Nat) : Int) : Int) + ((r : Nat) : Int)))) (fun _ => by kernel_rfl) (congrArg (Value.int .i64) ((w_i64 (x := (((first : Nat) : Int) : Int) + ((r : Nat) : Int)) (by omega) (by omega)).trans (by omega)))) ?_; clear hA ac; intro ac hA
                   refine sr_q 18 (Value.pointer (some ⟨b5, o6 + (first + r) * 1, none⟩)) hR rfl hA (Rd.indexAddr (e := 35) (sz := 1) (b := b5) (off := o6) (n := n_l) (c := c_l) (k := first + r) (by kernel_rfl) (by kernel_rfl) (by first | omega | (simp; done) | (simp; omega)) (fun _ => by kernel_rfl) (fun _ => by kernel_rfl)) ?_; clear hA ac; intro ac hA
                   refine sr_t 19 (Value.int .u32 y10) hR rfl hA hC (Rd.loadRow (b := b5) (i := o6 + (first + r) * 1) (xs := [Value.int .u32 y10]) (by kernel_rfl) (fun _ hw => row_ld (rowR_at ((hw).get 0 rfl) elt_U4.len) hy10 (Fr.refl No _) (fun h => h) 0 1 (by kernel_rfl)) (by kernel_rfl)) ?_; clear hA ac; intro ac hA
                   refine sr_q 20 (Value.pointer (some ⟨b5, o6 + (first + r) * 1, none⟩)) hR rfl hA (Rd.indexAddr (e := 35) (sz := 1) (b := b5) (off := o6) (n := n_l) (c := c_l) (k := first + r) (by kernel_rfl) (by kernel_rfl) (by first | omega | (simp; done) | (simp; omega)) (fun _ => by kernel_rfl) (fun _ => by kernel_rfl)) ?_; clear hA ac; intro ac hA
                   refine sr_one (i := 21) (by kernel_rfl) (sr_d rfl hA (Runs.storeRow (E := 35) (sz := 1) (en := enU4) (b := b5) (off := o6) (k := first + r) (n := n_l) (c := c_l) (v := Value.int .u32 y7) (y7 : Int) elt_U4 (by kernel_rfl) (by kernel_rfl) (by kernel_rfl) (by kernel_rfl) hW (i := 0) rfl (by first | omega | (simp; done) | (simp; omega)) (by first | rfl | omega | (simp; done) | (simp; omega)) ?_)); clear hA ac hW; intro w14 hW ac hA
                   refine ⟨⟨fun h => absurd h (by decide), fun h => absurd h (by decide)⟩, ?_⟩
                   obtain ⟨y15, hy15⟩ : ∃ y, (List.set d (first + r) (y7 : Int))[first + (((2 * r) + 1) + 1)]? = some y := ⟨_, List.getElem?_eq_getElem (by first | omega | (simp; done) | (simp; omega))⟩
                   refine sr_q 22 (Value.pointer (some ⟨b5, o6 + (first + (((2 * r) + 1) + 1)) * 1, none⟩)) hR rfl hA (Rd.indexAddr (e := 35) (sz := 1) (b := b5) (off := o6) (n := n_l) (c := c_l) (k := first + (((2 * r) + 1) + 1)) (by kernel_rfl) (by kernel_rfl) (by first | omega | (simp; done) | (simp; omega)) (fun _ => by kernel_rfl) (fun _ => by kernel_rfl)) ?_; clear hA ac; intro ac hA
                   refine sr_one (i := 23) (by kernel_rfl) (sr_d rfl hA (Runs.storeRow (E := 35) (sz := 1) (en := enU4) (b := b5) (off := o6) (k := first + (((2 * r) + 1) + 1)) (n := n_l) (c := c_l) (v := Value.int .u32 y10) (y10 : Int) elt_U4 (by kernel_rfl) (by kernel_rfl) (by kernel_rfl) (by kernel_rfl) hW (i := 0) rfl (by first | omega | (simp; done) | (simp; omega)) (by first | rfl | omega | (simp; done) | (simp; omega)) ?_)); clear hA ac hW; intro w16 hW ac hA
                   refine ⟨⟨fun h => absurd h (by decide), fun h => absurd h (by decide)⟩, ?_⟩
                   refine sr_done (by kernel_rfl) ?_ _
                   exact ⟨hA.sub ⟨⟨by kernel_rfl, by kernel_rfl⟩, ⟨by kernel_rfl, by kernel_rfl⟩, ⟨by kernel_rfl, by kernel_rfl⟩, ⟨by kernel_rfl, by kernel_rfl⟩, ⟨by kernel_rfl, by kernel_rfl⟩, ⟨by kernel_rfl, by kernel_rfl⟩, ⟨by kernel_rfl, by kernel_rfl⟩, ⟨by kernel_rfl, by kernel_rfl⟩, ⟨by kernel_rfl, by kernel_rfl⟩, ⟨by kernel_rfl, by kernel_rfl⟩, ⟨by kernel_rfl, by kernel_rfl⟩, ⟨by kernel_rfl, by kernel_rfl⟩, ⟨by kernel_rfl, by kernel_rfl⟩, ⟨by kernel_rfl, by kernel_rfl⟩, ⟨by kernel_rfl, by kernel_rfl⟩, ⟨by kernel_rfl, by kernel_rfl⟩, ⟨by kernel_rfl, by kernel_rfl⟩, ⟨by kernel_rfl, by kernel_rfl⟩, ⟨by kernel_rfl, by kernel_rfl⟩, ⟨by kernel_rfl, by kernel_rfl⟩, ⟨by kernel_rfl, by kernel_rfl⟩, ⟨by kernel_rfl, by kernel_rfl⟩, ⟨by kernel_rfl, by kernel_rfl⟩, ⟨by kernel_rfl, by kernel_rfl⟩, ⟨by kernel_rfl, by kernel_rfl⟩, ⟨by kernel_rfl, by kernel_rfl⟩, ⟨by kernel_rfl, by kernel_rfl⟩, ⟨by kernel_rfl, by kernel_rfl⟩, ⟨by kernel_rfl, by kernel_rfl⟩, ⟨by kernel_rfl, by kernel_rfl⟩, ⟨by kernel_rfl, by kernel_rfl⟩, ⟨by kernel_rfl, by kernel_rfl⟩, ⟨by kernel_rfl, by kernel_rfl⟩, ⟨by kernel_rfl, by kernel_rfl⟩, ⟨by kernel_rfl, by kernel_rfl⟩, ⟨by kernel_rfl, by kernel_rfl⟩, ⟨by kernel_rfl, by kernel_rfl⟩, ⟨by kernel_rfl, by kernel_rfl⟩, ⟨by kernel_rfl, by kernel_rfl⟩, ⟨by kernel_rfl, by kernel_rfl⟩, ⟨by kernel_rfl, by kernel_rfl⟩, ⟨by kernel_rfl, by kernel_rfl⟩, ⟨by kernel_rfl, by kernel_rfl⟩, ⟨by kernel_rfl, by kernel_rfl⟩, ⟨by kernel_rfl, by kernel_rfl⟩, ⟨by kernel_rfl, by kernel_rfl⟩, ⟨by kernel_rfl, by kernel_rfl⟩, trivial⟩, (hW.pick [0] (by decide) rfl).pickG [] rfl⟩
                 clear hA ac hW; rintro ac w17 ⟨hA, hW⟩
                 refine thenN ?_
                 refine wp_region_lit ?_
                 refine st_p (Value.int .i64 ((((2 * r) + 1) + 1 : Nat) : Int)) hA ?_; clear hA ac; intro ac hA
                 refine st_p (Value.int .i64 ((((2 * r) + 1) + 1 : Nat) : Int)) hA ?_; clear hA ac; intro ac hA
                 refine wpList_nil ?_
                 refine blkN ?_
                 refine thenN ?_
                 exact ⟨hi - (((2 * r) + 1) + 1), by omega, ((2 * r) + 1) + 1, List.set (List.set d (first + r) (y7 : Int)) (first + (((2 * r) + 1) + 1)) (y10 : Int), rfl, by omega, by rw [← hs]; exact (sift_r (by omega) hy4 hy7 (by omega) hy10 (by omega) (by first | exact hy7 | (rw [← show first + (2 * r + 1) + 1 = first + ((2 * r + 1) + 1) from rfl]; exact hy7))).symm, by rw [set2_len]; exact hl, hA.sub ⟨⟨by kernel_rfl, by kernel_rfl⟩, ⟨by kernel_rfl, by kernel_rfl⟩, ⟨by kernel_rfl, by kernel_rfl⟩, ⟨by kernel_rfl, by kernel_rfl⟩, trivial⟩, (hW.pick [0] (by decide) rfl).pickG [] rfl⟩))
         · skip
           have h9 := of_decide_eq_false h9
           first
           | (exfalso; clear hA hW; omega)
           | (
             refine wp_skip ?_
             refine thenN ?_
             refine wp_seq ?_
             refine wp_seq ?_
             refine q_region (by kernel_rfl) (by kernel_rfl) hW ?_
             refine sq_p (Value.slice (some ⟨b5, o6, none⟩) n_l c_l) hA ?_; clear hA ac; intro ac hA
             refine sq_p (Value.int .i64 ((first : Nat) : Int)) hA ?_; clear hA ac; intro ac hA
             refine sq_p (Value.int .i64 ((r : Nat) : Int)) hA ?_; clear hA ac; intro ac hA
             refine sq_q (Value.int .i64 ((first + r : Nat) : Int)) hA (Rd.pureE (v0 := Value.int .i64 (IntKind.i64.wrap ((((first : Nat) : Int) : Int) + ((r : Nat) : Int)))) (fun _ => by kernel_rfl) (congrArg (Value.int .i64) ((w_i64 (x := (((first : Nat) : Int) : Int) + ((r : Nat) : Int)) (by omega) (by omega)).trans (by omega)))) ?_; clear hA ac; intro ac hA
             obtain ⟨y18, hy18⟩ : ∃ y, d[first + r]? = some y := ⟨_, List.getElem?_eq_getElem (by first | omega | (simp; done) | (simp; omega))⟩
             refine sq_q (Value.pointer (some ⟨b5, o6 + (first + r) * 1, none⟩)) hA (Rd.indexAddr (e := 35) (sz := 1) (b := b5) (off := o6) (n := n_l) (c := c_l) (k := first + r) (by kernel_rfl) (by kernel_rfl) (by first | omega | (simp; done) | (simp; omega)) (fun _ => by kernel_rfl) (fun _ => by kernel_rfl)) ?_; clear hA ac; intro ac hA
             refine sq_q (Value.int .u32 y18) hA (Rd.loadRow (b := b5) (i := o6 + (first + r) * 1) (xs := [Value.int .u32 y18]) (by kernel_rfl) (fun _ hw => row_ld (rowR_at ((hw.1).get 0 rfl) elt_U4.len) hy18 (Fr.refl No _) (fun h => h) 0 1 (by kernel_rfl)) (by kernel_rfl)) ?_; clear hA ac; intro ac hA
             refine sq_p (Value.slice (some ⟨b5, o6, none⟩) n_l c_l) hA ?_; clear hA ac; intro ac hA
             refine sq_p (Value.int .i64 ((first : Nat) : Int)) hA ?_; clear hA ac; intro ac hA
             refine sq_p (Value.int .i64 (((2 * r) + 1 : Nat) : Int)) hA ?_; clear hA ac; intro ac hA
             refine sq_q (Value.int .i64 ((first + ((2 * r) + 1) : Nat) : Int)) hA (Rd.pureE (v0 := Value.int .i64 (IntKind.i64.wrap ((((first : Nat) : Int) : Int) + (((2 * r) + 1 : Nat) : Int)))) (fun _ => by kernel_rfl) (congrArg (Value.int .i64) ((w_i64 (x := (((first : Nat) : Int) : Int) + (((2 * r) + 1 : Nat) : Int)) (by omega) (by omega)).trans (by omega)))) ?_; clear hA ac; intro ac hA
             refine sq_q (Value.pointer (some ⟨b5, o6 + (first + ((2 * r) + 1)) * 1, none⟩)) hA (Rd.indexAddr (e := 35) (sz := 1) (b := b5) (off := o6) (n := n_l) (c := c_l) (k := first + ((2 * r) + 1)) (by kernel_rfl) (by kernel_rfl) (by first | omega | (simp; done) | (simp; omega)) (fun _ => by kernel_rfl) (fun _ => by kernel_rfl)) ?_; clear hA ac; intro ac hA
             refine sq_q (Value.int .u32 y4) hA (Rd.loadRow (b := b5) (i := o6 + (first + ((2 * r) + 1)) * 1) (xs := [Value.int .u32 y4]) (by kernel_rfl) (fun _ hw => row_ld (rowR_at ((hw.1).get 0 rfl) elt_U4.len) hy4 (Fr.refl No _) (fun h => h) 0 1 (by kernel_rfl)) (by kernel_rfl)) ?_; clear hA ac; intro ac hA
             refine sq_call (v := Value.bool (decide ((y18) < (y4)))) hA (by kernel_rfl) (by kernel_rfl) (by kernel_rfl) (fun _ => by kernel_rfl) (Cls.callNC fun wx hwx => e_less (y18) (y4) wx) ?_; clear hA ac; intro ac hA
             refine sq_p (Value.bool (!(decide ((y18) < (y4))))) hA ?_; clear hA ac; intro ac hA
             refine sq_nil ?_; intro w19 hww19; have hW := hww19.1; have hfw19 := hww19.2; clear hww19
             refine thenN ?_
             refine wp_cond_split (t := !(decide ((y18) < (y4)))) (hA.eval (by kernel_rfl)) (fun h20 => ?_) (fun h20 => ?_)
             · skip
               have h20 := not_t h20
               have h20 := of_decide_eq_false h20
               first
               | (exfalso; clear hA hW; omega)
               | (
                 refine wp_ret ?_
                 refine thenR ?_
                 refine blkR ?_
                 refine thenR ?_
                 refine blkR ?_
                 refine ret0 (.inl rfl) rfl hA ?_
                 clear hA
                 exact ⟨d, rfl, by rw [← hs, sift_l_end (by omega) hy4 (.inr ⟨_, hy7, by omega⟩) hy18 (by omega)], by exact hl, (hW.pick [0] (by decide) rfl).updDone 0 rfl⟩)
             · skip
               have h20 := not_f h20
               have h20 := of_decide_eq_true h20
               first
               | (exfalso; clear hA hW; omega)
               | (
                 refine wp_skip ?_
                 refine thenN ?_
                 refine wp_seq ?_
                 refine wp_cut (fun ac_ wl_ => Fm 76 [] [(0, Value.slice (some ⟨b5, o6, none⟩) n_l c_l), (2, Value.int .i64 ((hi : Nat) : Int)), (3, Value.int .i64 ((first : Nat) : Int)), (8, Value.int .i64 ((r : Nat) : Int)), (9, Value.int .i64 (((2 * r) + 1 : Nat) : Int)), (11, Value.int .i64 ((r : Nat) : Int)), (12, Value.int .i64 ((2 * r : Nat) : Int)), (13, Value.int .i64 (((2 * r) + 1 : Nat) : Int)), (14, Value.int .i64 (((2 * r) + 1 : Nat) : Int)), (15, Value.int .i64 ((hi : Nat) : Int)), (16, Value.bool (decide (((((2 * r) + 1 : Nat) : Int) : Int) ≥ (((hi : Nat) : Int) : Int)))), (17, Value.int .i64 (((2 * r) + 1 : Nat) : Int)), (18, Value.int .i64 ((((2 * r) + 1) + 1 : Nat) : Int)), (19, Value.int .i64 ((hi : Nat) : Int)), (20, Value.bool true), (21, Value.bool true), (22, Value.slice (some ⟨b5, o6, none⟩) n_l c_l), (23, Value.int .i64 ((first : Nat) : Int)), (24, Value.int .i64 (((2 * r) + 1 : Nat) : Int)), (25, Value.int .i64 ((first + ((2 * r) + 1) : Nat) : Int)), (26, Value.pointer (some ⟨b5, o6 + (first + ((2 * r) + 1)) * 1, none⟩)), (27, Value.int .u32 y4), (28, Value.slice (some ⟨b5, o6, none⟩) n_l c_l), (29, Value.int .i64 ((first : Nat) : Int)), (30, Value.int .i64 (((2 * r) + 1 : Nat) : Int)), (31, Value.int .i64 ((first + ((2 * r) + 1) : Nat) : Int)), (32, Value.int .i64 (((first + ((2 * r) + 1)) + 1 : Nat) : Int)), (33, Value.pointer (some ⟨b5, o6 + ((first + ((2 * r) + 1)) + 1) * 1, none⟩)), (34, Value.int .u32 y7), (35, Value.bool (decide ((y4) < (y7)))), (36, Value.bool (decide ((y4) < (y7)))), (39, Value.slice (some ⟨b5, o6, none⟩) n_l c_l), (40, Value.int .i64 ((first : Nat) : Int)), (41, Value.int .i64 ((r : Nat) : Int)), (42, Value.int .i64 ((first + r : Nat) : Int)), (43, Value.pointer (some ⟨b5, o6 + (first + r) * 1, none⟩)), (44, Value.int .u32 y18), (45, Value.slice (some ⟨b5, o6, none⟩) n_l c_l), (46, Value.int .i64 ((first : Nat) : Int)), (47, Value.int .i64 (((2 * r) + 1 : Nat) : Int)), (48, Value.int .i64 ((first + ((2 * r) + 1) : Nat) : Int)), (49, Value.pointer (some ⟨b5, o6 + (first + ((2 * r) + 1)) * 1, none⟩)), (50, Value.int .u32 y4), (51, Value.bool (decide ((y18) < (y4)))), (52, Value.bool (!(decide ((y18) < (y4)))))] ac_ ∧ Ws w (· ∈ (srtR (some ⟨b5, o6, none⟩) n_l c_l l).fp) [rowR 35 1 enU4 (Value.slice (some ⟨b5, o6, none⟩) n_l c_l) (List.set (List.set d (first + r) (y4 : Int)) (first + ((2 * r) + 1)) (y18 : Int))] [] wl_) ?_ ?_
                 · refine sr_region (m := 24) (C := Ws w (· ∈ (srtR (some ⟨b5, o6, none⟩) n_l c_l l).fp) [rowR 35 1 enU4 (Value.slice (some ⟨b5, o6, none⟩) n_l c_l) d] []) (fun i => [13, 19].contains i) (fun i => [13, 19].contains i) (fun i => [0, 1, 2, 3, 4, 5, 6, 7, 8, 9, 10, 11, 12, 14, 15, 16, 17, 18, 20, 22].contains i) (by kernel_rfl) (by kernel_rfl) (by kernel_rfl) (by kernel_rfl) hW ?_; clear hW; intro w21 hW hfw21 hR; have hC : Ws w (· ∈ (srtR (some ⟨b5, o6, none⟩) n_l c_l l).fp) [rowR 35 1 enU4 (Value.slice (some ⟨b5, o6, none⟩) n_l c_l) d] [] w21 := hW.pick [0] (by decide) rfl
                   refine sr_p 0 (Value.slice (some ⟨b5, o6, none⟩) n_l c_l) hR rfl hA ?_; clear hA ac; intro ac hA
                   refine sr_p 1 (Value.int .i64 ((first : Nat) : Int)) hR rfl hA ?_; clear hA ac; intro ac hA
                   refine sr_p 2 (Value.int .i64 ((r : Nat) : Int)) hR rfl hA ?_; clear hA ac; intro ac hA
                   refine sr_q 3 (Value.int .i64 ((first + r : Nat) : Int)) hR rfl hA (Rd.pureE (v0 := Value.int .i64 (IntKind.i64.wrap ((((first : Nat) : Int) : Int) + ((r : Nat) : Int)))) (fun _ => by kernel_rfl) (congrArg (Value.int .i64) ((w_i64 (x := (((first : Nat) : Int) : Int) + ((r : Nat) : Int)) (by omega) (by omega)).trans (by omega)))) ?_; clear hA ac; intro ac hA
                   refine sr_p 4 (Value.slice (some ⟨b5, o6, none⟩) n_l c_l) hR rfl hA ?_; clear hA ac; intro ac hA
                   refine sr_p 5 (Value.int .i64 ((first : Nat) : Int)) hR rfl hA ?_; clear hA ac; intro ac hA
                   refine sr_p 6 (Value.int .i64 (((2 * r) + 1 : Nat) : Int)) hR rfl hA ?_; clear hA ac; intro ac hA
                   refine sr_q 7 (Value.int .i64 ((first + ((2 * r) + 1) : Nat) : Int)) hR rfl hA (Rd.pureE (v0 := Value.int .i64 (IntKind.i64.wrap ((((first : Nat) : Int) : Int) + (((2 * r) + 1 : Nat) : Int)))) (fun _ => by kernel_rfl) (congrArg (Value.int .i64) ((w_i64 (x := (((first : Nat) : Int) : Int) + (((2 * r) + 1 : Nat) : Int)) (by omega) (by omega)).trans (by omega)))) ?_; clear hA ac; intro ac hA
                   refine sr_p 8 (Value.slice (some ⟨b5, o6, none⟩) n_l c_l) hR rfl hA ?_; clear hA ac; intro ac hA
                   refine sr_p 9 (Value.int .i64 ((first : Nat) : Int)) hR rfl hA ?_; clear hA ac; intro ac hA
                   refine sr_p 10 (Value.int .i64 (((2 * r) + 1 : Nat) : Int)) hR rfl hA ?_; clear hA ac; intro ac hA
                   refine sr_q 11 (Value.int .i64 ((first + ((2 * r) + 1) : Nat) : Int)) hR rfl hA (Rd.pureE (v0 := Value.int .i64 (IntKind.i64.wrap ((((first : Nat) : Int) : Int) + (((2 * r) + 1 : Nat) : Int)))) (fun _ => by kernel_rfl) (congrArg (Value.int .i64) ((w_i64 (x := (((first : Nat) : Int) : Int) + (((2 * r) + 1 : Nat) : Int)) (by omega) (by omega)).trans (by omega)))) ?_; clear hA ac; intro ac hA
                   refine sr_q 12 (Value.pointer (some ⟨b5, o6 + (first + ((2 * r) + 1)) * 1, none⟩)) hR rfl hA (Rd.indexAddr (e := 35) (sz := 1) (b := b5) (off := o6) (n := n_l) (c := c_l) (k := first + ((2 * r) + 1)) (by kernel_rfl) (by kernel_rfl) (by first | omega | (simp; done) | (simp; omega)) (fun _ => by kernel_rfl) (fun _ => by kernel_rfl)) ?_; clear hA ac; intro ac hA
                   refine sr_t 13 (Value.int .u32 y4) hR rfl hA hC (Rd.loadRow (b := b5) (i := o6 + (first + ((2 * r) + 1)) * 1) (xs := [Value.int .u32 y4]) (by kernel_rfl) (fun _ hw => row_ld (rowR_at ((hw).get 0 rfl) elt_U4.len) hy4 (Fr.refl No _) (fun h => h) 0 1 (by kernel_rfl)) (by kernel_rfl)) ?_; clear hA ac; intro ac hA
                   refine sr_p 14 (Value.slice (some ⟨b5, o6, none⟩) n_l c_l) hR rfl hA ?_; clear hA ac; intro ac hA
                   refine sr_p 15 (Value.int .i64 ((first : Nat) : Int)) hR rfl hA ?_; clear hA ac; intro ac hA
                   refine sr_p 16 (Value.int .i64 ((r : Nat) : Int)) hR rfl hA ?_; clear hA ac; intro ac hA
                   refine sr_q 17 (Value.int .i64 ((first + r : Nat) : Int)) hR rfl hA (Rd.pureE (v0 := Value.int .i64 (IntKind.i64.wrap ((((first : Nat) : Int) : Int) + ((r : Nat) : Int)))) (fun _ => by kernel_rfl) (congrArg (Value.int .i64) ((w_i64 (x := (((first : Nat) : Int) : Int) + ((r : Nat) : Int)) (by omega) (by omega)).trans (by omega)))) ?_; clear hA ac; intro ac hA
                   refine sr_q 18 (Value.pointer (some ⟨b5, o6 + (first + r) * 1, none⟩)) hR rfl hA (Rd.indexAddr (e := 35) (sz := 1) (b := b5) (off := o6) (n := n_l) (c := c_l) (k := first + r) (by kernel_rfl) (by kernel_rfl) (by first | omega | (simp; done) | (simp; omega)) (fun _ => by kernel_rfl) (fun _ => by kernel_rfl)) ?_; clear hA ac; intro ac hA
                   refine sr_t 19 (Value.int .u32 y18) hR rfl hA hC (Rd.loadRow (b := b5) (i := o6 + (first + r) * 1) (xs := [Value.int .u32 y18]) (by kernel_rfl) (fun _ hw => row_ld (rowR_at ((hw).get 0 rfl) elt_U4.len) hy18 (Fr.refl No _) (fun h => h) 0 1 (by kernel_rfl)) (by kernel_rfl)) ?_; clear hA ac; intro ac hA
                   refine sr_q 20 (Value.pointer (some ⟨b5, o6 + (first + r) * 1, none⟩)) hR rfl hA (Rd.indexAddr (e := 35) (sz := 1) (b := b5) (off := o6) (n := n_l) (c := c_l) (k := first + r) (by kernel_rfl) (by kernel_rfl) (by first | omega | (simp; done) | (simp; omega)) (fun _ => by kernel_rfl) (fun _ => by kernel_rfl)) ?_; clear hA ac; intro ac hA
                   refine sr_one (i := 21) (by kernel_rfl) (sr_d rfl hA (Runs.storeRow (E := 35) (sz := 1) (en := enU4) (b := b5) (off := o6) (k := first + r) (n := n_l) (c := c_l) (v := Value.int .u32 y4) (y4 : Int) elt_U4 (by kernel_rfl) (by kernel_rfl) (by kernel_rfl) (by kernel_rfl) hW (i := 0) rfl (by first | omega | (simp; done) | (simp; omega)) (by first | rfl | omega | (simp; done) | (simp; omega)) ?_)); clear hA ac hW; intro w22 hW ac hA
                   refine ⟨⟨fun h => absurd h (by decide), fun h => absurd h (by decide)⟩, ?_⟩
                   obtain ⟨y23, hy23⟩ : ∃ y, (List.set d (first + r) (y4 : Int))[first + ((2 * r) + 1)]? = some y := ⟨_, List.getElem?_eq_getElem (by first | omega | (simp; done) | (simp; omega))⟩
                   refine sr_q 22 (Value.pointer (some ⟨b5, o6 + (first + ((2 * r) + 1)) * 1, none⟩)) hR rfl hA (Rd.indexAddr (e := 35) (sz := 1) (b := b5) (off := o6) (n := n_l) (c := c_l) (k := first + ((2 * r) + 1)) (by kernel_rfl) (by kernel_rfl) (by first | omega | (simp; done) | (simp; omega)) (fun _ => by kernel_rfl) (fun _ => by kernel_rfl)) ?_; clear hA ac; intro ac hA
                   refine sr_one (i := 23) (by kernel_rfl) (sr_d rfl hA (Runs.storeRow (E := 35) (sz := 1) (en := enU4) (b := b5) (off := o6) (k := first + ((2 * r) + 1)) (n := n_l) (c := c_l) (v := Value.int .u32 y18) (y18 : Int) elt_U4 (by kernel_rfl) (by kernel_rfl) (by kernel_rfl) (by kernel_rfl) hW (i := 0) rfl (by first | omega | (simp; done) | (simp; omega)) (by first | rfl | omega | (simp; done) | (simp; omega)) ?_)); clear hA ac hW; intro w24 hW ac hA
                   refine ⟨⟨fun h => absurd h (by decide), fun h => absurd h (by decide)⟩, ?_⟩
                   refine sr_done (by kernel_rfl) ?_ _
                   exact ⟨hA.sub ⟨⟨by kernel_rfl, by kernel_rfl⟩, ⟨by kernel_rfl, by kernel_rfl⟩, ⟨by kernel_rfl, by kernel_rfl⟩, ⟨by kernel_rfl, by kernel_rfl⟩, ⟨by kernel_rfl, by kernel_rfl⟩, ⟨by kernel_rfl, by kernel_rfl⟩, ⟨by kernel_rfl, by kernel_rfl⟩, ⟨by kernel_rfl, by kernel_rfl⟩, ⟨by kernel_rfl, by kernel_rfl⟩, ⟨by kernel_rfl, by kernel_rfl⟩, ⟨by kernel_rfl, by kernel_rfl⟩, ⟨by kernel_rfl, by kernel_rfl⟩, ⟨by kernel_rfl, by kernel_rfl⟩, ⟨by kernel_rfl, by kernel_rfl⟩, ⟨by kernel_rfl, by kernel_rfl⟩, ⟨by kernel_rfl, by kernel_rfl⟩, ⟨by kernel_rfl, by kernel_rfl⟩, ⟨by kernel_rfl, by kernel_rfl⟩, ⟨by kernel_rfl, by kernel_rfl⟩, ⟨by kernel_rfl, by kernel_rfl⟩, ⟨by kernel_rfl, by kernel_rfl⟩, ⟨by kernel_rfl, by kernel_rfl⟩, ⟨by kernel_rfl, by kernel_rfl⟩, ⟨by kernel_rfl, by kernel_rfl⟩, ⟨by kernel_rfl, by kernel_rfl⟩, ⟨by kernel_rfl, by kernel_rfl⟩, ⟨by kernel_rfl, by kernel_rfl⟩, ⟨by kernel_rfl, by kernel_rfl⟩, ⟨by kernel_rfl, by kernel_rfl⟩, ⟨by kernel_rfl, by kernel_rfl⟩, ⟨by kernel_rfl, by kernel_rfl⟩, ⟨by kernel_rfl, by kernel_rfl⟩, ⟨by kernel_rfl, by kernel_rfl⟩, ⟨by kernel_rfl, by kernel_rfl⟩, ⟨by kernel_rfl, by kernel_rfl⟩, ⟨by kernel_rfl, by kernel_rfl⟩, ⟨by kernel_rfl, by kernel_rfl⟩, ⟨by kernel_rfl, by kernel_rfl⟩, ⟨by kernel_rfl, by kernel_rfl⟩, ⟨by kernel_rfl, by kernel_rfl⟩, ⟨by kernel_rfl, by kernel_rfl⟩, ⟨by kernel_rfl, by kernel_rfl⟩, ⟨by kernel_rfl, by kernel_rfl⟩, ⟨by kernel_rfl, by kernel_rfl⟩, ⟨by kernel_rfl, by kernel_rfl⟩, trivial⟩, (hW.pick [0] (by decide) rfl).pickG [] rfl⟩
                 clear hA ac hW; rintro ac w25 ⟨hA, hW⟩
                 refine thenN ?_
                 refine wp_region_lit ?_
                 refine st_p (Value.int .i64 (((2 * r) + 1 : Nat) : Int)) hA ?_; clear hA ac; intro ac hA
                 refine st_p (Value.int .i64 (((2 * r) + 1 : Nat) : Int)) hA ?_; clear hA ac; intro ac hA
                 refine wpList_nil ?_
                 refine blkN ?_
                 refine thenN ?_
                 exact ⟨hi - ((2 * r) + 1), by omega, (2 * r) + 1, List.set (List.set d (first + r) (y4 : Int)) (first + ((2 * r) + 1)) (y18 : Int), rfl, by omega, by rw [← hs]; exact (sift_l (by omega) hy4 (.inr ⟨_, hy7, by omega⟩) hy18 (by omega)).symm, by rw [set2_len]; exact hl, hA.sub ⟨⟨by kernel_rfl, by kernel_rfl⟩, ⟨by kernel_rfl, by kernel_rfl⟩, ⟨by kernel_rfl, by kernel_rfl⟩, ⟨by kernel_rfl, by kernel_rfl⟩, trivial⟩, (hW.pick [0] (by decide) rfl).pickG [] rfl⟩)))
     · skip
       rw [h3] at hA
       have h3 := of_decide_eq_false h3
       first
       | (exfalso; clear hA hW; omega)
       | (
         refine sq_k hA ?_; clear hA ac; intro ac hA
         refine sq_k hA ?_; clear hA ac; intro ac hA
         refine sq_k hA ?_; clear hA ac; intro ac hA
         refine sq_k hA ?_; clear hA ac; intro ac hA
         refine sq_k hA ?_; clear hA ac; intro ac hA
         refine sq_k hA ?_; clear hA ac; intro ac hA
         refine sq_k hA ?_; clear hA ac; intro ac hA
         refine sq_k hA ?_; clear hA ac; intro ac hA
         refine sq_k hA ?_; clear hA ac; intro ac hA
         refine sq_k hA ?_; clear hA ac; intro ac hA
         refine sq_k hA ?_; clear hA ac; intro ac hA
         refine sq_k hA ?_; clear hA ac; intro ac hA
         refine sq_k hA ?_; clear hA ac; intro ac hA
         refine sq_k hA ?_; clear hA ac; intro ac hA
         refine sq_p (Value.bool false) hA ?_; clear hA ac; intro ac hA
         refine sq_nil ?_; intro w26 hww26; have hW := hww26.1; have hfw26 := hww26.2; clear hww26
         refine thenN ?_
         refine wp_cond_false (hA.eval (by kernel_rfl)) ?_
         refine wp_skip ?_
         refine thenN ?_
         refine wp_seq ?_
         refine wp_seq ?_
         refine q_region (by kernel_rfl) (by kernel_rfl) hW ?_
         refine sq_p (Value.slice A_l n_l c_l) hA ?_; clear hA ac; intro ac hA
         refine sq_p (Value.int .i64 ((first : Nat) : Int)) hA ?_; clear hA ac; intro ac hA
         refine sq_p (Value.int .i64 ((r : Nat) : Int)) hA ?_; clear hA ac; intro ac hA
         refine sq_q (Value.int .i64 ((first + r : Nat) : Int)) hA (Rd.pureE (v0 := Value.int .i64 (IntKind.i64.wrap ((((first : Nat) : Int) : Int) + ((r : Nat) : Int)))) (fun _ => by kernel_rfl) (congrArg (Value.int .i64) ((w_i64 (x := (((first : Nat) : Int) : Int) + ((r : Nat) : Int)) (by omega) (by omega)).trans (by omega)))) ?_; clear hA ac; intro ac hA
         obtain ⟨y27, hy27⟩ : ∃ y, d[first + r]? = some y := ⟨_, List.getElem?_eq_getElem (by first | omega | (simp; done) | (simp; omega))⟩
         obtain ⟨b28, o29, rfl, hbb28⟩ := row_some (rowR_at ((hW).get 0 rfl) elt_U4.len) hy27
         refine sq_q (Value.pointer (some ⟨b28, o29 + (first + r) * 1, none⟩)) hA (Rd.indexAddr (e := 35) (sz := 1) (b := b28) (off := o29) (n := n_l) (c := c_l) (k := first + r) (by kernel_rfl) (by kernel_rfl) (by first | omega | (simp; done) | (simp; omega)) (fun _ => by kernel_rfl) (fun _ => by kernel_rfl)) ?_; clear hA ac; intro ac hA
         refine sq_q (Value.int .u32 y27) hA (Rd.loadRow (b := b28) (i := o29 + (first + r) * 1) (xs := [Value.int .u32 y27]) (by kernel_rfl) (fun _ hw => row_ld (rowR_at ((hw.1).get 0 rfl) elt_U4.len) hy27 (Fr.refl No _) (fun h => h) 0 1 (by kernel_rfl)) (by kernel_rfl)) ?_; clear hA ac; intro ac hA
         refine sq_p (Value.slice (some ⟨b28, o29, none⟩) n_l c_l) hA ?_; clear hA ac; intro ac hA
         refine sq_p (Value.int .i64 ((first : Nat) : Int)) hA ?_; clear hA ac; intro ac hA
         refine sq_p (Value.int .i64 (((2 * r) + 1 : Nat) : Int)) hA ?_; clear hA ac; intro ac hA
         refine sq_q (Value.int .i64 ((first + ((2 * r) + 1) : Nat) : Int)) hA (Rd.pureE (v0 := Value.int .i64 (IntKind.i64.wrap ((((first : Nat) : Int) : Int) + (((2 * r) + 1 : Nat) : Int)))) (fun _ => by kernel_rfl) (congrArg (Value.int .i64) ((w_i64 (x := (((first : Nat) : Int) : Int) + (((2 * r) + 1 : Nat) : Int)) (by omega) (by omega)).trans (by omega)))) ?_; clear hA ac; intro ac hA
         obtain ⟨y30, hy30⟩ : ∃ y, d[first + ((2 * r) + 1)]? = some y := ⟨_, List.getElem?_eq_getElem (by first | omega | (simp; done) | (simp; omega))⟩
         refine sq_q (Value.pointer (some ⟨b28, o29 + (first + ((2 * r) + 1)) * 1, none⟩)) hA (Rd.indexAddr (e := 35) (sz := 1) (b := b28) (off := o29) (n := n_l) (c := c_l) (k := first + ((2 * r) + 1)) (by kernel_rfl) (by kernel_rfl) (by first | omega | (simp; done) | (simp; omega)) (fun _ => by kernel_rfl) (fun _ => by kernel_rfl)) ?_; clear hA ac; intro ac hA
         refine sq_q (Value.int .u32 y30) hA (Rd.loadRow (b := b28) (i := o29 + (first + ((2 * r) + 1)) * 1) (xs := [Value.int .u32 y30]) (by kernel_rfl) (fun _ hw => row_ld (rowR_at ((hw.1).get 0 rfl) elt_U4.len) hy30 (Fr.refl No _) (fun h => h) 0 1 (by kernel_rfl)) (by kernel_rfl)) ?_; clear hA ac; intro ac hA
         refine sq_call (v := Value.bool (decide ((y27) < (y30)))) hA (by kernel_rfl) (by kernel_rfl) (by kernel_rfl) (fun _ => by kernel_rfl) (Cls.callNC fun wx hwx => e_less (y27) (y30) wx) ?_; clear hA ac; intro ac hA
         refine sq_p (Value.bool (!(decide ((y27) < (y30))))) hA ?_; clear hA ac; intro ac hA
         refine sq_nil ?_; intro w31 hww31; have hW := hww31.1; have hfw31 := hww31.2; clear hww31
         refine thenN ?_
         refine wp_cond_split (t := !(decide ((y27) < (y30)))) (hA.eval (by kernel_rfl)) (fun h32 => ?_) (fun h32 => ?_)
         · skip
           have h32 := not_t h32
           have h32 := of_decide_eq_false h32
           first
           | (exfalso; clear hA hW; omega)
           | (
             refine wp_ret ?_
             refine thenR ?_
             refine blkR ?_
             refine thenR ?_
             refine blkR ?_
             refine ret0 (.inl rfl) rfl hA ?_
             clear hA
             exact ⟨d, rfl, by rw [← hs, sift_l_end (by omega) hy30 (.inl (by omega)) hy27 (by omega)], by exact hl, (hW.pick [0] (by decide) rfl).updDone 0 rfl⟩)
         · skip
           have h32 := not_f h32
           have h32 := of_decide_eq_true h32
           first
           | (exfalso; clear hA hW; omega)
           | (
             refine wp_skip ?_
             refine thenN ?_
             refine wp_seq ?_
             refine wp_cut (fun ac_ wl_ => Fm 76 [] [(0, Value.slice (some ⟨b28, o29, none⟩) n_l c_l), (2, Value.int .i64 ((hi : Nat) : Int)), (3, Value.int .i64 ((first : Nat) : Int)), (8, Value.int .i64 ((r : Nat) : Int)), (9, Value.int .i64 (((2 * r) + 1 : Nat) : Int)), (11, Value.int .i64 ((r : Nat) : Int)), (12, Value.int .i64 ((2 * r : Nat) : Int)), (13, Value.int .i64 (((2 * r) + 1 : Nat) : Int)), (14, Value.int .i64 (((2 * r) + 1 : Nat) : Int)), (15, Value.int .i64 ((hi : Nat) : Int)), (16, Value.bool (decide (((((2 * r) + 1 : Nat) : Int) : Int) ≥ (((hi : Nat) : Int) : Int)))), (17, Value.int .i64 (((2 * r) + 1 : Nat) : Int)), (18, Value.int .i64 ((((2 * r) + 1) + 1 : Nat) : Int)), (19, Value.int .i64 ((hi : Nat) : Int)), (20, Value.bool false), (21, Value.bool false), (22, undef), (23, undef), (24, undef), (25, undef), (26, undef), (27, undef), (28, undef), (29, undef), (30, undef), (31, undef), (32, undef), (33, undef), (34, undef), (35, undef), (36, Value.bool false), (39, Value.slice (some ⟨b28, o29, none⟩) n_l c_l), (40, Value.int .i64 ((first : Nat) : Int)), (41, Value.int .i64 ((r : Nat) : Int)), (42, Value.int .i64 ((first + r : Nat) : Int)), (43, Value.pointer (some ⟨b28, o29 + (first + r) * 1, none⟩)), (44, Value.int .u32 y27), (45, Value.slice (some ⟨b28, o29, none⟩) n_l c_l), (46, Value.int .i64 ((first : Nat) : Int)), (47, Value.int .i64 (((2 * r) + 1 : Nat) : Int)), (48, Value.int .i64 ((first + ((2 * r) + 1) : Nat) : Int)), (49, Value.pointer (some ⟨b28, o29 + (first + ((2 * r) + 1)) * 1, none⟩)), (50, Value.int .u32 y30), (51, Value.bool (decide ((y27) < (y30)))), (52, Value.bool (!(decide ((y27) < (y30)))))] ac_ ∧ Ws w (· ∈ (srtR (some ⟨b28, o29, none⟩) n_l c_l l).fp) [rowR 35 1 enU4 (Value.slice (some ⟨b28, o29, none⟩) n_l c_l) (List.set (List.set d (first + r) (y30 : Int)) (first + ((2 * r) + 1)) (y27 : Int))] [] wl_) ?_ ?_
             · refine sr_region (m := 24) (C := Ws w (· ∈ (srtR (some ⟨b28, o29, none⟩) n_l c_l l).fp) [rowR 35 1 enU4 (Value.slice (some ⟨b28, o29, none⟩) n_l c_l) d] []) (fun i => [13, 19].contains i) (fun i => [13, 19].contains i) (fun i => [0, 1, 2, 3, 4, 5, 6, 7, 8, 9, 10, 11, 12, 14, 15, 16, 17, 18, 20, 22].contains i) (by kernel_rfl) (by kernel_rfl) (by kernel_rfl) (by kernel_rfl) hW ?_; clear hW; intro w33 hW hfw33 hR; have hC : Ws w (· ∈ (srtR (some ⟨b28, o29, none⟩) n_l c_l l).fp) [rowR 35 1 enU4 (Value.slice (some ⟨b28, o29, none⟩) n_l c_l) d] [] w33 := hW.pick [0] (by decide) rfl
               refine sr_p 0 (Value.slice (some ⟨b28, o29, none⟩) n_l c_l) hR rfl hA ?_; clear hA ac; intro ac hA
               refine sr_p 1 (Value.int .i64 ((first : Nat) : Int)) hR rfl hA ?_; clear hA ac; intro ac hA
               refine sr_p 2 (Value.int .i64 ((r : Nat) : Int)) hR rfl hA ?_; clear hA ac; intro ac hA
               refine sr_q 3 (Value.int .i64 ((first + r : Nat) : Int)) hR rfl hA (Rd.pureE (v0 := Value.int .i64 (IntKind.i64.wrap ((((first : Nat) : Int) : Int) + ((r : Nat) : Int)))) (fun _ => by kernel_rfl) (congrArg (Value.int .i64) ((w_i64 (x := (((first : Nat) : Int) : Int) + ((r : Nat) : Int)) (by omega) (by omega)).trans (by omega)))) ?_; clear hA ac; intro ac hA
               refine sr_p 4 (Value.slice (some ⟨b28, o29, none⟩) n_l c_l) hR rfl hA ?_; clear hA ac; intro ac hA
               refine sr_p 5 (Value.int .i64 ((first : Nat) : Int)) hR rfl hA ?_; clear hA ac; intro ac hA
               refine sr_p 6 (Value.int .i64 (((2 * r) + 1 : Nat) : Int)) hR rfl hA ?_; clear hA ac; intro ac hA
               refine sr_q 7 (Value.int .i64 ((first + ((2 * r) + 1) : Nat) : Int)) hR rfl hA (Rd.pureE (v0 := Value.int .i64 (IntKind.i64.wrap ((((first : Nat) : Int) : Int) + (((2 * r) + 1 : Nat) : Int)))) (fun _ => by kernel_rfl) (congrArg (Value.int .i64) ((w_i64 (x := (((first : Nat) : Int) : Int) + (((2 * r) + 1 : Nat) : Int)) (by omega) (by omega)).trans (by omega)))) ?_; clear hA ac; intro ac hA
               refine sr_p 8 (Value.slice (some ⟨b28, o29, none⟩) n_l c_l) hR rfl hA ?_; clear hA ac; intro ac hA
               refine sr_p 9 (Value.int .i64 ((first : Nat) : Int)) hR rfl hA ?_; clear hA ac; intro ac hA
               refine sr_p 10 (Value.int .i64 (((2 * r) + 1 : Nat) : Int)) hR rfl hA ?_; clear hA ac; intro ac hA
               refine sr_q 11 (Value.int .i64 ((first + ((2 * r) + 1) : Nat) : Int)) hR rfl hA (Rd.pureE (v0 := Value.int .i64 (IntKind.i64.wrap ((((first : Nat) : Int) : Int) + (((2 * r) + 1 : Nat) : Int)))) (fun _ => by kernel_rfl) (congrArg (Value.int .i64) ((w_i64 (x := (((first : Nat) : Int) : Int) + (((2 * r) + 1 : Nat) : Int)) (by omega) (by omega)).trans (by omega)))) ?_; clear hA ac; intro ac hA
               refine sr_q 12 (Value.pointer (some ⟨b28, o29 + (first + ((2 * r) + 1)) * 1, none⟩)) hR rfl hA (Rd.indexAddr (e := 35) (sz := 1) (b := b28) (off := o29) (n := n_l) (c := c_l) (k := first + ((2 * r) + 1)) (by kernel_rfl) (by kernel_rfl) (by first | omega | (simp; done) | (simp; omega)) (fun _ => by kernel_rfl) (fun _ => by kernel_rfl)) ?_; clear hA ac; intro ac hA
               refine sr_t 13 (Value.int .u32 y30) hR rfl hA hC (Rd.loadRow (b := b28) (i := o29 + (first + ((2 * r) + 1)) * 1) (xs := [Value.int .u32 y30]) (by kernel_rfl) (fun _ hw => row_ld (rowR_at ((hw).get 0 rfl) elt_U4.len) hy30 (Fr.refl No _) (fun h => h) 0 1 (by kernel_rfl)) (by kernel_rfl)) ?_; clear hA ac; intro ac hA
               refine sr_p 14 (Value.slice (some ⟨b28, o29, none⟩) n_l c_l) hR rfl hA ?_; clear hA ac; intro ac hA
               refine sr_p 15 (Value.int .i64 ((first : Nat) : Int)) hR rfl hA ?_; clear hA ac; intro ac hA
               refine sr_p 16 (Value.int .i64 ((r : Nat) : Int)) hR rfl hA ?_; clear hA ac; intro ac hA
               refine sr_q 17 (Value.int .i64 ((first + r : Nat) : Int)) hR rfl hA (Rd.pureE (v0 := Value.int .i64 (IntKind.i64.wrap ((((first : Nat) : Int) : Int) + ((r : Nat) : Int)))) (fun _ => by kernel_rfl) (congrArg (Value.int .i64) ((w_i64 (x := (((first : Nat) : Int) : Int) + ((r : Nat) : Int)) (by omega) (by omega)).trans (by omega)))) ?_; clear hA ac; intro ac hA
               refine sr_q 18 (Value.pointer (some ⟨b28, o29 + (first + r) * 1, none⟩)) hR rfl hA (Rd.indexAddr (e := 35) (sz := 1) (b := b28) (off := o29) (n := n_l) (c := c_l) (k := first + r) (by kernel_rfl) (by kernel_rfl) (by first | omega | (simp; done) | (simp; omega)) (fun _ => by kernel_rfl) (fun _ => by kernel_rfl)) ?_; clear hA ac; intro ac hA
               refine sr_t 19 (Value.int .u32 y27) hR rfl hA hC (Rd.loadRow (b := b28) (i := o29 + (first + r) * 1) (xs := [Value.int .u32 y27]) (by kernel_rfl) (fun _ hw => row_ld (rowR_at ((hw).get 0 rfl) elt_U4.len) hy27 (Fr.refl No _) (fun h => h) 0 1 (by kernel_rfl)) (by kernel_rfl)) ?_; clear hA ac; intro ac hA
               refine sr_q 20 (Value.pointer (some ⟨b28, o29 + (first + r) * 1, none⟩)) hR rfl hA (Rd.indexAddr (e := 35) (sz := 1) (b := b28) (off := o29) (n := n_l) (c := c_l) (k := first + r) (by kernel_rfl) (by kernel_rfl) (by first | omega | (simp; done) | (simp; omega)) (fun _ => by kernel_rfl) (fun _ => by kernel_rfl)) ?_; clear hA ac; intro ac hA
               refine sr_one (i := 21) (by kernel_rfl) (sr_d rfl hA (Runs.storeRow (E := 35) (sz := 1) (en := enU4) (b := b28) (off := o29) (k := first + r) (n := n_l) (c := c_l) (v := Value.int .u32 y30) (y30 : Int) elt_U4 (by kernel_rfl) (by kernel_rfl) (by kernel_rfl) (by kernel_rfl) hW (i := 0) rfl (by first | omega | (simp; done) | (simp; omega)) (by first | rfl | omega | (simp; done) | (simp; omega)) ?_)); clear hA ac hW; intro w34 hW ac hA
               refine ⟨⟨fun h => absurd h (by decide), fun h => absurd h (by decide)⟩, ?_⟩
               obtain ⟨y35, hy35⟩ : ∃ y, (List.set d (first + r) (y30 : Int))[first + ((2 * r) + 1)]? = some y := ⟨_, List.getElem?_eq_getElem (by first | omega | (simp; done) | (simp; omega))⟩
               refine sr_q 22 (Value.pointer (some ⟨b28, o29 + (first + ((2 * r) + 1)) * 1, none⟩)) hR rfl hA (Rd.indexAddr (e := 35) (sz := 1) (b := b28) (off := o29) (n := n_l) (c := c_l) (k := first + ((2 * r) + 1)) (by kernel_rfl) (by kernel_rfl) (by first | omega | (simp; done) | (simp; omega)) (fun _ => by kernel_rfl) (fun _ => by kernel_rfl)) ?_; clear hA ac; intro ac hA
               refine sr_one (i := 23) (by kernel_rfl) (sr_d rfl hA (Runs.storeRow (E := 35) (sz := 1) (en := enU4) (b := b28) (off := o29) (k := first + ((2 * r) + 1)) (n := n_l) (c := c_l) (v := Value.int .u32 y27) (y27 : Int) elt_U4 (by kernel_rfl) (by kernel_rfl) (by kernel_rfl) (by kernel_rfl) hW (i := 0) rfl (by first | omega | (simp; done) | (simp; omega)) (by first | rfl | omega | (simp; done) | (simp; omega)) ?_)); clear hA ac hW; intro w36 hW ac hA
               refine ⟨⟨fun h => absurd h (by decide), fun h => absurd h (by decide)⟩, ?_⟩
               refine sr_done (by kernel_rfl) ?_ _
               exact ⟨hA.sub ⟨⟨by kernel_rfl, by kernel_rfl⟩, ⟨by kernel_rfl, by kernel_rfl⟩, ⟨by kernel_rfl, by kernel_rfl⟩, ⟨by kernel_rfl, by kernel_rfl⟩, ⟨by kernel_rfl, by kernel_rfl⟩, ⟨by kernel_rfl, by kernel_rfl⟩, ⟨by kernel_rfl, by kernel_rfl⟩, ⟨by kernel_rfl, by kernel_rfl⟩, ⟨by kernel_rfl, by kernel_rfl⟩, ⟨by kernel_rfl, by kernel_rfl⟩, ⟨by kernel_rfl, by kernel_rfl⟩, ⟨by kernel_rfl, by kernel_rfl⟩, ⟨by kernel_rfl, by kernel_rfl⟩, ⟨by kernel_rfl, by kernel_rfl⟩, ⟨by kernel_rfl, by kernel_rfl⟩, ⟨by kernel_rfl, by kernel_rfl⟩, ⟨by kernel_rfl, by kernel_rfl⟩, ⟨by kernel_rfl, by kernel_rfl⟩, ⟨by kernel_rfl, by kernel_rfl⟩, ⟨by kernel_rfl, by kernel_rfl⟩, ⟨by kernel_rfl, by kernel_rfl⟩, ⟨by kernel_rfl, by kernel_rfl⟩, ⟨by kernel_rfl, by kernel_rfl⟩, ⟨by kernel_rfl, by kernel_rfl⟩, ⟨by kernel_rfl, by kernel_rfl⟩, ⟨by kernel_rfl, by kernel_rfl⟩, ⟨by kernel_rfl, by kernel_rfl⟩, ⟨by kernel_rfl, by kernel_rfl⟩, ⟨by kernel_rfl, by kernel_rfl⟩, ⟨by kernel_rfl, by kernel_rfl⟩, ⟨by kernel_rfl, by kernel_rfl⟩, ⟨by kernel_rfl, by kernel_rfl⟩, ⟨by kernel_rfl, by kernel_rfl⟩, ⟨by kernel_rfl, by kernel_rfl⟩, ⟨by kernel_rfl, by kernel_rfl⟩, ⟨by kernel_rfl, by kernel_rfl⟩, ⟨by kernel_rfl, by kernel_rfl⟩, ⟨by kernel_rfl, by kernel_rfl⟩, ⟨by kernel_rfl, by kernel_rfl⟩, ⟨by kernel_rfl, by kernel_rfl⟩, ⟨by kernel_rfl, by kernel_rfl⟩, ⟨by kernel_rfl, by kernel_rfl⟩, ⟨by kernel_rfl, by kernel_rfl⟩, ⟨by kernel_rfl, by kernel_rfl⟩, ⟨by kernel_rfl, by kernel_rfl⟩, trivial⟩, (hW.pick [0] (by decide) rfl).pickG [] rfl⟩
             clear hA ac hW; rintro ac w37 ⟨hA, hW⟩
             refine thenN ?_
             refine wp_region_lit ?_
             refine st_p (Value.int .i64 (((2 * r) + 1 : Nat) : Int)) hA ?_; clear hA ac; intro ac hA
             refine st_p (Value.int .i64 (((2 * r) + 1 : Nat) : Int)) hA ?_; clear hA ac; intro ac hA
             refine wpList_nil ?_
             refine blkN ?_
             refine thenN ?_
             exact ⟨hi - ((2 * r) + 1), by omega, (2 * r) + 1, List.set (List.set d (first + r) (y30 : Int)) (first + ((2 * r) + 1)) (y27 : Int), rfl, by omega, by rw [← hs]; exact (sift_l (by omega) hy30 (.inl (by omega)) hy27 (by omega)).symm, by rw [set2_len]; exact hl, hA.sub ⟨⟨by kernel_rfl, by kernel_rfl⟩, ⟨by kernel_rfl, by kernel_rfl⟩, ⟨by kernel_rfl, by kernel_rfl⟩, ⟨by kernel_rfl, by kernel_rfl⟩, trivial⟩, (hW.pick [0] (by decide) rfl).pickG [] rfl⟩)))

set_option maxRecDepth 100000 in
theorem e_heap (A_l : Option Addr) (n_l c_l : Nat) (l : List Int) (a : Nat) (b : Nat) (w : World) (ho_l : (srtR A_l n_l c_l l).p w) (hl_l : ∀ x_ ∈ (srtR A_l n_l c_l l).fp, x_ < w.heap.size) (hb : a < b ∧ b ≤ l.length) (hsz : l.length ≤ 1000000) : Calls Try.prog 56 #[Value.slice A_l n_l c_l, Value.int .i64 ((a : Nat) : Int), Value.int .i64 ((b : Nat) : Int)] w (fun e w' => ∃ l' : List Int, e = .returned (Value.tuple #[]) ∧ (l'.toArray = Sort.heapSort Sort.ltInt l.toArray a b) ∧ (l'.length = l.length) ∧ Upd (srtR A_l n_l c_l l) (srtR A_l n_l c_l l') w w') := by
 have _hu := ho_l; have _hv := hl_l; clear _hu _hv
 have _hu := hb; clear _hu
 have _hu := hsz; clear _hu
 refine enter_E 56 Try.func56 rfl rfl (by kernel_rfl) (L := [(0, Value.slice A_l n_l c_l), (1, Value.int .i64 ((a : Nat) : Int)), (2, Value.int .i64 ((b : Nat) : Int))]) (by kernel_rfl) ?_
 intro ac hA
 have hW : Ws w (· ∈ (srtR A_l n_l c_l l).fp) [rowR 35 1 enU4 (Value.slice A_l n_l c_l) l] [] w := objW ho_l hl_l
 clear ho_l hl_l
 have hn_l : n_l = l.length := rowR_n (hW.get 0 rfl)
 refine wp_seq ?_
 refine wp_region_lit ?_
 refine st_p (Value.int .i64 ((a : Nat) : Int)) hA ?_; clear hA ac; intro ac hA
 refine st_p (Value.int .i64 ((a : Nat) : Int)) hA ?_; clear hA ac; intro ac hA
 refine wpList_nil ?_
 refine thenN ?_
 refine wp_seq ?_
 refine wp_region_lit ?_
 refine st_p (Value.int .i64 0) hA ?_; clear hA ac; intro ac hA
 refine wpList_nil ?_
 refine thenN ?_
 refine wp_seq ?_
 refine wp_region_lit ?_
 refine st_p (Value.int .i64 ((b : Nat) : Int)) hA ?_; clear hA ac; intro ac hA
 refine st_p (Value.int .i64 ((a : Nat) : Int)) hA ?_; clear hA ac; intro ac hA
 refine st_q (Value.int .i64 ((b - a : Nat) : Int)) hA hW.cls (Rd.pureE (v0 := Value.int .i64 (IntKind.i64.wrap ((((b : Nat) : Int) : Int) - ((a : Nat) : Int)))) (fun _ => by kernel_rfl) (congrArg (Value.int .i64) ((w_i64 (x := (((b : Nat) : Int) : Int) - ((a : Nat) : Int)) (by omega) (by omega)).trans (by omega)))) ?_; clear hA ac; intro ac hA
 refine st_p (Value.int .i64 ((b - a : Nat) : Int)) hA ?_; clear hA ac; intro ac hA
 refine wpList_nil ?_
 refine thenN ?_
 refine wp_seq ?_
 refine wp_seq ?_
 refine wp_region_lit ?_
 refine st_p (Value.int .i64 ((b - a : Nat) : Int)) hA ?_; clear hA ac; intro ac hA
 refine st_q (Value.int .i64 (((b - a) - 1 : Nat) : Int)) hA hW.cls (Rd.pureE (v0 := Value.int .i64 (IntKind.i64.wrap ((((b - a : Nat) : Int) : Int) - 1))) (fun _ => by kernel_rfl) (congrArg (Value.int .i64) ((w_i64 (x := (((b - a : Nat) : Int) : Int) - 1) (by omega) (by omega)).trans (by omega)))) ?_; clear hA ac; intro ac hA
 refine st_q (Value.int .i64 ((((b - a) - 1) / 2 : Nat) : Int)) hA hW.cls (Rd.pureE (v0 := Value.int .i64 (IntKind.i64.wrap (Int.tdiv ((((b - a) - 1 : Nat) : Int) : Int) 2))) (fun _ => by kernel_rfl) (congrArg (Value.int .i64) ((congrArg IntKind.i64.wrap (quo_ (x := (((b - a) - 1 : Nat) : Int)) (by omega))).trans (w_i64 (by omega) (by omega))))) ?_; clear hA ac; intro ac hA
 refine st_p (Value.int .i64 ((((b - a) - 1) / 2 : Nat) : Int)) hA ?_; clear hA ac; intro ac hA
 refine wpList_nil ?_
 refine thenN ?_
 refine wp_block ?_
 refine wp_loop_m (fun m_ ac_ wl_ => ∃ i1 : Int, ∃ k1 : Nat, ∃ d : List Int, m_ = k1 + 1 ∧ (i1 = (k1 : Int) - 1 ∧ k1 ≤ (b - a - 1) / 2 + 1) ∧ (Sort.heapBuild Sort.ltInt (b - a) a k1 d.toArray = Sort.heapBuild Sort.ltInt (b - a) a ((b - a - 1) / 2 + 1) l.toArray) ∧ (d.length = l.length) ∧ Fm 56 [] [(0, Value.slice A_l n_l c_l), (6, Value.int .i64 ((a : Nat) : Int)), (7, Value.int .i64 0), (8, Value.int .i64 ((b - a : Nat) : Int)), (9, Value.int .i64 i1)] ac_ ∧ Ws w (· ∈ (srtR A_l n_l c_l l).fp) [rowR 35 1 enU4 (Value.slice A_l n_l c_l) d] [] wl_) _ ⟨((((b - a) - 1) / 2 : Nat) : Int), (b - a - 1) / 2 + 1, l, rfl, by omega, by rfl, by rfl, hA.sub ⟨⟨by kernel_rfl, by kernel_rfl⟩, ⟨by kernel_rfl, by kernel_rfl⟩, ⟨by kernel_rfl, by kernel_rfl⟩, ⟨by kernel_rfl, by kernel_rfl⟩, ⟨by kernel_rfl, by kernel_rfl⟩, trivial⟩, (hW.pick [0] (by decide) rfl).pickG [] rfl⟩ ?_
 clear hA ac hW; rintro m_ ac w1 ⟨i1, k1, d, rfl, hk1, hs1, hl1, hA, hW⟩
 refine wp_seq ?_
 refine wp_seq ?_
 refine wp_region_lit ?_
 refine st_p (Value.int .i64 i1) hA ?_; clear hA ac; intro ac hA
 refine st_p (Value.bool (decide ((i1 : Int) ≥ (0 : Int)))) hA ?_; clear hA ac; intro ac hA
 refine wpList_nil ?_
 refine thenN ?_
 refine wp_cond_split (t := decide ((i1 : Int) ≥ (0 : Int))) (hA.eval (by kernel_rfl)) (fun h2 => ?_) (fun h2 => ?_)
 · skip
   have h2 := of_decide_eq_true h2
   first
   | (exfalso; clear hA hW; omega)
   | (
     refine wp_skip ?_
     refine thenN ?_
     refine wp_seq ?_
     refine wp_block ?_
     obtain ⟨q1, rfl⟩ : ∃ q_, k1 = q_ + 1 := ⟨k1 - 1, by omega⟩; obtain rfl : i1 = ((q1 : Nat) : Int) := (by omega)
     refine wp_region_lit ?_
     refine st_p (Value.slice A_l n_l c_l) hA ?_; clear hA ac; intro ac hA
     refine st_p (Value.int .i64 ((q1 : Nat) : Int)) hA ?_; clear hA ac; intro ac hA
     refine st_p (Value.int .i64 ((b - a : Nat) : Int)) hA ?_; clear hA ac; intro ac hA
     refine st_p (Value.int .i64 ((a : Nat) : Int)) hA ?_; clear hA ac; intro ac hA
     refine st_s hA (Runs.call (fun _ => by kernel_rfl) (e_sift A_l n_l c_l d (q1) (b - a) (a) w1 ((hW).get 0 rfl) ((hW).lt _ (List.mem_of_getElem? (i := 0) rfl)) (by first | omega | (rw [set2_len]; omega)) (by first | omega | (rw [set2_len]; omega))) ?_)
     rintro _ w3 ⟨u4, rfl, hw3_hA, hw3_hL, hu_⟩; refine ⟨_, rfl, ?_⟩; replace hW := hW.upd (H' := [rowR 35 1 enU4 (Value.slice A_l n_l c_l) u4]) 0 rfl hu_ rfl; clear hA ac; intro ac hA
     refine wpList_nil ?_
     refine blkN ?_
     refine thenN ?_
     refine wp_region_lit ?_
     refine st_p (Value.int .i64 ((q1 : Nat) : Int)) hA ?_; clear hA ac; intro ac hA
     refine st_q (Value.int .i64 ((((q1 : Nat) : Int) : Int) - 1)) hA hW.cls (Rd.pureE (v0 := Value.int .i64 (IntKind.i64.wrap ((((q1 : Nat) : Int) : Int) - 1))) (fun _ => by kernel_rfl) (congrArg (Value.int .i64) ((w_i64 (x := (((q1 : Nat) : Int) : Int) - 1) (by omega) (by omega)).trans (by omega)))) ?_; clear hA ac; intro ac hA
     refine st_p (Value.int .i64 ((((q1 : Nat) : Int) : Int) - 1)) hA ?_; clear hA ac; intro ac hA
     refine wpList_nil ?_
     refine thenN ?_
     exact ⟨(q1) + 1, by omega, (((q1 : Nat) : Int) : Int) - 1, q1, u4, rfl, by omega, by rw [← hs1]; show _ = Sort.heapBuild _ _ _ (q1 + 1) _; rw [Sort.heapBuild, ← hw3_hA], by rw [hw3_hL]; exact hl1, hA.sub ⟨⟨by kernel_rfl, by kernel_rfl⟩, ⟨by kernel_rfl, by kernel_rfl⟩, ⟨by kernel_rfl, by kernel_rfl⟩, ⟨by kernel_rfl, by kernel_rfl⟩, ⟨by kernel_rfl, by kernel_rfl⟩, trivial⟩, (hW.pick [0] (by decide) rfl).pickG [] rfl⟩)
 · skip
   have h2 := of_decide_eq_false h2
   first
   | (exfalso; clear hA hW; omega)
   | (
     refine wp_exit ?_
     refine thenX ?_
     refine thenX ?_
     refine blkX ?_
     refine thenN ?_
     refine wp_seq ?_
     refine wp_region_lit ?_
     refine st_p (Value.int .i64 ((b - a : Nat) : Int)) hA ?_; clear hA ac; intro ac hA
     refine st_q (Value.int .i64 (((b - a) - 1 : Nat) : Int)) hA hW.cls (Rd.pureE (v0 := Value.int .i64 (IntKind.i64.wrap ((((b - a : Nat) : Int) : Int) - 1))) (fun _ => by kernel_rfl) (congrArg (Value.int .i64) ((w_i64 (x := (((b - a : Nat) : Int) : Int) - 1) (by omega) (by omega)).trans (by omega)))) ?_; clear hA ac; intro ac hA
     refine st_p (Value.int .i64 (((b - a) - 1 : Nat) : Int)) hA ?_; clear hA ac; intro ac hA
     refine wpList_nil ?_
     refine thenN ?_
     refine wp_block ?_
     refine wp_loop_m (fun m_ ac_ wl_ => ∃ i2 : Int, ∃ k2 : Nat, ∃ e : List Int, m_ = k2 + 1 ∧ (i2 = (k2 : Int) - 1 ∧ k2 ≤ b - a) ∧ (Sort.heapPop Sort.ltInt a k2 e.toArray = Sort.heapSort Sort.ltInt l.toArray a b) ∧ (e.length = l.length) ∧ Fm 56 [] [(0, Value.slice A_l n_l c_l), (6, Value.int .i64 ((a : Nat) : Int)), (7, Value.int .i64 0), (10, Value.int .i64 i2)] ac_ ∧ Ws w (· ∈ (srtR A_l n_l c_l l).fp) [rowR 35 1 enU4 (Value.slice A_l n_l c_l) e] [] wl_) _ ⟨(((b - a) - 1 : Nat) : Int), b - a, d, rfl, by omega, by unfold Sort.heapSort; rw [show k1 = 0 from by omega] at hs1; rw [← hs1]; rfl, by exact hl1, hA.sub ⟨⟨by kernel_rfl, by kernel_rfl⟩, ⟨by kernel_rfl, by kernel_rfl⟩, ⟨by kernel_rfl, by kernel_rfl⟩, ⟨by kernel_rfl, by kernel_rfl⟩, trivial⟩, (hW.pick [0] (by decide) rfl).pickG [] rfl⟩ ?_
     clear hA ac hW; rintro m_ ac w5 ⟨i2, k2, e, rfl, hk2, hs2, hl2, hA, hW⟩
     refine wp_seq ?_
     refine wp_seq ?_
     refine wp_region_lit ?_
     refine st_p (Value.int .i64 i2) hA ?_; clear hA ac; intro ac hA
     refine st_p (Value.bool (decide ((i2 : Int) ≥ (0 : Int)))) hA ?_; clear hA ac; intro ac hA
     refine wpList_nil ?_
     refine thenN ?_
     refine wp_cond_split (t := decide ((i2 : Int) ≥ (0 : Int))) (hA.eval (by kernel_rfl)) (fun h6 => ?_) (fun h6 => ?_)
     · skip
       have h6 := of_decide_eq_true h6
       first
       | (exfalso; clear hA hW; omega)
       | (
         refine wp_skip ?_
         refine thenN ?_
         refine wp_seq ?_
         refine wp_block ?_
         refine wp_seq ?_
         obtain ⟨q2, rfl⟩ : ∃ q_, k2 = q_ + 1 := ⟨k2 - 1, by omega⟩; obtain rfl : i2 = ((q2 : Nat) : Int) := (by omega)
         obtain ⟨y7, hy7⟩ : ∃ y, e[a]? = some y := ⟨_, List.getElem?_eq_getElem (by omega)⟩
         obtain ⟨b8, o9, rfl, hbb8⟩ := row_some (rowR_at ((hW).get 0 rfl) elt_U4.len) hy7
         obtain ⟨y10, hy10⟩ : ∃ y, e[a + q2]? = some y := ⟨_, List.getElem?_eq_getElem (by omega)⟩
         refine wp_cut (fun ac_ wl_ => Fm 56 [] [(0, Value.slice (some ⟨b8, o9, none⟩) n_l c_l), (6, Value.int .i64 ((a : Nat) : Int)), (7, Value.int .i64 0), (10, Value.int .i64 ((q2 : Nat) : Int)), (29, Value.int .i64 ((q2 : Nat) : Int)), (30, Value.bool (decide ((((q2 : Nat) : Int) : Int) ≥ (0 : Int))))] ac_ ∧ Ws w (· ∈ (srtR (some ⟨b8, o9, none⟩) n_l c_l l).fp) [rowR 35 1 enU4 (Value.slice (some ⟨b8, o9, none⟩) n_l c_l) (List.set (List.set e a (y10 : Int)) (a + q2) (y7 : Int))] [] wl_) ?_ ?_
         · refine sr_region (m := 20) (C := Ws w (· ∈ (srtR (some ⟨b8, o9, none⟩) n_l c_l l).fp) [rowR 35 1 enU4 (Value.slice (some ⟨b8, o9, none⟩) n_l c_l) e] []) (fun i => [11, 15].contains i) (fun i => [11, 15].contains i) (fun i => [0, 1, 2, 3, 4, 5, 6, 7, 8, 9, 10, 12, 13, 14, 16, 18].contains i) (by kernel_rfl) (by kernel_rfl) (by kernel_rfl) (by kernel_rfl) hW ?_; clear hW; intro w11 hW hfw11 hR; have hC : Ws w (· ∈ (srtR (some ⟨b8, o9, none⟩) n_l c_l l).fp) [rowR 35 1 enU4 (Value.slice (some ⟨b8, o9, none⟩) n_l c_l) e] [] w11 := hW.pick [0] (by decide) rfl
           refine sr_p 0 (Value.slice (some ⟨b8, o9, none⟩) n_l c_l) hR rfl hA ?_; clear hA ac; intro ac hA
           refine sr_p 1 (Value.int .i64 ((a : Nat) : Int)) hR rfl hA ?_; clear hA ac; intro ac hA
           refine sr_p 2 (Value.slice (some ⟨b8, o9, none⟩) n_l c_l) hR rfl hA ?_; clear hA ac; intro ac hA
           refine sr_p 3 (Value.int .i64 ((a : Nat) : Int)) hR rfl hA ?_; clear hA ac; intro ac hA
           refine sr_p 4 (Value.int .i64 ((q2 : Nat) : Int)) hR rfl hA ?_; clear hA ac; intro ac hA
           refine sr_q 5 (Value.int .i64 ((a + q2 : Nat) : Int)) hR rfl hA (Rd.pureE (v0 := Value.int .i64 (IntKind.i64.wrap ((((a : Nat) : Int) : Int) + ((q2 : Nat) : Int)))) (fun _ => by kernel_rfl) (congrArg (Value.int .i64) ((w_i64 (x := (((a : Nat) : Int) : Int) + ((q2 : Nat) : Int)) (by omega) (by omega)).trans (by omega)))) ?_; clear hA ac; intro ac hA
           refine sr_p 6 (Value.slice (some ⟨b8, o9, none⟩) n_l c_l) hR rfl hA ?_; clear hA ac; intro ac hA
           refine sr_p 7 (Value.int .i64 ((a : Nat) : Int)) hR rfl hA ?_; clear hA ac; intro ac hA
           refine sr_p 8 (Value.int .i64 ((q2 : Nat) : Int)) hR rfl hA ?_; clear hA ac; intro ac hA
           refine sr_q 9 (Value.int .i64 ((a + q2 : Nat) : Int)) hR rfl hA (Rd.pureE (v0 := Value.int .i64 (IntKind.i64.wrap ((((a : Nat) : Int) : Int) + ((q2 : Nat) : Int)))) (fun _ => by kernel_rfl) (congrArg (Value.int .i64) ((w_i64 (x := (((a : Nat) : Int) : Int) + ((q2 : Nat) : Int)) (by omega) (by omega)).trans (by omega)))) ?_; clear hA ac; intro ac hA
           refine sr_q 10 (Value.pointer (some ⟨b8, o9 + (a + q2) * 1, none⟩)) hR rfl hA (Rd.indexAddr (e := 35) (sz := 1) (b := b8) (off := o9) (n := n_l) (c := c_l) (k := a + q2) (by kernel_rfl) (by kernel_rfl) (by first | omega | (simp; done) | (simp; omega)) (fun _ => by kernel_rfl) (fun _ => by kernel_rfl)) ?_; clear hA ac; intro ac hA
           refine sr_t 11 (Value.int .u32 y10) hR rfl hA hC (Rd.loadRow (b := b8) (i := o9 + (a + q2) * 1) (xs := [Value.int .u32 y10]) (by kernel_rfl) (fun _ hw => row_ld (rowR_at ((hw).get 0 rfl) elt_U4.len) hy10 (Fr.refl No _) (fun h => h) 0 1 (by kernel_rfl)) (by kernel_rfl)) ?_; clear hA ac; intro ac hA
           refine sr_p 12 (Value.slice (some ⟨b8, o9, none⟩) n_l c_l) hR rfl hA ?_; clear hA ac; intro ac hA
           refine sr_p 13 (Value.int .i64 ((a : Nat) : Int)) hR rfl hA ?_; clear hA ac; intro ac hA
           refine sr_q 14 (Value.pointer (some ⟨b8, o9 + a * 1, none⟩)) hR rfl hA (Rd.indexAddr (e := 35) (sz := 1) (b := b8) (off := o9) (n := n_l) (c := c_l) (k := a) (by kernel_rfl) (by kernel_rfl) (by first | omega | (simp; done) | (simp; omega)) (fun _ => by kernel_rfl) (fun _ => by kernel_rfl)) ?_; clear hA ac; intro ac hA
           refine sr_t 15 (Value.int .u32 y7) hR rfl hA hC (Rd.loadRow (b := b8) (i := o9 + a * 1) (xs := [Value.int .u32 y7]) (by kernel_rfl) (fun _ hw => row_ld (rowR_at ((hw).get 0 rfl) elt_U4.len) hy7 (Fr.refl No _) (fun h => h) 0 1 (by kernel_rfl)) (by kernel_rfl)) ?_; clear hA ac; intro ac hA
           refine sr_q 16 (Value.pointer (some ⟨b8, o9 + a * 1, none⟩)) hR rfl hA (Rd.indexAddr (e := 35) (sz := 1) (b := b8) (off := o9) (n := n_l) (c := c_l) (k := a) (by kernel_rfl) (by kernel_rfl) (by first | omega | (simp; done) | (simp; omega)) (fun _ => by kernel_rfl) (fun _ => by kernel_rfl)) ?_; clear hA ac; intro ac hA
           refine sr_one (i := 17) (by kernel_rfl) (sr_d rfl hA (Runs.storeRow (E := 35) (sz := 1) (en := enU4) (b := b8) (off := o9) (k := a) (n := n_l) (c := c_l) (v := Value.int .u32 y10) (y10 : Int) elt_U4 (by kernel_rfl) (by kernel_rfl) (by kernel_rfl) (by kernel_rfl) hW (i := 0) rfl (by first | omega | (simp; done) | (simp; omega)) (by first | rfl | omega | (simp; done) | (simp; omega)) ?_)); clear hA ac hW; intro w12 hW ac hA
           refine ⟨⟨fun h => absurd h (by decide), fun h => absurd h (by decide)⟩, ?_⟩
           obtain ⟨y13, hy13⟩ : ∃ y, (List.set e a (y10 : Int))[a + q2]? = some y := ⟨_, List.getElem?_eq_getElem (by first | omega | (simp; done) | (simp; omega))⟩
           refine sr_q 18 (Value.pointer (some ⟨b8, o9 + (a + q2) * 1, none⟩)) hR rfl hA (Rd.indexAddr (e := 35) (sz := 1) (b := b8) (off := o9) (n := n_l) (c := c_l) (k := a + q2) (by kernel_rfl) (by kernel_rfl) (by first | omega | (simp; done) | (simp; omega)) (fun _ => by kernel_rfl) (fun _ => by kernel_rfl)) ?_; clear hA ac; intro ac hA
           refine sr_one (i := 19) (by kernel_rfl) (sr_d rfl hA (Runs.storeRow (E := 35) (sz := 1) (en := enU4) (b := b8) (off := o9) (k := a + q2) (n := n_l) (c := c_l) (v := Value.int .u32 y7) (y7 : Int) elt_U4 (by kernel_rfl) (by kernel_rfl) (by kernel_rfl) (by kernel_rfl) hW (i := 0) rfl (by first | omega | (simp; done) | (simp; omega)) (by first | rfl | omega | (simp; done) | (simp; omega)) ?_)); clear hA ac hW; intro w14 hW ac hA
           refine ⟨⟨fun h => absurd h (by decide), fun h => absurd h (by decide)⟩, ?_⟩
           refine sr_done (by kernel_rfl) ?_ _
           exact ⟨hA.sub ⟨⟨by kernel_rfl, by kernel_rfl⟩, ⟨by kernel_rfl, by kernel_rfl⟩, ⟨by kernel_rfl, by kernel_rfl⟩, ⟨by kernel_rfl, by kernel_rfl⟩, ⟨by kernel_rfl, by kernel_rfl⟩, ⟨by kernel_rfl, by kernel_rfl⟩, trivial⟩, (hW.pick [0] (by decide) rfl).pickG [] rfl⟩
         clear hA ac hW; rintro ac w15 ⟨hA, hW⟩
         refine thenN ?_
         refine wp_region_lit ?_
         refine st_p (Value.slice (some ⟨b8, o9, none⟩) n_l c_l) hA ?_; clear hA ac; intro ac hA
         refine st_p (Value.int .i64 0) hA ?_; clear hA ac; intro ac hA
         refine st_p (Value.int .i64 ((q2 : Nat) : Int)) hA ?_; clear hA ac; intro ac hA
         refine st_p (Value.int .i64 ((a : Nat) : Int)) hA ?_; clear hA ac; intro ac hA
         refine st_s hA (Runs.call (fun _ => by kernel_rfl) (e_sift (some ⟨b8, o9, none⟩) n_l c_l (List.set (List.set e a (y10 : Int)) (a + q2) (y7 : Int)) (0) (q2) (a) w15 ((hW).get 0 rfl) ((hW).lt _ (List.mem_of_getElem? (i := 0) rfl)) (by first | omega | (rw [set2_len]; omega)) (by first | omega | (rw [set2_len]; omega))) ?_)
         rintro _ w16 ⟨u17, rfl, hw16_hA, hw16_hL, hu_⟩; refine ⟨_, rfl, ?_⟩; replace hW := hW.upd (H' := [rowR 35 1 enU4 (Value.slice (some ⟨b8, o9, none⟩) n_l c_l) u17]) 0 rfl hu_ rfl; clear hA ac; intro ac hA
         refine wpList_nil ?_
         refine blkN ?_
         refine thenN ?_
         refine wp_region_lit ?_
         refine st_p (Value.int .i64 ((q2 : Nat) : Int)) hA ?_; clear hA ac; intro ac hA
         refine st_q (Value.int .i64 ((((q2 : Nat) : Int) : Int) - 1)) hA hW.cls (Rd.pureE (v0 := Value.int .i64 (IntKind.i64.wrap ((((q2 : Nat) : Int) : Int) - 1))) (fun _ => by kernel_rfl) (congrArg (Value.int .i64) ((w_i64 (x := (((q2 : Nat) : Int) : Int) - 1) (by omega) (by omega)).trans (by omega)))) ?_; clear hA ac; intro ac hA
         refine st_p (Value.int .i64 ((((q2 : Nat) : Int) : Int) - 1)) hA ?_; clear hA ac; intro ac hA
         refine wpList_nil ?_
         refine thenN ?_
         exact ⟨(q2) + 1, by omega, (((q2 : Nat) : Int) : Int) - 1, q2, u17, rfl, by omega, by rw [← hs2]; show _ = Sort.heapPop _ _ (q2 + 1) _; rw [Sort.heapPop, hw16_hA, arr_swp hy7 hy10], by rw [hw16_hL, set2_len]; exact hl2, hA.sub ⟨⟨by kernel_rfl, by kernel_rfl⟩, ⟨by kernel_rfl, by kernel_rfl⟩, ⟨by kernel_rfl, by kernel_rfl⟩, ⟨by kernel_rfl, by kernel_rfl⟩, trivial⟩, (hW.pick [0] (by decide) rfl).pickG [] rfl⟩)
     · skip
       have h6 := of_decide_eq_false h6
       first
       | (exfalso; clear hA hW; omega)
       | (
         refine wp_exit ?_
         refine thenX ?_
         refine thenX ?_
         refine blkX ?_
         refine ret0 (.inr rfl) rfl hA ?_
         clear hA
         exact ⟨e, rfl, by rw [show k2 = 0 from by omega] at hs2; exact hs2, by exact hl2, (hW.pick [0] (by decide) rfl).updDone 0 rfl⟩))

set_option maxRecDepth 100000 in
theorem e_rev (A_l : Option Addr) (n_l c_l : Nat) (l : List Int) (a : Nat) (b : Nat) (w : World) (ho_l : (srtR A_l n_l c_l l).p w) (hl_l : ∀ x_ ∈ (srtR A_l n_l c_l l).fp, x_ < w.heap.size) (hb : a < b ∧ b ≤ l.length) (hsz : l.length ≤ 1000000) : Calls Try.prog 59 #[Value.slice A_l n_l c_l, Value.int .i64 ((a : Nat) : Int), Value.int .i64 ((b : Nat) : Int)] w (fun e w' => ∃ l' : List Int, e = .returned (Value.tuple #[]) ∧ (l'.toArray = Sort.reverseRange l.toArray a b) ∧ (l'.length = l.length) ∧ Upd (srtR A_l n_l c_l l) (srtR A_l n_l c_l l') w w') := by
 have _hu := ho_l; have _hv := hl_l; clear _hu _hv
 have _hu := hb; clear _hu
 have _hu := hsz; clear _hu
 refine enter_E 32 Try.func59 rfl rfl (by kernel_rfl) (L := [(0, Value.slice A_l n_l c_l), (1, Value.int .i64 ((a : Nat) : Int)), (2, Value.int .i64 ((b : Nat) : Int))]) (by kernel_rfl) ?_
 intro ac hA
 have hW : Ws w (· ∈ (srtR A_l n_l c_l l).fp) [rowR 35 1 enU4 (Value.slice A_l n_l c_l) l] [] w := objW ho_l hl_l
 clear ho_l hl_l
 have hn_l : n_l = l.length := rowR_n (hW.get 0 rfl)
 refine wp_seq ?_
 refine wp_region_lit ?_
 refine st_p (Value.int .i64 ((a : Nat) : Int)) hA ?_; clear hA ac; intro ac hA
 refine st_p (Value.int .i64 ((a : Nat) : Int)) hA ?_; clear hA ac; intro ac hA
 refine wpList_nil ?_
 refine thenN ?_
 refine wp_seq ?_
 refine wp_region_lit ?_
 refine st_p (Value.int .i64 ((b : Nat) : Int)) hA ?_; clear hA ac; intro ac hA
 refine st_q (Value.int .i64 ((b - 1 : Nat) : Int)) hA hW.cls (Rd.pureE (v0 := Value.int .i64 (IntKind.i64.wrap ((((b : Nat) : Int) : Int) - 1))) (fun _ => by kernel_rfl) (congrArg (Value.int .i64) ((w_i64 (x := (((b : Nat) : Int) : Int) - 1) (by omega) (by omega)).trans (by omega)))) ?_; clear hA ac; intro ac hA
 refine st_p (Value.int .i64 ((b - 1 : Nat) : Int)) hA ?_; clear hA ac; intro ac hA
 refine wpList_nil ?_
 refine thenN ?_
 refine wp_block ?_
 refine wp_loop_m (fun m_ ac_ wl_ => ∃ i : Nat, ∃ j : Nat, ∃ d : List Int, m_ = j - i ∧ (j ≤ b - 1) ∧ (Sort.reverseLoop i j d.toArray = Sort.reverseRange l.toArray a b) ∧ (d.length = l.length) ∧ Fm 32 [] [(0, Value.slice A_l n_l c_l), (6, Value.int .i64 ((i : Nat) : Int)), (7, Value.int .i64 ((j : Nat) : Int))] ac_ ∧ Ws w (· ∈ (srtR A_l n_l c_l l).fp) [rowR 35 1 enU4 (Value.slice A_l n_l c_l) d] [] wl_) _ ⟨a, b - 1, l, rfl, by omega, by rfl, by rfl, hA.sub ⟨⟨by kernel_rfl, by kernel_rfl⟩, ⟨by kernel_rfl, by kernel_rfl⟩, ⟨by kernel_rfl, by kernel_rfl⟩, trivial⟩, (hW.pick [0] (by decide) rfl).pickG [] rfl⟩ ?_
 clear hA ac hW; rintro m_ ac w1 ⟨i, j, d, rfl, hij, hs, hl, hA, hW⟩
 refine wp_seq ?_
 refine wp_seq ?_
 refine wp_region_lit ?_
 refine st_p (Value.int .i64 ((i : Nat) : Int)) hA ?_; clear hA ac; intro ac hA
 refine st_p (Value.int .i64 ((j : Nat) : Int)) hA ?_; clear hA ac; intro ac hA
 refine st_p (Value.bool (decide ((((i : Nat) : Int) : Int) < (((j : Nat) : Int) : Int)))) hA ?_; clear hA ac; intro ac hA
 refine wpList_nil ?_
 refine thenN ?_
 refine wp_cond_split (t := decide ((((i : Nat) : Int) : Int) < (((j : Nat) : Int) : Int))) (hA.eval (by kernel_rfl)) (fun h2 => ?_) (fun h2 => ?_)
 · skip
   have h2 := of_decide_eq_true h2
   first
   | (exfalso; clear hA hW; omega)
   | (
     refine wp_skip ?_
     refine thenN ?_
     refine wp_block ?_
     refine wp_seq ?_
     obtain ⟨y3, hy3⟩ : ∃ y, d[i]? = some y := ⟨_, List.getElem?_eq_getElem (by omega)⟩
     obtain ⟨b4, o5, rfl, hbb4⟩ := row_some (rowR_at ((hW).get 0 rfl) elt_U4.len) hy3
     obtain ⟨y6, hy6⟩ : ∃ y, d[j]? = some y := ⟨_, List.getElem?_eq_getElem (by omega)⟩
     refine wp_cut (fun ac_ wl_ => Fm 32 [] [(0, Value.slice (some ⟨b4, o5, none⟩) n_l c_l), (6, Value.int .i64 ((i : Nat) : Int)), (7, Value.int .i64 ((j : Nat) : Int)), (11, Value.int .i64 ((i : Nat) : Int)), (12, Value.int .i64 ((j : Nat) : Int)), (13, Value.bool (decide ((((i : Nat) : Int) : Int) < (((j : Nat) : Int) : Int))))] ac_ ∧ Ws w (· ∈ (srtR (some ⟨b4, o5, none⟩) n_l c_l l).fp) [rowR 35 1 enU4 (Value.slice (some ⟨b4, o5, none⟩) n_l c_l) (List.set (List.set d i (y6 : Int)) j (y3 : Int))] [] wl_) ?_ ?_
     · refine sr_region (m := 16) (C := Ws w (· ∈ (srtR (some ⟨b4, o5, none⟩) n_l c_l l).fp) [rowR 35 1 enU4 (Value.slice (some ⟨b4, o5, none⟩) n_l c_l) d] []) (fun i => [7, 11].contains i) (fun i => [7, 11].contains i) (fun i => [0, 1, 2, 3, 4, 5, 6, 8, 9, 10, 12, 14].contains i) (by kernel_rfl) (by kernel_rfl) (by kernel_rfl) (by kernel_rfl) hW ?_; clear hW; intro w7 hW hfw7 hR; have hC : Ws w (· ∈ (srtR (some ⟨b4, o5, none⟩) n_l c_l l).fp) [rowR 35 1 enU4 (Value.slice (some ⟨b4, o5, none⟩) n_l c_l) d] [] w7 := hW.pick [0] (by decide) rfl
       refine sr_p 0 (Value.slice (some ⟨b4, o5, none⟩) n_l c_l) hR rfl hA ?_; clear hA ac; intro ac hA
       refine sr_p 1 (Value.int .i64 ((i : Nat) : Int)) hR rfl hA ?_; clear hA ac; intro ac hA
       refine sr_p 2 (Value.slice (some ⟨b4, o5, none⟩) n_l c_l) hR rfl hA ?_; clear hA ac; intro ac hA
       refine sr_p 3 (Value.int .i64 ((j : Nat) : Int)) hR rfl hA ?_; clear hA ac; intro ac hA
       refine sr_p 4 (Value.slice (some ⟨b4, o5, none⟩) n_l c_l) hR rfl hA ?_; clear hA ac; intro ac hA
       refine sr_p 5 (Value.int .i64 ((j : Nat) : Int)) hR rfl hA ?_; clear hA ac; intro ac hA
       refine sr_q 6 (Value.pointer (some ⟨b4, o5 + j * 1, none⟩)) hR rfl hA (Rd.indexAddr (e := 35) (sz := 1) (b := b4) (off := o5) (n := n_l) (c := c_l) (k := j) (by kernel_rfl) (by kernel_rfl) (by first | omega | (simp; done) | (simp; omega)) (fun _ => by kernel_rfl) (fun _ => by kernel_rfl)) ?_; clear hA ac; intro ac hA
       refine sr_t 7 (Value.int .u32 y6) hR rfl hA hC (Rd.loadRow (b := b4) (i := o5 + j * 1) (xs := [Value.int .u32 y6]) (by kernel_rfl) (fun _ hw => row_ld (rowR_at ((hw).get 0 rfl) elt_U4.len) hy6 (Fr.refl No _) (fun h => h) 0 1 (by kernel_rfl)) (by kernel_rfl)) ?_; clear hA ac; intro ac hA
       refine sr_p 8 (Value.slice (some ⟨b4, o5, none⟩) n_l c_l) hR rfl hA ?_; clear hA ac; intro ac hA
       refine sr_p 9 (Value.int .i64 ((i : Nat) : Int)) hR rfl hA ?_; clear hA ac; intro ac hA
       refine sr_q 10 (Value.pointer (some ⟨b4, o5 + i * 1, none⟩)) hR rfl hA (Rd.indexAddr (e := 35) (sz := 1) (b := b4) (off := o5) (n := n_l) (c := c_l) (k := i) (by kernel_rfl) (by kernel_rfl) (by first | omega | (simp; done) | (simp; omega)) (fun _ => by kernel_rfl) (fun _ => by kernel_rfl)) ?_; clear hA ac; intro ac hA
       refine sr_t 11 (Value.int .u32 y3) hR rfl hA hC (Rd.loadRow (b := b4) (i := o5 + i * 1) (xs := [Value.int .u32 y3]) (by kernel_rfl) (fun _ hw => row_ld (rowR_at ((hw).get 0 rfl) elt_U4.len) hy3 (Fr.refl No _) (fun h => h) 0 1 (by kernel_rfl)) (by kernel_rfl)) ?_; clear hA ac; intro ac hA
       refine sr_q 12 (Value.pointer (some ⟨b4, o5 + i * 1, none⟩)) hR rfl hA (Rd.indexAddr (e := 35) (sz := 1) (b := b4) (off := o5) (n := n_l) (c := c_l) (k := i) (by kernel_rfl) (by kernel_rfl) (by first | omega | (simp; done) | (simp; omega)) (fun _ => by kernel_rfl) (fun _ => by kernel_rfl)) ?_; clear hA ac; intro ac hA
       refine sr_one (i := 13) (by kernel_rfl) (sr_d rfl hA (Runs.storeRow (E := 35) (sz := 1) (en := enU4) (b := b4) (off := o5) (k := i) (n := n_l) (c := c_l) (v := Value.int .u32 y6) (y6 : Int) elt_U4 (by kernel_rfl) (by kernel_rfl) (by kernel_rfl) (by kernel_rfl) hW (i := 0) rfl (by first | omega | (simp; done) | (simp; omega)) (by first | rfl | omega | (simp; done) | (simp; omega)) ?_)); clear hA ac hW; intro w8 hW ac hA
       refine ⟨⟨fun h => absurd h (by decide), fun h => absurd h (by decide)⟩, ?_⟩
       obtain ⟨y9, hy9⟩ : ∃ y, (List.set d i (y6 : Int))[j]? = some y := ⟨_, List.getElem?_eq_getElem (by first | omega | (simp; done) | (simp; omega))⟩
       refine sr_q 14 (Value.pointer (some ⟨b4, o5 + j * 1, none⟩)) hR rfl hA (Rd.indexAddr (e := 35) (sz := 1) (b := b4) (off := o5) (n := n_l) (c := c_l) (k := j) (by kernel_rfl) (by kernel_rfl) (by first | omega | (simp; done) | (simp; omega)) (fun _ => by kernel_rfl) (fun _ => by kernel_rfl)) ?_; clear hA ac; intro ac hA
       refine sr_one (i := 15) (by kernel_rfl) (sr_d rfl hA (Runs.storeRow (E := 35) (sz := 1) (en := enU4) (b := b4) (off := o5) (k := j) (n := n_l) (c := c_l) (v := Value.int .u32 y3) (y3 : Int) elt_U4 (by kernel_rfl) (by kernel_rfl) (by kernel_rfl) (by kernel_rfl) hW (i := 0) rfl (by first | omega | (simp; done) | (simp; omega)) (by first | rfl | omega | (simp; done) | (simp; omega)) ?_)); clear hA ac hW; intro w10 hW ac hA
       refine ⟨⟨fun h => absurd h (by decide), fun h => absurd h (by decide)⟩, ?_⟩
       refine sr_done (by kernel_rfl) ?_ _
       exact ⟨hA.sub ⟨⟨by kernel_rfl, by kernel_rfl⟩, ⟨by kernel_rfl, by kernel_rfl⟩, ⟨by kernel_rfl, by kernel_rfl⟩, ⟨by kernel_rfl, by kernel_rfl⟩, ⟨by kernel_rfl, by kernel_rfl⟩, ⟨by kernel_rfl, by kernel_rfl⟩, trivial⟩, (hW.pick [0] (by decide) rfl).pickG [] rfl⟩
     clear hA ac hW; rintro ac w11 ⟨hA, hW⟩
     refine thenN ?_
     refine wp_seq ?_
     refine wp_region_lit ?_
     refine st_p (Value.int .i64 ((i : Nat) : Int)) hA ?_; clear hA ac; intro ac hA
     refine st_q (Value.int .i64 ((i + 1 : Nat) : Int)) hA hW.cls (Rd.pureE (v0 := Value.int .i64 (IntKind.i64.wrap ((((i : Nat) : Int) : Int) + 1))) (fun _ => by kernel_rfl) (congrArg (Value.int .i64) ((w_i64 (x := (((i : Nat) : Int) : Int) + 1) (by omega) (by omega)).trans (by omega)))) ?_; clear hA ac; intro ac hA
     refine st_p (Value.int .i64 ((i + 1 : Nat) : Int)) hA ?_; clear hA ac; intro ac hA
     refine wpList_nil ?_
     refine thenN ?_
     refine wp_region_lit ?_
     refine st_p (Value.int .i64 ((j : Nat) : Int)) hA ?_; clear hA ac; intro ac hA
     refine st_q (Value.int .i64 ((j - 1 : Nat) : Int)) hA hW.cls (Rd.pureE (v0 := Value.int .i64 (IntKind.i64.wrap ((((j : Nat) : Int) : Int) - 1))) (fun _ => by kernel_rfl) (congrArg (Value.int .i64) ((w_i64 (x := (((j : Nat) : Int) : Int) - 1) (by omega) (by omega)).trans (by omega)))) ?_; clear hA ac; intro ac hA
     refine st_p (Value.int .i64 ((j - 1 : Nat) : Int)) hA ?_; clear hA ac; intro ac hA
     refine wpList_nil ?_
     refine blkN ?_
     refine thenN ?_
     exact ⟨(j - 1) - (i + 1), by omega, i + 1, j - 1, List.set (List.set d i (y6 : Int)) j (y3 : Int), rfl, by omega, by rw [← hs]; exact (rev_step (by omega) hy3 hy6).symm, by rw [set2_len]; exact hl, hA.sub ⟨⟨by kernel_rfl, by kernel_rfl⟩, ⟨by kernel_rfl, by kernel_rfl⟩, ⟨by kernel_rfl, by kernel_rfl⟩, trivial⟩, (hW.pick [0] (by decide) rfl).pickG [] rfl⟩)
 · skip
   have h2 := of_decide_eq_false h2
   first
   | (exfalso; clear hA hW; omega)
   | (
     refine wp_exit ?_
     refine thenX ?_
     refine thenX ?_
     refine blkX ?_
     refine ret0 (.inr rfl) rfl hA ?_
     clear hA
     exact ⟨d, rfl, by rw [rev_end (by omega)] at hs; exact hs, by exact hl, (hW.pick [0] (by decide) rfl).updDone 0 rfl⟩)

end Go.Proofs.Ytcgcippmbeileaa.L
