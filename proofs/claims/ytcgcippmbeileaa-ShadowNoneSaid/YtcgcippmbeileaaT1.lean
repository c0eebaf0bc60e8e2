/- Contracts, walked by program over the engine's laws. -/
import Derived.Test.YtcgcippmbeileaaProg
import Derived.Test.YtcgcippmbeileaaOrd
import Derived.Test.YtcgcippmbeileaaE20
namespace Go.Proofs.Ytcgcippmbeileaa.L
open Go.RowKit

def enU4 (x : Int) : List Value := [.int .u32 x]
theorem elt_U4 : Elt Try.prog 35 1 enU4 := ⟨⟨Value.int .u32 0, 4, by kernel_rfl, rfl, by decide⟩, by decide, fun _ => rfl, fun x u hu => List.all_eq_true.1 (show (enU4 x).all (·.oneCell') = true from rfl) u hu⟩
/-- A row of the caller's own, which is turned. -/
def srtR (A : Option Addr) (n c : Nat) (l : List Int) : Res := rowR 35 1 enU4 (.slice A n c) l
set_option maxRecDepth 100000 in
theorem e_isnan (x : Int) (w : World)  : Calls Try.prog 73 #[Value.int .u32 x] w (fun e w' => e = .returned (Value.bool false) ∧ Fr No w w') := by
 refine enter_E 6 Try.func73 rfl rfl (by kernel_rfl) (L := [(0, Value.int .u32 x)]) (by kernel_rfl) ?_
 intro ac hA
 have hW := Ws.start w No
 refine wp_seq ?_
 refine wp_region_lit ?_
 refine st_rd (v := Value.bool false) hA (by kernel_rfl) (by kernel_rfl) (by kernel_rfl) hW.cls (Rd.pure fun _ => by kernel_rfl) ?_; clear hA ac; intro ac hA
 refine wpList_nil ?_
 refine thenN ?_
 refine wp_seq ?_
 refine wp_region_lit ?_
 refine st_rd (v := Value.int .u32 x) hA (by kernel_rfl) (by kernel_rfl) (by kernel_rfl) hW.cls (Rd.pure fun _ => by kernel_rfl) ?_; clear hA ac; intro ac hA
 refine st_rd (v := Value.int .u32 x) hA (by kernel_rfl) (by kernel_rfl) (by kernel_rfl) hW.cls (Rd.pure fun _ => by kernel_rfl) ?_; clear hA ac; intro ac hA
 refine st_rd (v := Value.bool ((x : Int) != (x : Int))) hA (by kernel_rfl) (by kernel_rfl) (by kernel_rfl) hW.cls (Rd.pure fun _ => by kernel_rfl) ?_; clear hA ac; intro ac hA
 refine st_rd (v := Value.bool ((x : Int) != (x : Int))) hA (by kernel_rfl) (by kernel_rfl) (by kernel_rfl) hW.cls (Rd.pure fun _ => by kernel_rfl) ?_; clear hA ac; intro ac hA
 refine wpList_nil ?_
 refine thenN ?_
 refine wp_ret ?_
 refine ret1 (v := Value.bool ((x : Int) != (x : Int))) (by rfl) hA (Got.tmp hA (by kernel_rfl) (by kernel_rfl)) ?_
 clear hA
 exact ⟨retv (by first | rfl | simp), hW.fr⟩

set_option maxRecDepth 100000 in
theorem e_less (x : Int) (y : Int) (w : World)  : Calls Try.prog 61 #[Value.int .u32 x, Value.int .u32 y] w (fun e w' => e = .returned (Value.bool (decide (x < y))) ∧ Fr No w w') := by
 refine enter_E 17 Try.func61 rfl rfl (by kernel_rfl) (L := [(0, Value.int .u32 x), (1, Value.int .u32 y)]) (by kernel_rfl) ?_
 intro ac hA
 have hW := Ws.start w No
 refine wp_seq ?_
 refine wp_region_lit ?_
 refine st_rd (v := Value.bool false) hA (by kernel_rfl) (by kernel_rfl) (by kernel_rfl) hW.cls (Rd.pure fun _ => by kernel_rfl) ?_; clear hA ac; intro ac hA
 refine wpList_nil ?_
 refine thenN ?_
 refine wp_seq ?_
 refine wp_region_lit ?_
 refine st_rd (v := Value.int .u32 x) hA (by kernel_rfl) (by kernel_rfl) (by kernel_rfl) hW.cls (Rd.pure fun _ => by kernel_rfl) ?_; clear hA ac; intro ac hA
 refine st hA (by kernel_rfl) (by kernel_rfl) (by kernel_rfl) (Runs.callN (v := Value.bool false) (fun _ => by kernel_rfl) hW (e_isnan (x) w) ?_); clear hA ac hW; intro w1 hW hfw1 ac hA
 refine st_rd (v := Value.bool false) hA (by kernel_rfl) (by kernel_rfl) (by kernel_rfl) hW.cls (Rd.pure fun _ => by kernel_rfl) ?_; clear hA ac; intro ac hA
 refine st_skip hA (by kernel_rfl) (by kernel_rfl) ?_; clear hA ac; intro ac hA
 refine st_skip hA (by kernel_rfl) (by kernel_rfl) ?_; clear hA ac; intro ac hA
 refine st_skip hA (by kernel_rfl) (by kernel_rfl) ?_; clear hA ac; intro ac hA
 refine st_rd (v := Value.bool false) hA (by kernel_rfl) (by kernel_rfl) (by kernel_rfl) hW.cls (Rd.pure fun _ => by kernel_rfl) ?_; clear hA ac; intro ac hA
 refine st_rd (v := Value.bool false) hA (by kernel_rfl) (by kernel_rfl) (by kernel_rfl) hW.cls (Rd.pure fun _ => by kernel_rfl) ?_; clear hA ac; intro ac hA
 refine st_rd (v := Value.int .u32 x) hA (by kernel_rfl) (by kernel_rfl) (by kernel_rfl) hW.cls (Rd.pure fun _ => by kernel_rfl) ?_; clear hA ac; intro ac hA
 refine st_rd (v := Value.int .u32 y) hA (by kernel_rfl) (by kernel_rfl) (by kernel_rfl) hW.cls (Rd.pure fun _ => by kernel_rfl) ?_; clear hA ac; intro ac hA
 refine st_rd (v := Value.bool (decide ((x : Int) < (y : Int)))) hA (by kernel_rfl) (by kernel_rfl) (by kernel_rfl) hW.cls (Rd.pure fun _ => by kernel_rfl) ?_; clear hA ac; intro ac hA
 refine st_rd (v := Value.bool (decide ((x : Int) < (y : Int)))) hA (by kernel_rfl) (by kernel_rfl) (by kernel_rfl) hW.cls (Rd.pure fun _ => by kernel_rfl) ?_; clear hA ac; intro ac hA
 refine st_rd (v := Value.bool (decide ((x : Int) < (y : Int)))) hA (by kernel_rfl) (by kernel_rfl) (by kernel_rfl) hW.cls (Rd.pure fun _ => by kernel_rfl) ?_; clear hA ac; intro ac hA
 refine wpList_nil ?_
 refine thenN ?_
 refine wp_ret ?_
 refine ret1 (v := Value.bool (decide ((x : Int) < (y : Int)))) (by rfl) hA (Got.tmp hA (by kernel_rfl) (by kernel_rfl)) ?_
 clear hA
 exact ⟨retv (by first | rfl | simp), hW.fr⟩

set_option maxRecDepth 100000 in
theorem e_ins (A_l : Option Addr) (n_l c_l : Nat) (l : List Int) (a : Nat) (b : Nat) (w : World) (ho_l : (srtR A_l n_l c_l l).p w) (hl_l : ∀ x_ ∈ (srtR A_l n_l c_l l).fp, x_ < w.heap.size) (hb : a ≤ b ∧ b ≤ l.length) (hsz : l.length ≤ 1000000) : Calls Try.prog 55 #[Value.slice A_l n_l c_l, Value.int .i64 ((a : Nat) : Int), Value.int .i64 ((b : Nat) : Int)] w (fun e w' => ∃ l' : List Int, e = .returned (Value.tuple #[]) ∧ (l'.toArray = Sort.insertionSort Sort.ltInt l.toArray a b) ∧ (l'.length = l.length) ∧ Upd (srtR A_l n_l c_l l) (srtR A_l n_l c_l l') w w') := by
 have _hu := ho_l; have _hv := hl_l; clear _hu _hv
 have _hu := hb; clear _hu
 have _hu := hsz; clear _hu
 refine enter_E 49 Try.func55 rfl rfl (by kernel_rfl) (L := [(0, Value.slice A_l n_l c_l), (1, Value.int .i64 ((a : Nat) : Int)), (2, Value.int .i64 ((b : Nat) : Int))]) (by kernel_rfl) ?_
 intro ac hA
 have hW : Ws w (· ∈ (srtR A_l n_l c_l l).fp) [rowR 35 1 enU4 (Value.slice A_l n_l c_l) l] [] w := objW ho_l hl_l
 clear ho_l hl_l
 have hn_l : n_l = l.length := rowR_n (hW.get 0 rfl)
 refine wp_seq ?_
 refine wp_region_lit ?_
 refine st_rd (v := Value.int .i64 ((a : Nat) : Int)) hA (by kernel_rfl) (by kernel_rfl) (by kernel_rfl) hW.cls (Rd.pure fun _ => by kernel_rfl) ?_; clear hA ac; intro ac hA
 refine st_rd (v := Value.int .i64 ((a + 1 : Nat) : Int)) hA (by kernel_rfl) (by kernel_rfl) (by kernel_rfl) hW.cls (Rd.pureE (v0 := Value.int .i64 (IntKind.i64.wrap ((((a : Nat) : Int) : Int) + 1))) (fun _ => by kernel_rfl) (congrArg (Value.int .i64) ((w_i64 (x := (((a : Nat) : Int) : Int) + 1) (by omega) (by omega)).trans (by omega)))) ?_; clear hA ac; intro ac hA
 refine st_rd (v := Value.int .i64 ((a + 1 : Nat) : Int)) hA (by kernel_rfl) (by kernel_rfl) (by kernel_rfl) hW.cls (Rd.pure fun _ => by kernel_rfl) ?_; clear hA ac; intro ac hA
 refine wpList_nil ?_
 refine thenN ?_
 refine wp_block ?_
 refine wp_loop_m (fun m_ ac_ wl_ => ∃ i : Nat, ∃ d1 : List Int, m_ = b - i ∧ (a + 1 ≤ i) ∧ (Sort.insOuter Sort.ltInt a b i d1.toArray = Sort.insertionSort Sort.ltInt l.toArray a b) ∧ (d1.length = l.length) ∧ Fm 49 [] [(0, Value.slice A_l n_l c_l), (1, Value.int .i64 ((a : Nat) : Int)), (2, Value.int .i64 ((b : Nat) : Int)), (6, Value.int .i64 ((i : Nat) : Int))] ac_ ∧ Ws w (· ∈ (srtR A_l n_l c_l l).fp) [rowR 35 1 enU4 (Value.slice A_l n_l c_l) d1] [] wl_) _ ⟨a + 1, l, rfl, by omega, by rfl, by rfl, hA.sub ⟨⟨by kernel_rfl, by kernel_rfl⟩, ⟨by kernel_rfl, by kernel_rfl⟩, ⟨by kernel_rfl, by kernel_rfl⟩, ⟨by kernel_rfl, by kernel_rfl⟩, trivial⟩, (hW.pick [0] (by decide) rfl).pickG [] rfl⟩ ?_
 clear hA ac hW; rintro m_ ac w1 ⟨i, d1, rfl, hij, hi1, hl1, hA, hW⟩
 refine wp_seq ?_
 refine wp_seq ?_
 refine wp_region_lit ?_
 refine st_rd (v := Value.int .i64 ((i : Nat) : Int)) hA (by kernel_rfl) (by kernel_rfl) (by kernel_rfl) hW.cls (Rd.pure fun _ => by kernel_rfl) ?_; clear hA ac; intro ac hA
 refine st_rd (v := Value.int .i64 ((b : Nat) : Int)) hA (by kernel_rfl) (by kernel_rfl) (by kernel_rfl) hW.cls (Rd.pure fun _ => by kernel_rfl) ?_; clear hA ac; intro ac hA
 refine st_rd (v := Value.bool (decide ((((i : Nat) : Int) : Int) < (((b : Nat) : Int) : Int)))) hA (by kernel_rfl) (by kernel_rfl) (by kernel_rfl) hW.cls (Rd.pure fun _ => by kernel_rfl) ?_; clear hA ac; intro ac hA
 refine wpList_nil ?_
 refine thenN ?_
 refine wp_cond_split (t := decide ((((i : Nat) : Int) : Int) < (((b : Nat) : Int) : Int))) (hA.eval (by kernel_rfl)) (fun h2 => ?_) (fun h2 => ?_)
 · skip
   have h2 := of_decide_eq_true h2
   first
   | (exfalso; clear hA hW; omega)
   | (
     refine wp_skip ?_
     refine thenN ?_
     refine wp_seq ?_
     refine wp_block ?_
     refine wp_seq ?_
     refine wp_region_lit ?_
     refine st_rd (v := Value.int .i64 ((i : Nat) : Int)) hA (by kernel_rfl) (by kernel_rfl) (by kernel_rfl) hW.cls (Rd.pure fun _ => by kernel_rfl) ?_; clear hA ac; intro ac hA
     refine st_rd (v := Value.int .i64 ((i : Nat) : Int)) hA (by kernel_rfl) (by kernel_rfl) (by kernel_rfl) hW.cls (Rd.pure fun _ => by kernel_rfl) ?_; clear hA ac; intro ac hA
     refine wpList_nil ?_
     refine thenN ?_
     refine wp_block ?_
     refine wp_loop_m (fun m_ ac_ wl_ => ∃ j : Nat, ∃ d2 : List Int, m_ = j + 1 ∧ (j ≤ i) ∧ (Sort.insInner Sort.ltInt a j d2.toArray = Sort.insInner Sort.ltInt a i d1.toArray) ∧ (d2.length = l.length) ∧ Fm 49 [] [(0, Value.slice A_l n_l c_l), (1, Value.int .i64 ((a : Nat) : Int)), (2, Value.int .i64 ((b : Nat) : Int)), (6, Value.int .i64 ((i : Nat) : Int)), (7, Value.int .i64 ((j : Nat) : Int))] ac_ ∧ Ws w (· ∈ (srtR A_l n_l c_l l).fp) [rowR 35 1 enU4 (Value.slice A_l n_l c_l) d2] [] wl_) _ ⟨i, d1, rfl, by omega, by rfl, by exact hl1, hA.sub ⟨⟨by kernel_rfl, by kernel_rfl⟩, ⟨by kernel_rfl, by kernel_rfl⟩, ⟨by kernel_rfl, by kernel_rfl⟩, ⟨by kernel_rfl, by kernel_rfl⟩, ⟨by kernel_rfl, by kernel_rfl⟩, trivial⟩, (hW.pick [0] (by decide) rfl).pickG [] rfl⟩ ?_
     clear hA ac hW; rintro m_ ac w3 ⟨j, d2, rfl, hj, hi2, hl2, hA, hW⟩
     refine wp_seq ?_
     refine wp_seq ?_
     refine q_region (by kernel_rfl) (by kernel_rfl) hW ?_
     refine sq_rd (v := Value.int .i64 ((j : Nat) : Int)) hA (by kernel_rfl) (by kernel_rfl) (by kernel_rfl) (Rd.pure fun _ => by kernel_rfl) ?_; clear hA ac; intro ac hA
     refine sq_rd (v := Value.int .i64 ((a : Nat) : Int)) hA (by kernel_rfl) (by kernel_rfl) (by kernel_rfl) (Rd.pure fun _ => by kernel_rfl) ?_; clear hA ac; intro ac hA
     refine sq_rd (v := Value.bool (decide ((((j : Nat) : Int) : Int) > (((a : Nat) : Int) : Int)))) hA (by kernel_rfl) (by kernel_rfl) (by kernel_rfl) (Rd.pure fun _ => by kernel_rfl) ?_; clear hA ac; intro ac hA
     refine sq_rd (v := Value.bool (decide ((((j : Nat) : Int) : Int) > (((a : Nat) : Int) : Int)))) hA (by kernel_rfl) (by kernel_rfl) (by kernel_rfl) (Rd.pure fun _ => by kernel_rfl) ?_; clear hA ac; intro ac hA
     rcases Bool.eq_false_or_eq_true (decide ((((j : Nat) : Int) : Int) > (((a : Nat) : Int) : Int))) with h4 | h4
     · skip
       rw [h4] at hA
       have h4 := of_decide_eq_true h4
       first
       | (exfalso; clear hA hW; omega)
       | (
         refine sq_rd (v := Value.slice A_l n_l c_l) hA (by kernel_rfl) (by kernel_rfl) (by kernel_rfl) (Rd.pure fun _ => by kernel_rfl) ?_; clear hA ac; intro ac hA
         refine sq_rd (v := Value.int .i64 ((j : Nat) : Int)) hA (by kernel_rfl) (by kernel_rfl) (by kernel_rfl) (Rd.pure fun _ => by kernel_rfl) ?_; clear hA ac; intro ac hA
         obtain ⟨y5, hy5⟩ : ∃ y, d2[j]? = some y := ⟨_, List.getElem?_eq_getElem (by first | omega | (simp; done) | (simp; omega))⟩
         obtain ⟨b6, o7, rfl, hbb6⟩ := row_some (rowR_at ((hW).get 0 rfl) elt_U4.len) hy5
         refine sq_rd (v := Value.pointer (some ⟨b6, o7 + j * 1, none⟩)) hA (by kernel_rfl) (by kernel_rfl) (by kernel_rfl) (Rd.indexAddr (e := 35) (sz := 1) (b := b6) (off := o7) (n := n_l) (c := c_l) (k := j) (by kernel_rfl) (by kernel_rfl) (by first | omega | (simp; done) | (simp; omega)) (fun _ => by kernel_rfl) (fun _ => by kernel_rfl)) ?_; clear hA ac; intro ac hA
         refine sq_rd (v := Value.int .u32 y5) hA (by kernel_rfl) (by kernel_rfl) (by kernel_rfl) (Rd.loadRow (b := b6) (i := o7 + j * 1) (xs := [Value.int .u32 y5]) (by kernel_rfl) (fun _ hw => row_ld (rowR_at ((hw.1).get 0 rfl) elt_U4.len) hy5 (Fr.refl No _) (fun h => h) 0 1 (by kernel_rfl)) (by kernel_rfl)) ?_; clear hA ac; intro ac hA
         refine sq_rd (v := Value.slice (some ⟨b6, o7, none⟩) n_l c_l) hA (by kernel_rfl) (by kernel_rfl) (by kernel_rfl) (Rd.pure fun _ => by kernel_rfl) ?_; clear hA ac; intro ac hA
         refine sq_rd (v := Value.int .i64 ((j : Nat) : Int)) hA (by kernel_rfl) (by kernel_rfl) (by kernel_rfl) (Rd.pure fun _ => by kernel_rfl) ?_; clear hA ac; intro ac hA
         refine sq_rd (v := Value.int .i64 ((j - 1 : Nat) : Int)) hA (by kernel_rfl) (by kernel_rfl) (by kernel_rfl) (Rd.pureE (v0 := Value.int .i64 (IntKind.i64.wrap ((((j : Nat) : Int) : Int) - 1))) (fun _ => by kernel_rfl) (congrArg (Value.int .i64) ((w_i64 (x := (((j : Nat) : Int) : Int) - 1) (by omega) (by omega)).trans (by omega)))) ?_; clear hA ac; intro ac hA
         obtain ⟨y8, hy8⟩ : ∃ y, d2[j - 1]? = some y := ⟨_, List.getElem?_eq_getElem (by first | omega | (simp; done) | (simp; omega))⟩
         refine sq_rd (v := Value.pointer (some ⟨b6, o7 + (j - 1) * 1, none⟩)) hA (by kernel_rfl) (by kernel_rfl) (by kernel_rfl) (Rd.indexAddr (e := 35) (sz := 1) (b := b6) (off := o7) (n := n_l) (c := c_l) (k := j - 1) (by kernel_rfl) (by kernel_rfl) (by first | omega | (simp; done) | (simp; omega)) (fun _ => by kernel_rfl) (fun _ => by kernel_rfl)) ?_; clear hA ac; intro ac hA
         refine sq_rd (v := Value.int .u32 y8) hA (by kernel_rfl) (by kernel_rfl) (by kernel_rfl) (Rd.loadRow (b := b6) (i := o7 + (j - 1) * 1) (xs := [Value.int .u32 y8]) (by kernel_rfl) (fun _ hw => row_ld (rowR_at ((hw.1).get 0 rfl) elt_U4.len) hy8 (Fr.refl No _) (fun h => h) 0 1 (by kernel_rfl)) (by kernel_rfl)) ?_; clear hA ac; intro ac hA
         refine sq_call (v := Value.bool (decide ((y5) < (y8)))) hA (by kernel_rfl) (by kernel_rfl) (by kernel_rfl) (fun _ => by kernel_rfl) (Cls.callNC fun wx hwx => e_less (y5) (y8) wx) ?_; clear hA ac; intro ac hA
         refine sq_rd (v := Value.bool (decide ((y5) < (y8)))) hA (by kernel_rfl) (by kernel_rfl) (by kernel_rfl) (Rd.pure fun _ => by kernel_rfl) ?_; clear hA ac; intro ac hA
         refine sq_nil ?_; intro w9 hww9; have hW := hww9.1; have hfw9 := hww9.2; clear hww9
         refine thenN ?_
         refine wp_cond_split (t := decide ((y5) < (y8))) (hA.eval (by kernel_rfl)) (fun h10 => ?_) (fun h10 => ?_)
         · skip
           have h10 := of_decide_eq_true h10
           first
           | (exfalso; clear hA hW; omega)
           | (
             refine wp_skip ?_
             refine thenN ?_
             refine wp_seq ?_
             refine wp_block ?_
             refine wp_cut (fun ac_ wl_ => Fm 49 [] [(0, Value.slice (some ⟨b6, o7, none⟩) n_l c_l), (1, Value.int .i64 ((a : Nat) : Int)), (2, Value.int .i64 ((b : Nat) : Int)), (6, Value.int .i64 ((i : Nat) : Int)), (7, Value.int .i64 ((j : Nat) : Int)), (16, Value.int .i64 ((j : Nat) : Int)), (17, Value.int .i64 ((a : Nat) : Int)), (18, Value.bool true), (19, Value.bool true), (20, Value.slice (some ⟨b6, o7, none⟩) n_l c_l), (21, Value.int .i64 ((j : Nat) : Int)), (22, Value.pointer (some ⟨b6, o7 + j * 1, none⟩)), (23, Value.int .u32 y5), (24, Value.slice (some ⟨b6, o7, none⟩) n_l c_l), (25, Value.int .i64 ((j : Nat) : Int)), (26, Value.int .i64 ((j - 1 : Nat) : Int)), (27, Value.pointer (some ⟨b6, o7 + (j - 1) * 1, none⟩)), (28, Value.int .u32 y8), (29, Value.bool (decide ((y5) < (y8)))), (30, Value.bool (decide ((y5) < (y8))))] ac_ ∧ Ws w (· ∈ (srtR (some ⟨b6, o7, none⟩) n_l c_l l).fp) [rowR 35 1 enU4 (Value.slice (some ⟨b6, o7, none⟩) n_l c_l) (List.set (List.set d2 j (y8 : Int)) (j - 1) (y5 : Int))] [] wl_) ?_ ?_
             · refine sr_region (m := 18) (C := Ws w (· ∈ (srtR (some ⟨b6, o7, none⟩) n_l c_l l).fp) [rowR 35 1 enU4 (Value.slice (some ⟨b6, o7, none⟩) n_l c_l) d2] []) (fun i => [9, 13].contains i) (fun i => [9, 13].contains i) (fun i => [0, 1, 2, 3, 4, 5, 6, 7, 8, 10, 11, 12, 14, 16].contains i) (by kernel_rfl) (by kernel_rfl) (by kernel_rfl) (by kernel_rfl) hW ?_; clear hW; intro w11 hW hfw11 hR; have hC : Ws w (· ∈ (srtR (some ⟨b6, o7, none⟩) n_l c_l l).fp) [rowR 35 1 enU4 (Value.slice (some ⟨b6, o7, none⟩) n_l c_l) d2] [] w11 := hW.pick [0] (by decide) rfl
               refine sr_pure (i := 0) (v := Value.slice (some ⟨b6, o7, none⟩) n_l c_l) hR (by kernel_rfl) rfl (by kernel_rfl) (by kernel_rfl) (fun _ _ _ h => h.elim) hA (by kernel_rfl) (by kernel_rfl) (by kernel_rfl) (Rd.pure fun _ => by kernel_rfl) ?_; clear hA ac; intro ac hA
               refine sr_pure (i := 1) (v := Value.int .i64 ((j : Nat) : Int)) hR (by kernel_rfl) rfl (by kernel_rfl) (by kernel_rfl) (fun _ _ _ h => h.elim) hA (by kernel_rfl) (by kernel_rfl) (by kernel_rfl) (Rd.pure fun _ => by kernel_rfl) ?_; clear hA ac; intro ac hA
               refine sr_pure (i := 2) (v := Value.slice (some ⟨b6, o7, none⟩) n_l c_l) hR (by kernel_rfl) rfl (by kernel_rfl) (by kernel_rfl) (fun _ _ _ h => h.elim) hA (by kernel_rfl) (by kernel_rfl) (by kernel_rfl) (Rd.pure fun _ => by kernel_rfl) ?_; clear hA ac; intro ac hA
               refine sr_pure (i := 3) (v := Value.int .i64 ((j : Nat) : Int)) hR (by kernel_rfl) rfl (by kernel_rfl) (by kernel_rfl) (fun _ _ _ h => h.elim) hA (by kernel_rfl) (by kernel_rfl) (by kernel_rfl) (Rd.pure fun _ => by kernel_rfl) ?_; clear hA ac; intro ac hA
               refine sr_pure (i := 4) (v := Value.int .i64 ((j - 1 : Nat) : Int)) hR (by kernel_rfl) rfl (by kernel_rfl) (by kernel_rfl) (fun _ _ _ h => h.elim) hA (by kernel_rfl) (by kernel_rfl) (by kernel_rfl) (Rd.pureE (v0 := Value.int .i64 (IntKind.i64.wrap ((((j : Nat) : Int) : Int) - 1))) (fun _ => by kernel_rfl) (congrArg (Value.int .i64) ((w_i64 (x := (((j : Nat) : Int) : Int) - 1) (by omega) (by omega)).trans (by omega)))) ?_; clear hA ac; intro ac hA
               refine sr_pure (i := 5) (v := Value.slice (some ⟨b6, o7, none⟩) n_l c_l) hR (by kernel_rfl) rfl (by kernel_rfl) (by kernel_rfl) (fun _ _ _ h => h.elim) hA (by kernel_rfl) (by kernel_rfl) (by kernel_rfl) (Rd.pure fun _ => by kernel_rfl) ?_; clear hA ac; intro ac hA
               refine sr_pure (i := 6) (v := Value.int .i64 ((j : Nat) : Int)) hR (by kernel_rfl) rfl (by kernel_rfl) (by kernel_rfl) (fun _ _ _ h => h.elim) hA (by kernel_rfl) (by kernel_rfl) (by kernel_rfl) (Rd.pure fun _ => by kernel_rfl) ?_; clear hA ac; intro ac hA
               refine sr_pure (i := 7) (v := Value.int .i64 ((j - 1 : Nat) : Int)) hR (by kernel_rfl) rfl (by kernel_rfl) (by kernel_rfl) (fun _ _ _ h => h.elim) hA (by kernel_rfl) (by kernel_rfl) (by kernel_rfl) (Rd.pureE (v0 := Value.int .i64 (IntKind.i64.wrap ((((j : Nat) : Int) : Int) - 1))) (fun _ => by kernel_rfl) (congrArg (Value.int .i64) ((w_i64 (x := (((j : Nat) : Int) : Int) - 1) (by omega) (by omega)).trans (by omega)))) ?_; clear hA ac; intro ac hA
               refine sr_pure (i := 8) (v := Value.pointer (some ⟨b6, o7 + (j - 1) * 1, none⟩)) hR (by kernel_rfl) rfl (by kernel_rfl) (by kernel_rfl) (fun _ _ _ h => h.elim) hA (by kernel_rfl) (by kernel_rfl) (by kernel_rfl) (Rd.indexAddr (e := 35) (sz := 1) (b := b6) (off := o7) (n := n_l) (c := c_l) (k := j - 1) (by kernel_rfl) (by kernel_rfl) (by first | omega | (simp; done) | (simp; omega)) (fun _ => by kernel_rfl) (fun _ => by kernel_rfl)) ?_; clear hA ac; intro ac hA
               refine sr_take (i := 9) (v := Value.int .u32 y8) hR (by kernel_rfl) rfl (by kernel_rfl) (by kernel_rfl) (by kernel_rfl) (fun _ _ _ h => h.elim) hA (by kernel_rfl) (by kernel_rfl) (by kernel_rfl) hC (Rd.loadRow (b := b6) (i := o7 + (j - 1) * 1) (xs := [Value.int .u32 y8]) (by kernel_rfl) (fun _ hw => row_ld (rowR_at ((hw).get 0 rfl) elt_U4.len) hy8 (Fr.refl No _) (fun h => h) 0 1 (by kernel_rfl)) (by kernel_rfl)) ?_; clear hA ac; intro ac hA
               refine sr_pure (i := 10) (v := Value.slice (some ⟨b6, o7, none⟩) n_l c_l) hR (by kernel_rfl) rfl (by kernel_rfl) (by kernel_rfl) (fun _ _ _ h => h.elim) hA (by kernel_rfl) (by kernel_rfl) (by kernel_rfl) (Rd.pure fun _ => by kernel_rfl) ?_; clear hA ac; intro ac hA
               refine sr_pure (i := 11) (v := Value.int .i64 ((j : Nat) : Int)) hR (by kernel_rfl) rfl (by kernel_rfl) (by kernel_rfl) (fun _ _ _ h => h.elim) hA (by kernel_rfl) (by kernel_rfl) (by kernel_rfl) (Rd.pure fun _ => by kernel_rfl) ?_; clear hA ac; intro ac hA
               refine sr_pure (i := 12) (v := Value.pointer (some ⟨b6, o7 + j * 1, none⟩)) hR (by kernel_rfl) rfl (by kernel_rfl) (by kernel_rfl) (fun _ _ _ h => h.elim) hA (by kernel_rfl) (by kernel_rfl) (by kernel_rfl) (Rd.indexAddr (e := 35) (sz := 1) (b := b6) (off := o7) (n := n_l) (c := c_l) (k := j) (by kernel_rfl) (by kernel_rfl) (by first | omega | (simp; done) | (simp; omega)) (fun _ => by kernel_rfl) (fun _ => by kernel_rfl)) ?_; clear hA ac; intro ac hA
               refine sr_take (i := 13) (v := Value.int .u32 y5) hR (by kernel_rfl) rfl (by kernel_rfl) (by kernel_rfl) (by kernel_rfl) (fun _ _ _ h => h.elim) hA (by kernel_rfl) (by kernel_rfl) (by kernel_rfl) hC (Rd.loadRow (b := b6) (i := o7 + j * 1) (xs := [Value.int .u32 y5]) (by kernel_rfl) (fun _ hw => row_ld (rowR_at ((hw).get 0 rfl) elt_U4.len) hy5 (Fr.refl No _) (fun h => h) 0 1 (by kernel_rfl)) (by kernel_rfl)) ?_; clear hA ac; intro ac hA
               refine sr_pure (i := 14) (v := Value.pointer (some ⟨b6, o7 + j * 1, none⟩)) hR (by kernel_rfl) rfl (by kernel_rfl) (by kernel_rfl) (fun _ _ _ h => h.elim) hA (by kernel_rfl) (by kernel_rfl) (by kernel_rfl) (Rd.indexAddr (e := 35) (sz := 1) (b := b6) (off := o7) (n := n_l) (c := c_l) (k := j) (by kernel_rfl) (by kernel_rfl) (by first | omega | (simp; done) | (simp; omega)) (fun _ => by kernel_rfl) (fun _ => by kernel_rfl)) ?_; clear hA ac; intro ac hA
               refine sr_one (i := 15) (by kernel_rfl) (sr_do rfl hA (by kernel_rfl) (by kernel_rfl) (by kernel_rfl) (Runs.storeRow (E := 35) (sz := 1) (en := enU4) (b := b6) (off := o7) (k := j) (n := n_l) (c := c_l) (v := Value.int .u32 y8) (y8 : Int) elt_U4 (by kernel_rfl) (by kernel_rfl) (by kernel_rfl) (by kernel_rfl) hW (i := 0) rfl (by first | omega | (simp; done) | (simp; omega)) (by first | rfl | omega | (simp; done) | (simp; omega)) ?_)); clear hA ac hW; intro w12 hW ac hA
               refine ⟨⟨fun h => absurd h (by decide), fun h => absurd h (by decide)⟩, ?_⟩
               obtain ⟨y13, hy13⟩ : ∃ y, (List.set d2 j (y8 : Int))[j - 1]? = some y := ⟨_, List.getElem?_eq_getElem (by first | omega | (simp; done) | (simp; omega))⟩
               refine sr_pure (i := 16) (v := Value.pointer (some ⟨b6, o7 + (j - 1) * 1, none⟩)) hR (by kernel_rfl) rfl (by kernel_rfl) (by kernel_rfl) (fun _ _ _ h => h.elim) hA (by kernel_rfl) (by kernel_rfl) (by kernel_rfl) (Rd.indexAddr (e := 35) (sz := 1) (b := b6) (off := o7) (n := n_l) (c := c_l) (k := j - 1) (by kernel_rfl) (by kernel_rfl) (by first | omega | (simp; done) | (simp; omega)) (fun _ => by kernel_rfl) (fun _ => by kernel_rfl)) ?_; clear hA ac; intro ac hA
               refine sr_one (i := 17) (by kernel_rfl) (sr_do rfl hA (by kernel_rfl) (by kernel_rfl) (by kernel_rfl) (Runs.storeRow (E := 35) (sz := 1) (en := enU4) (b := b6) (off := o7) (k := j - 1) (n := n_l) (c := c_l) (v := Value.int .u32 y5) (y5 : Int) elt_U4 (by kernel_rfl) (by kernel_rfl) (by kernel_rfl) (by kernel_rfl) hW (i := 0) rfl (by first | omega | (simp; done) | (simp; omega)) (by first | rfl | omega | (simp; done) | (simp; omega)) ?_)); clear hA ac hW; intro w14 hW ac hA
               refine ⟨⟨fun h => absurd h (by decide), fun h => absurd h (by decide)⟩, ?_⟩
               refine sr_done (by kernel_rfl) ?_ _
               exact ⟨hA.sub ⟨⟨by kernel_rfl, by kernel_rfl⟩, ⟨by kernel_rfl, by kernel_rfl⟩, ⟨by kernel_rfl, by kernel_rfl⟩, ⟨by kernel_rfl, by kernel_rfl⟩, ⟨by kernel_rfl, by kernel_rfl⟩, ⟨by kernel_rfl, by kernel_rfl⟩, ⟨by kernel_rfl, by kernel_rfl⟩, ⟨by kernel_rfl, by kernel_rfl⟩, ⟨by kernel_rfl, by kernel_rfl⟩, ⟨by kernel_rfl, by kernel_rfl⟩, ⟨by kernel_rfl, by kernel_rfl⟩, ⟨by kernel_rfl, by kernel_rfl⟩, ⟨by kernel_rfl, by kernel_rfl⟩, ⟨by kernel_rfl, by kernel_rfl⟩, ⟨by kernel_rfl, by kernel_rfl⟩, ⟨by kernel_rfl, by kernel_rfl⟩, ⟨by kernel_rfl, by kernel_rfl⟩, ⟨by kernel_rfl, by kernel_rfl⟩, ⟨by kernel_rfl, by kernel_rfl⟩, ⟨by kernel_rfl, by kernel_rfl⟩, trivial⟩, (hW.pick [0] (by decide) rfl).pickG [] rfl⟩
             clear hA ac hW; rintro ac w15 ⟨hA, hW⟩
             refine blkN ?_
             refine thenN ?_
             refine wp_region_lit ?_
             refine st_rd (v := Value.int .i64 ((j : Nat) : Int)) hA (by kernel_rfl) (by kernel_rfl) (by kernel_rfl) hW.cls (Rd.pure fun _ => by kernel_rfl) ?_; clear hA ac; intro ac hA
             refine st_rd (v := Value.int .i64 ((j - 1 : Nat) : Int)) hA (by kernel_rfl) (by kernel_rfl) (by kernel_rfl) hW.cls (Rd.pureE (v0 := Value.int .i64 (IntKind.i64.wrap ((((j : Nat) : Int) : Int) - 1))) (fun _ => by kernel_rfl) (congrArg (Value.int .i64) ((w_i64 (x := (((j : Nat) : Int) : Int) - 1) (by omega) (by omega)).trans (by omega)))) ?_; clear hA ac; intro ac hA
             refine st_rd (v := Value.int .i64 ((j - 1 : Nat) : Int)) hA (by kernel_rfl) (by kernel_rfl) (by kernel_rfl) hW.cls (Rd.pure fun _ => by kernel_rfl) ?_; clear hA ac; intro ac hA
             refine wpList_nil ?_
             refine thenN ?_
             exact ⟨(j - 1) + 1, by omega, j - 1, List.set (List.set d2 j (y8 : Int)) (j - 1) (y5 : Int), rfl, by omega, by rw [← hi2]; exact (insI_step (by omega) hy5 hy8 (by omega)).symm, by rw [set2_len]; exact hl2, hA.sub ⟨⟨by kernel_rfl, by kernel_rfl⟩, ⟨by kernel_rfl, by kernel_rfl⟩, ⟨by kernel_rfl, by kernel_rfl⟩, ⟨by kernel_rfl, by kernel_rfl⟩, ⟨by kernel_rfl, by kernel_rfl⟩, trivial⟩, (hW.pick [0] (by decide) rfl).pickG [] rfl⟩)
         · skip
           have h10 := of_decide_eq_false h10
           first
           | (exfalso; clear hA hW; omega)
           | (
             refine wp_exit ?_
             refine thenX ?_
             refine thenX ?_
             refine blkX ?_
             refine blkN ?_
             refine thenN ?_
             refine wp_region_lit ?_
             refine st_rd (v := Value.int .i64 ((i : Nat) : Int)) hA (by kernel_rfl) (by kernel_rfl) (by kernel_rfl) hW.cls (Rd.pure fun _ => by kernel_rfl) ?_; clear hA ac; intro ac hA
             refine st_rd (v := Value.int .i64 ((i + 1 : Nat) : Int)) hA (by kernel_rfl) (by kernel_rfl) (by kernel_rfl) hW.cls (Rd.pureE (v0 := Value.int .i64 (IntKind.i64.wrap ((((i : Nat) : Int) : Int) + 1))) (fun _ => by kernel_rfl) (congrArg (Value.int .i64) ((w_i64 (x := (((i : Nat) : Int) : Int) + 1) (by omega) (by omega)).trans (by omega)))) ?_; clear hA ac; intro ac hA
             refine st_rd (v := Value.int .i64 ((i + 1 : Nat) : Int)) hA (by kernel_rfl) (by kernel_rfl) (by kernel_rfl) hW.cls (Rd.pure fun _ => by kernel_rfl) ?_; clear hA ac; intro ac hA
             refine wpList_nil ?_
             refine thenN ?_
             exact ⟨b - (i + 1), by omega, i + 1, d2, rfl, by omega, by refine Eq.trans ?_ hi1; rw [insO_step (i := i) (d := d1) (by omega), ← hi2, insI_end (by omega) hy5 hy8 (by omega)], by exact hl2, hA.sub ⟨⟨by kernel_rfl, by kernel_rfl⟩, ⟨by kernel_rfl, by kernel_rfl⟩, ⟨by kernel_rfl, by kernel_rfl⟩, ⟨by kernel_rfl, by kernel_rfl⟩, trivial⟩, (hW.pick [0] (by decide) rfl).pickG [] rfl⟩))
     · skip
       rw [h4] at hA
       have h4 := of_decide_eq_false h4
       first
       | (exfalso; clear hA hW; omega)
       | (
         refine sq_skip hA (by kernel_rfl) (by kernel_rfl) ?_; clear hA ac; intro ac hA
         refine sq_skip hA (by kernel_rfl) (by kernel_rfl) ?_; clear hA ac; intro ac hA
         refine sq_skip hA (by kernel_rfl) (by kernel_rfl) ?_; clear hA ac; intro ac hA
         refine sq_skip hA (by kernel_rfl) (by kernel_rfl) ?_; clear hA ac; intro ac hA
         refine sq_skip hA (by kernel_rfl) (by kernel_rfl) ?_; clear hA ac; intro ac hA
         refine sq_skip hA (by kernel_rfl) (by kernel_rfl) ?_; clear hA ac; intro ac hA
         refine sq_skip hA (by kernel_rfl) (by kernel_rfl) ?_; clear hA ac; intro ac hA
         refine sq_skip hA (by kernel_rfl) (by kernel_rfl) ?_; clear hA ac; intro ac hA
         refine sq_skip hA (by kernel_rfl) (by kernel_rfl) ?_; clear hA ac; intro ac hA
         refine sq_skip hA (by kernel_rfl) (by kernel_rfl) ?_; clear hA ac; intro ac hA
         refine sq_rd (v := Value.bool false) hA (by kernel_rfl) (by kernel_rfl) (by kernel_rfl) (Rd.pure fun _ => by kernel_rfl) ?_; clear hA ac; intro ac hA
         refine sq_nil ?_; intro w16 hww16; have hW := hww16.1; have hfw16 := hww16.2; clear hww16
         refine thenN ?_
         refine wp_cond_false (hA.eval (by kernel_rfl)) ?_
         refine wp_exit ?_
         refine thenX ?_
         refine thenX ?_
         refine blkX ?_
         refine blkN ?_
         refine thenN ?_
         refine wp_region_lit ?_
         refine st_rd (v := Value.int .i64 ((i : Nat) : Int)) hA (by kernel_rfl) (by kernel_rfl) (by kernel_rfl) hW.cls (Rd.pure fun _ => by kernel_rfl) ?_; clear hA ac; intro ac hA
         refine st_rd (v := Value.int .i64 ((i + 1 : Nat) : Int)) hA (by kernel_rfl) (by kernel_rfl) (by kernel_rfl) hW.cls (Rd.pureE (v0 := Value.int .i64 (IntKind.i64.wrap ((((i : Nat) : Int) : Int) + 1))) (fun _ => by kernel_rfl) (congrArg (Value.int .i64) ((w_i64 (x := (((i : Nat) : Int) : Int) + 1) (by omega) (by omega)).trans (by omega)))) ?_; clear hA ac; intro ac hA
         refine st_rd (v := Value.int .i64 ((i + 1 : Nat) : Int)) hA (by kernel_rfl) (by kernel_rfl) (by kernel_rfl) hW.cls (Rd.pure fun _ => by kernel_rfl) ?_; clear hA ac; intro ac hA
         refine wpList_nil ?_
         refine thenN ?_
         exact ⟨b - (i + 1), by omega, i + 1, d2, rfl, by omega, by refine Eq.trans ?_ hi1; rw [insO_step (i := i) (d := d1) (by omega), ← hi2, insI_low (by omega)], by exact hl2, hA.sub ⟨⟨by kernel_rfl, by kernel_rfl⟩, ⟨by kernel_rfl, by kernel_rfl⟩, ⟨by kernel_rfl, by kernel_rfl⟩, ⟨by kernel_rfl, by kernel_rfl⟩, trivial⟩, (hW.pick [0] (by decide) rfl).pickG [] rfl⟩))
 · skip
   have h2 := of_decide_eq_false h2
   first
   | (exfalso; clear hA hW; omega)
   | (
     refine wp_exit ?_
     refine thenX ?_
     refine thenX ?_
     refine blkX ?_
     refine ret0 (.inr rfl) rfl hA ?_
     clear hA
     exact ⟨d1, rfl, by rw [insO_end (by omega)] at hi1; exact hi1, by exact hl1, (hW.pick [0] (by decide) rfl).updDone 0 rfl⟩)

end Go.Proofs.Ytcgcippmbeileaa.L
