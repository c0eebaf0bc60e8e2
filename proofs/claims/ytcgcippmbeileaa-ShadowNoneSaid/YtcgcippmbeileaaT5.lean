/- Contracts, walked by program over the engine's laws. -/
import Derived.Test.YtcgcippmbeileaaProg
import Derived.Test.YtcgcippmbeileaaT4
namespace Go.Proofs.Ytcgcippmbeileaa.L
open Go.RowKit

section sorted
variable {a b i : Nat} {d : List Int} {x y : Int}
theorem ss_go (h : i < b) (hx : d[i]? = some x) (hy : d[i - 1]? = some y) (hn : ¬ x < y) : Sort.scanSorted Sort.ltInt d.toArray b i = Sort.scanSorted Sort.ltInt d.toArray b (i + 1) := by rw [Sort.scanSorted, if_pos (by rw [arr_at hx, arr_at hy, ltI]; simp [h, hn])]
theorem ss_end (h : ¬ i < b ∨ ∃ x y, d[i]? = some x ∧ d[i - 1]? = some y ∧ x < y) : Sort.scanSorted Sort.ltInt d.toArray b i = i := by
  rw [Sort.scanSorted, if_neg]
  rcases h with h | ⟨x, y, hx, hy, h⟩
  · simp [h]
  · rw [arr_at hx, arr_at hy, ltI]; simp [h]
theorem pins_true (h : Sort.scanSorted Sort.ltInt d.toArray b (a + 1) = b) : Sort.partialInsertionSort Sort.ltInt d.toArray a b = (d.toArray, true) := by unfold Sort.partialInsertionSort Sort.partialIns; simp only [h]; exact if_pos trivial
theorem pins_false (h : Sort.scanSorted Sort.ltInt d.toArray b (a + 1) ≠ b) (hb : b - a < 50) : Sort.partialInsertionSort Sort.ltInt d.toArray a b = (d.toArray, false) := by unfold Sort.partialInsertionSort Sort.partialIns; simp only []; rw [if_neg h, if_pos hb]
theorem pins_fst (hb : b - a < 50) : (Sort.partialInsertionSort Sort.ltInt d.toArray a b).1 = d.toArray := by
  by_cases h : Sort.scanSorted Sort.ltInt d.toArray b (a + 1) = b
  · rw [pins_true h]
  · rw [pins_false h hb]
end sorted
set_option maxRecDepth 100000 in
theorem e_parteq (A_l : Option Addr) (n_l c_l : Nat) (l : List Int) (a : Nat) (b : Nat) (pivot : Nat) (w : World) (ho_l : (srtR A_l n_l c_l l).p w) (hl_l : ∀ x_ ∈ (srtR A_l n_l c_l l).fp, x_ < w.heap.size) (hab : a ≤ pivot ∧ pivot < b ∧ b ≤ l.length) (hsz : l.length ≤ 1000000) : Calls Try.prog 62 #[Value.slice A_l n_l c_l, Value.int .i64 ((a : Nat) : Int), Value.int .i64 ((b : Nat) : Int), Value.int .i64 ((pivot : Nat) : Int)] w (fun e w' => ∃ l' : List Int, ∃ m : Nat, e = .returned (Value.int .i64 ((m : Nat) : Int)) ∧ ((m, l'.toArray) = Sort.partitionEqual Sort.ltInt l.toArray a b pivot) ∧ (l'.length = l.length) ∧ (a < m ∧ m ≤ b) ∧ Upd (srtR A_l n_l c_l l) (srtR A_l n_l c_l l') w w') := by
 have _hu := ho_l; have _hv := hl_l; clear _hu _hv
 have _hu := hab; clear _hu
 have _hu := hsz; clear _hu
 refine enter_E 84 Try.func62 rfl rfl (by kernel_rfl) (L := [(0, Value.slice A_l n_l c_l), (1, Value.int .i64 ((a : Nat) : Int)), (2, Value.int .i64 ((b : Nat) : Int)), (3, Value.int .i64 ((pivot : Nat) : Int))]) (by kernel_rfl) ?_
 intro ac hA
 have hW : Ws w (· ∈ (srtR A_l n_l c_l l).fp) [rowR 35 1 enU4 (Value.slice A_l n_l c_l) l] [] w := objW ho_l hl_l
 clear ho_l hl_l
 have hn_l : n_l = l.length := rowR_n (hW.get 0 rfl)
 refine wp_seq ?_
 refine wp_region_lit ?_
 refine st_p (Value.int .i64 0) hA ?_; clear hA ac; intro ac hA
 refine wpList_nil ?_
 refine thenN ?_
 refine wp_seq ?_
 obtain ⟨y1, hy1⟩ : ∃ y, l[a]? = some y := ⟨_, List.getElem?_eq_getElem (by omega)⟩
 obtain ⟨b2, o3, rfl, hbb2⟩ := row_some (rowR_at ((hW).get 0 rfl) elt_U4.len) hy1
 obtain ⟨y4, hy4⟩ : ∃ y, l[pivot]? = some y := ⟨_, List.getElem?_eq_getElem (by omega)⟩
 refine wp_cut (fun ac_ wl_ => Fm 84 [] [(0, Value.slice (some ⟨b2, o3, none⟩) n_l c_l), (1, Value.int .i64 ((a : Nat) : Int)), (2, Value.int .i64 ((b : Nat) : Int)), (8, Value.int .i64 0)] ac_ ∧ Ws w (· ∈ (srtR (some ⟨b2, o3, none⟩) n_l c_l l).fp) [rowR 35 1 enU4 (Value.slice (some ⟨b2, o3, none⟩) n_l c_l) (List.set (List.set l a (y4 : Int)) pivot (y1 : Int))] [] wl_) ?_ ?_
 · refine sr_region (m := 16) (C := Ws w (· ∈ (srtR (some ⟨b2, o3, none⟩) n_l c_l l).fp) [rowR 35 1 enU4 (Value.slice (some ⟨b2, o3, none⟩) n_l c_l) l] []) (fun i => [7, 11].contains i) (fun i => [7, 11].contains i) (fun i => [0, 1, 2, 3, 4, 5, 6, 8, 9, 10, 12, 14].contains i) (by kernel_rfl) (by kernel_rfl) (by kernel_rfl) (by kernel_rfl) hW ?_; clear hW; intro w5 hW hfw5 hR; have hC : Ws w (· ∈ (srtR (some ⟨b2, o3, none⟩) n_l c_l l).fp) [rowR 35 1 enU4 (Value.slice (some ⟨b2, o3, none⟩) n_l c_l) l] [] w5 := hW.pick [0] (by decide) rfl
   refine sr_p 0 (Value.slice (some ⟨b2, o3, none⟩) n_l c_l) hR rfl hA ?_; clear hA ac; intro ac hA
   refine sr_p 1 (Value.int .i64 ((a : Nat) : Int)) hR rfl hA ?_; clear hA ac; intro ac hA
   refine sr_p 2 (Value.slice (some ⟨b2, o3, none⟩) n_l c_l) hR rfl hA ?_; clear hA ac; intro ac hA
   refine sr_p 3 (Value.int .i64 ((pivot : Nat) : Int)) hR rfl hA ?_; clear hA ac; intro ac hA
   refine sr_p 4 (Value.slice (some ⟨b2, o3, none⟩) n_l c_l) hR rfl hA ?_; clear hA ac; intro ac hA
   refine sr_p 5 (Value.int .i64 ((pivot : Nat) : Int)) hR rfl hA ?_; clear hA ac; intro ac hA
   refine sr_q 6 (Value.pointer (some ⟨b2, o3 + pivot * 1, none⟩)) hR rfl hA (Rd.indexAddr (e := 35) (sz := 1) (b := b2) (off := o3) (n := n_l) (c := c_l) (k := pivot) (by kernel_rfl) (by kernel_rfl) (by first | omega | (simp; done) | (simp; omega)) (fun _ => by kernel_rfl) (fun _ => by kernel_rfl)) ?_; clear hA ac; intro ac hA
   refine sr_t 7 (Value.int .u32 y4) hR rfl hA hC (Rd.loadRow (b := b2) (i := o3 + pivot * 1) (xs := [Value.int .u32 y4]) (by kernel_rfl) (fun _ hw => row_ld (rowR_at ((hw).get 0 rfl) elt_U4.len) hy4 (Fr.refl No _) (fun h => h) 0 1 (by kernel_rfl)) (by kernel_rfl)) ?_; clear hA ac; intro ac hA
   refine sr_p 8 (Value.slice (some ⟨b2, o3, none⟩) n_l c_l) hR rfl hA ?_; clear hA ac; intro ac hA
   refine sr_p 9 (Value.int .i64 ((a : Nat) : Int)) hR rfl hA ?_; clear hA ac; intro ac hA
   refine sr_q 10 (Value.pointer (some ⟨b2, o3 + a * 1, none⟩)) hR rfl hA (Rd.indexAddr (e := 35) (sz := 1) (b := b2) (off := o3) (n := n_l) (c := c_l) (k := a) (by kernel_rfl) (by kernel_rfl) (by first | omega | (simp; done) | (simp; omega)) (fun _ => by kernel_rfl) (fun _ => by kernel_rfl)) ?_; clear hA ac; intro ac hA
   refine sr_t 11 (Value.int .u32 y1) hR rfl hA hC (Rd.loadRow (b := b2) (i := o3 + a * 1) (xs := [Value.int .u32 y1]) (by kernel_rfl) (fun _ hw => row_ld (rowR_at ((hw).get 0 rfl) elt_U4.len) hy1 (Fr.refl No _) (fun h => h) 0 1 (by kernel_rfl)) (by kernel_rfl)) ?_; clear hA ac; intro ac hA
   refine sr_q 12 (Value.pointer (some ⟨b2, o3 + a * 1, none⟩)) hR rfl hA (Rd.indexAddr (e := 35) (sz := 1) (b := b2) (off := o3) (n := n_l) (c := c_l) (k := a) (by kernel_rfl) (by kernel_rfl) (by first | omega | (simp; done) | (simp; omega)) (fun _ => by kernel_rfl) (fun _ => by kernel_rfl)) ?_; clear hA ac; intro ac hA
   refine sr_one (i := 13) (by kernel_rfl) (sr_d rfl hA (Runs.storeRow (E := 35) (sz := 1) (en := enU4) (b := b2) (off := o3) (k := a) (n := n_l) (c := c_l) (v := Value.int .u32 y4) (y4 : Int) elt_U4 (by kernel_rfl) (by kernel_rfl) (by kernel_rfl) (by kernel_rfl) hW (i := 0) rfl (by first | omega | (simp; done) | (simp; omega)) (by first | rfl | omega | (simp; done) | (simp; omega)) ?_)); clear hA ac hW; intro w6 hW ac hA
   refine ⟨⟨fun h => absurd h (by decide), fun h => absurd h (by decide)⟩, ?_⟩
   obtain ⟨y7, hy7⟩ : ∃ y, (List.set l a (y4 : Int))[pivot]? = some y := ⟨_, List.getElem?_eq_getElem (by first | omega | (simp; done) | (simp; omega))⟩
   refine sr_q 14 (Value.pointer (some ⟨b2, o3 + pivot * 1, none⟩)) hR rfl hA (Rd.indexAddr (e := 35) (sz := 1) (b := b2) (off := o3) (n := n_l) (c := c_l) (k := pivot) (by kernel_rfl) (by kernel_rfl) (by first | omega | (simp; done) | (simp; omega)) (fun _ => by kernel_rfl) (fun _ => by kernel_rfl)) ?_; clear hA ac; intro ac hA
   refine sr_one (i := 15) (by kernel_rfl) (sr_d rfl hA (Runs.storeRow (E := 35) (sz := 1) (en := enU4) (b := b2) (off := o3) (k := pivot) (n := n_l) (c := c_l) (v := Value.int .u32 y1) (y1 : Int) elt_U4 (by kernel_rfl) (by kernel_rfl) (by kernel_rfl) (by kernel_rfl) hW (i := 0) rfl (by first | omega | (simp; done) | (simp; omega)) (by first | rfl | omega | (simp; done) | (simp; omega)) ?_)); clear hA ac hW; intro w8 hW ac hA
   refine ⟨⟨fun h => absurd h (by decide), fun h => absurd h (by decide)⟩, ?_⟩
   refine sr_done (by kernel_rfl) ?_ _
   exact ⟨hA.sub ⟨⟨by kernel_rfl, by kernel_rfl⟩, ⟨by kernel_rfl, by kernel_rfl⟩, ⟨by kernel_rfl, by kernel_rfl⟩, ⟨by kernel_rfl, by kernel_rfl⟩, trivial⟩, (hW.pick [0] (by decide) rfl).pickG [] rfl⟩
 clear hA ac hW; rintro ac w9 ⟨hA, hW⟩
 refine thenN ?_
 refine wp_seq ?_
 obtain ⟨d0, hd0⟩ : ∃ d_, d_ = List.set (List.set l a (y4 : Int)) pivot (y1 : Int) := ⟨_, rfl⟩; rw [← hd0] at hW
 have e0_ : d0.toArray = Sort.swp l.toArray a pivot := by rw [hd0]; exact arr_swp hy1 hy4
 have el0_ : d0.length = l.length := by rw [hd0]; exact set2_len
 refine wp_region_lit ?_
 refine st_p (Value.int .i64 ((a : Nat) : Int)) hA ?_; clear hA ac; intro ac hA
 refine st_q (Value.int .i64 ((a + 1 : Nat) : Int)) hA hW.cls (Rd.pureE (v0 := Value.int .i64 (IntKind.i64.wrap ((((a : Nat) : Int) : Int) + 1))) (fun _ => by kernel_rfl) (congrArg (Value.int .i64) ((w_i64 (x := (((a : Nat) : Int) : Int) + 1) (by omega) (by omega)).trans (by omega)))) ?_; clear hA ac; intro ac hA
 refine st_p (Value.int .i64 ((b : Nat) : Int)) hA ?_; clear hA ac; intro ac hA
 refine st_q (Value.int .i64 ((b - 1 : Nat) : Int)) hA hW.cls (Rd.pureE (v0 := Value.int .i64 (IntKind.i64.wrap ((((b : Nat) : Int) : Int) - 1))) (fun _ => by kernel_rfl) (congrArg (Value.int .i64) ((w_i64 (x := (((b : Nat) : Int) : Int) - 1) (by omega) (by omega)).trans (by omega)))) ?_; clear hA ac; intro ac hA
 refine st_p (Value.int .i64 ((a + 1 : Nat) : Int)) hA ?_; clear hA ac; intro ac hA
 refine st_p (Value.int .i64 ((b - 1 : Nat) : Int)) hA ?_; clear hA ac; intro ac hA
 refine wpList_nil ?_
 refine thenN ?_
 refine wp_seq ?_
 refine wp_block ?_
 refine wp_loop_m (fun m_ ac_ wl_ => ∃ i2 : Nat, ∃ j2 : Nat, ∃ d : List Int, m_ = b + j2 - i2 ∧ (a + 1 ≤ i2 ∧ j2 ≤ b - 1 ∧ i2 ≤ b ∧ i2 ≤ j2 + 1) ∧ (Sort.partEqLoop Sort.ltInt a i2 j2 d.toArray = Sort.partitionEqual Sort.ltInt l.toArray a b pivot) ∧ (d.length = l.length) ∧ Fm 84 [] [(0, Value.slice (some ⟨b2, o3, none⟩) n_l c_l), (1, Value.int .i64 ((a : Nat) : Int)), (9, Value.int .i64 ((i2 : Nat) : Int)), (10, Value.int .i64 ((j2 : Nat) : Int))] ac_ ∧ Ws w (· ∈ (srtR (some ⟨b2, o3, none⟩) n_l c_l l).fp) [rowR 35 1 enU4 (Value.slice (some ⟨b2, o3, none⟩) n_l c_l) d] [] wl_) _ ⟨a + 1, b - 1, d0, rfl, by omega, by unfold Sort.partitionEqual; rw [← e0_], by exact el0_, hA.sub ⟨⟨by kernel_rfl, by kernel_rfl⟩, ⟨by kernel_rfl, by kernel_rfl⟩, ⟨by kernel_rfl, by kernel_rfl⟩, ⟨by kernel_rfl, by kernel_rfl⟩, trivial⟩, (hW.pick [0] (by decide) rfl).pickG [] rfl⟩ ?_
 clear hA ac hW; rintro m_ ac w10 ⟨i2, j2, d, rfl, hb3, hp3, hl3, hA, hW⟩
 refine wp_block ?_
 refine wp_seq ?_
 refine wp_cut (fun ac_ wl_ => ∃ i3 : Nat, (i2 ≤ i3 ∧ i3 ≤ b ∧ i3 ≤ j2 + 1) ∧ (Sort.scanUp (fun x => !Sort.ltInt d.toArray[a]! x) d.toArray j2 i2 = i3) ∧ Fm 84 [] [(0, Value.slice (some ⟨b2, o3, none⟩) n_l c_l), (1, Value.int .i64 ((a : Nat) : Int)), (9, Value.int .i64 ((i3 : Nat) : Int)), (10, Value.int .i64 ((j2 : Nat) : Int))] ac_ ∧ Ws w (· ∈ (srtR (some ⟨b2, o3, none⟩) n_l c_l l).fp) [rowR 35 1 enU4 (Value.slice (some ⟨b2, o3, none⟩) n_l c_l) d] [] wl_) ?_ ?_
 · skip
   refine wp_block ?_
   refine wp_loop_m (fun m_ ac_ wl_ => ∃ i3 : Nat, m_ = b - i3 ∧ (i2 ≤ i3 ∧ i3 ≤ b ∧ i3 ≤ j2 + 1) ∧ (Sort.scanUp (fun x => !Sort.ltInt d.toArray[a]! x) d.toArray j2 i3 = Sort.scanUp (fun x => !Sort.ltInt d.toArray[a]! x) d.toArray j2 i2) ∧ Fm 84 [] [(0, Value.slice (some ⟨b2, o3, none⟩) n_l c_l), (1, Value.int .i64 ((a : Nat) : Int)), (9, Value.int .i64 ((i3 : Nat) : Int)), (10, Value.int .i64 ((j2 : Nat) : Int))] ac_ ∧ Ws w (· ∈ (srtR (some ⟨b2, o3, none⟩) n_l c_l l).fp) [rowR 35 1 enU4 (Value.slice (some ⟨b2, o3, none⟩) n_l c_l) d] [] wl_) _ ⟨i2, rfl, by omega, by rfl, hA.sub ⟨⟨by kernel_rfl, by kernel_rfl⟩, ⟨by kernel_rfl, by kernel_rfl⟩, ⟨by kernel_rfl, by kernel_rfl⟩, ⟨by kernel_rfl, by kernel_rfl⟩, trivial⟩, (hW.pick [0] (by decide) rfl).pickG [] rfl⟩ ?_
   clear hA ac hW; rintro m_ ac w11 ⟨i3, rfl, hbhu4, hu4, hA, hW⟩
   refine wp_seq ?_
   refine wp_seq ?_
   refine q_region (by kernel_rfl) (by kernel_rfl) hW ?_
   refine sq_p (Value.int .i64 ((i3 : Nat) : Int)) hA ?_; clear hA ac; intro ac hA
   refine sq_p (Value.int .i64 ((j2 : Nat) : Int)) hA ?_; clear hA ac; intro ac hA
   refine sq_p (Value.bool (decide ((((i3 : Nat) : Int) : Int) ≤ (((j2 : Nat) : Int) : Int)))) hA ?_; clear hA ac; intro ac hA
   refine sq_p (Value.bool (decide ((((i3 : Nat) : Int) : Int) ≤ (((j2 : Nat) : Int) : Int)))) hA ?_; clear hA ac; intro ac hA
   rcases Bool.eq_false_or_eq_true (decide ((((i3 : Nat) : Int) : Int) ≤ (((j2 : Nat) : Int) : Int))) with h12 | h12
   · skip
     rw [h12] at hA
     have h12 := of_decide_eq_true h12
     first
     | (exfalso; clear hA hW; omega)
     | (
       refine sq_p (Value.slice (some ⟨b2, o3, none⟩) n_l c_l) hA ?_; clear hA ac; intro ac hA
       refine sq_p (Value.int .i64 ((a : Nat) : Int)) hA ?_; clear hA ac; intro ac hA
       obtain ⟨y13, hy13⟩ : ∃ y, d[a]? = some y := ⟨_, List.getElem?_eq_getElem (by first | omega | (simp; done) | (simp; omega))⟩
       refine sq_q (Value.pointer (some ⟨b2, o3 + a * 1, none⟩)) hA (Rd.indexAddr (e := 35) (sz := 1) (b := b2) (off := o3) (n := n_l) (c := c_l) (k := a) (by kernel_rfl) (by kernel_rfl) (by first | omega | (simp; done) | (simp; omega)) (fun _ => by kernel_rfl) (fun _ => by kernel_rfl)) ?_; clear hA ac; intro ac hA
       refine sq_q (Value.int .u32 y13) hA (Rd.loadRow (b := b2) (i := o3 + a * 1) (xs := [Value.int .u32 y13]) (by kernel_rfl) (fun _ hw => row_ld (rowR_at ((hw.1).get 0 rfl) elt_U4.len) hy13 (Fr.refl No _) (fun h => h) 0 1 (by kernel_rfl)) (by kernel_rfl)) ?_; clear hA ac; intro ac hA
       refine sq_p (Value.slice (some ⟨b2, o3, none⟩) n_l c_l) hA ?_; clear hA ac; intro ac hA
       refine sq_p (Value.int .i64 ((i3 : Nat) : Int)) hA ?_; clear hA ac; intro ac hA
       obtain ⟨y14, hy14⟩ : ∃ y, d[i3]? = some y := ⟨_, List.getElem?_eq_getElem (by first | omega | (simp; done) | (simp; omega))⟩
       refine sq_q (Value.pointer (some ⟨b2, o3 + i3 * 1, none⟩)) hA (Rd.indexAddr (e := 35) (sz := 1) (b := b2) (off := o3) (n := n_l) (c := c_l) (k := i3) (by kernel_rfl) (by kernel_rfl) (by first | omega | (simp; done) | (simp; omega)) (fun _ => by kernel_rfl) (fun _ => by kernel_rfl)) ?_; clear hA ac; intro ac hA
       refine sq_q (Value.int .u32 y14) hA (Rd.loadRow (b := b2) (i := o3 + i3 * 1) (xs := [Value.int .u32 y14]) (by kernel_rfl) (fun _ hw => row_ld (rowR_at ((hw.1).get 0 rfl) elt_U4.len) hy14 (Fr.refl No _) (fun h => h) 0 1 (by kernel_rfl)) (by kernel_rfl)) ?_; clear hA ac; intro ac hA
       refine sq_call (v := Value.bool (decide ((y13) < (y14)))) hA (by kernel_rfl) (by kernel_rfl) (by kernel_rfl) (fun _ => by kernel_rfl) (Cls.callNC fun wx hwx => e_less (y13) (y14) wx) ?_; clear hA ac; intro ac hA
       refine sq_p (Value.bool (!(decide ((y13) < (y14))))) hA ?_; clear hA ac; intro ac hA
       refine sq_p (Value.bool (!(decide ((y13) < (y14))))) hA ?_; clear hA ac; intro ac hA
       refine sq_nil ?_; intro w15 hww15; have hW := hww15.1; have hfw15 := hww15.2; clear hww15
       refine thenN ?_
       refine wp_cond_split (t := !(decide ((y13) < (y14)))) (hA.eval (by kernel_rfl)) (fun h16 => ?_) (fun h16 => ?_)
       · skip
         have h16 := not_t h16
         have h16 := of_decide_eq_false h16
         first
         | (exfalso; clear hA hW; omega)
         | (
           refine wp_skip ?_
           refine thenN ?_
           refine wp_block ?_
           refine wp_region_lit ?_
           refine st_p (Value.int .i64 ((i3 : Nat) : Int)) hA ?_; clear hA ac; intro ac hA
           refine st_q (Value.int .i64 ((i3 + 1 : Nat) : Int)) hA hW.cls (Rd.pureE (v0 := Value.int .i64 (IntKind.i64.wrap ((((i3 : Nat) : Int) : Int) + 1))) (fun _ => by kernel_rfl) (congrArg (Value.int .i64) ((w_i64 (x := (((i3 : Nat) : Int) : Int) + 1) (by omega) (by omega)).trans (by omega)))) ?_; clear hA ac; intro ac hA
           refine st_p (Value.int .i64 ((i3 + 1 : Nat) : Int)) hA ?_; clear hA ac; intro ac hA
           refine wpList_nil ?_
           refine blkN ?_
           refine thenN ?_
           exact ⟨b - (i3 + 1), by omega, i3 + 1, rfl, by omega, by rw [← hu4]; exact (up_go (by omega) (by simp only [arr_at hy14, arr_at hy13, ltI]; rw [show decide (y13 < y14) = false from decide_eq_false (by omega)]; rfl)).symm, hA.sub ⟨⟨by kernel_rfl, by kernel_rfl⟩, ⟨by kernel_rfl, by kernel_rfl⟩, ⟨by kernel_rfl, by kernel_rfl⟩, ⟨by kernel_rfl, by kernel_rfl⟩, trivial⟩, (hW.pick [0] (by decide) rfl).pickG [] rfl⟩)
       · skip
         have h16 := not_f h16
         have h16 := of_decide_eq_true h16
         first
         | (exfalso; clear hA hW; omega)
         | (
           refine wp_exit ?_
           refine thenX ?_
           refine thenX ?_
           refine blkX ?_
           exact ⟨i3, by omega, by rw [← hu4]; exact up_end (.inr (by simp only [arr_at hy14, arr_at hy13, ltI]; rw [show decide (y13 < y14) = true from decide_eq_true (by omega)]; rfl)), hA.sub ⟨⟨by kernel_rfl, by kernel_rfl⟩, ⟨by kernel_rfl, by kernel_rfl⟩, ⟨by kernel_rfl, by kernel_rfl⟩, ⟨by kernel_rfl, by kernel_rfl⟩, trivial⟩, (hW.pick [0] (by decide) rfl).pickG [] rfl⟩))
   · skip
     rw [h12] at hA
     have h12 := of_decide_eq_false h12
     first
     | (exfalso; clear hA hW; omega)
     | (
       refine sq_k hA ?_; clear hA ac; intro ac hA
       refine sq_k hA ?_; clear hA ac; intro ac hA
       refine sq_k hA ?_; clear hA ac; intro ac hA
       refine sq_k hA ?_; clear hA ac; intro ac hA
       refine sq_k hA ?_; clear hA ac; intro ac hA
       refine sq_k hA ?_; clear hA ac; intro ac hA
       refine sq_k hA ?_; clear hA ac; intro ac hA
       refine sq_k hA ?_; clear hA ac; intro ac hA
       refine sq_k hA ?_; clear hA ac; intro ac hA
       refine sq_k hA ?_; clear hA ac; intro ac hA
       refine sq_p (Value.bool false) hA ?_; clear hA ac; intro ac hA
       refine sq_nil ?_; intro w17 hww17; have hW := hww17.1; have hfw17 := hww17.2; clear hww17
       refine thenN ?_
       refine wp_cond_false (hA.eval (by kernel_rfl)) ?_
       refine wp_exit ?_
       refine thenX ?_
       refine thenX ?_
       refine blkX ?_
       exact ⟨i3, by omega, by rw [← hu4]; exact up_end (.inl (by omega)), hA.sub ⟨⟨by kernel_rfl, by kernel_rfl⟩, ⟨by kernel_rfl, by kernel_rfl⟩, ⟨by kernel_rfl, by kernel_rfl⟩, ⟨by kernel_rfl, by kernel_rfl⟩, trivial⟩, (hW.pick [0] (by decide) rfl).pickG [] rfl⟩)
 · skip
   clear hA ac hW; rintro ac w18 ⟨i3, hchu4, hehu4, hA, hW⟩
   refine thenN ?_
   refine wp_seq ?_
   refine wp_cut (fun ac_ wl_ => ∃ j3 : Nat, (j3 ≤ j2 ∧ i3 ≤ j3 + 1) ∧ (Sort.scanDown (fun x => Sort.ltInt d.toArray[a]! x) d.toArray i3 j2 = j3) ∧ (i3 ≤ j3 → i3 ≠ j3) ∧ Fm 84 [] [(0, Value.slice (some ⟨b2, o3, none⟩) n_l c_l), (1, Value.int .i64 ((a : Nat) : Int)), (9, Value.int .i64 ((i3 : Nat) : Int)), (10, Value.int .i64 ((j3 : Nat) : Int))] ac_ ∧ Ws w (· ∈ (srtR (some ⟨b2, o3, none⟩) n_l c_l l).fp) [rowR 35 1 enU4 (Value.slice (some ⟨b2, o3, none⟩) n_l c_l) d] [] wl_) ?_ ?_
   · skip
     refine wp_block ?_
     refine wp_loop_m (fun m_ ac_ wl_ => ∃ j3 : Nat, m_ = j3 + 1 ∧ (j3 ≤ j2 ∧ i3 ≤ j3 + 1) ∧ (Sort.scanDown (fun x => Sort.ltInt d.toArray[a]! x) d.toArray i3 j3 = Sort.scanDown (fun x => Sort.ltInt d.toArray[a]! x) d.toArray i3 j2) ∧ Fm 84 [] [(0, Value.slice (some ⟨b2, o3, none⟩) n_l c_l), (1, Value.int .i64 ((a : Nat) : Int)), (9, Value.int .i64 ((i3 : Nat) : Int)), (10, Value.int .i64 ((j3 : Nat) : Int))] ac_ ∧ Ws w (· ∈ (srtR (some ⟨b2, o3, none⟩) n_l c_l l).fp) [rowR 35 1 enU4 (Value.slice (some ⟨b2, o3, none⟩) n_l c_l) d] [] wl_) _ ⟨j2, rfl, by omega, by rfl, hA.sub ⟨⟨by kernel_rfl, by kernel_rfl⟩, ⟨by kernel_rfl, by kernel_rfl⟩, ⟨by kernel_rfl, by kernel_rfl⟩, ⟨by kernel_rfl, by kernel_rfl⟩, trivial⟩, (hW.pick [0] (by decide) rfl).pickG [] rfl⟩ ?_
     clear hA ac hW; rintro m_ ac w19 ⟨j3, rfl, hbhv4, hv4, hA, hW⟩
     refine wp_seq ?_
     refine wp_seq ?_
     refine q_region (by kernel_rfl) (by kernel_rfl) hW ?_
     refine sq_p (Value.int .i64 ((i3 : Nat) : Int)) hA ?_; clear hA ac; intro ac hA
     refine sq_p (Value.int .i64 ((j3 : Nat) : Int)) hA ?_; clear hA ac; intro ac hA
     refine sq_p (Value.bool (decide ((((i3 : Nat) : Int) : Int) ≤ (((j3 : Nat) : Int) : Int)))) hA ?_; clear hA ac; intro ac hA
     refine sq_p (Value.bool (decide ((((i3 : Nat) : Int) : Int) ≤ (((j3 : Nat) : Int) : Int)))) hA ?_; clear hA ac; intro ac hA
     rcases Bool.eq_false_or_eq_true (decide ((((i3 : Nat) : Int) : Int) ≤ (((j3 : Nat) : Int) : Int))) with h20 | h20
     · skip
       rw [h20] at hA
       have h20 := of_decide_eq_true h20
       first
       | (exfalso; clear hA hW; omega)
       | (
         refine sq_p (Value.slice (some ⟨b2, o3, none⟩) n_l c_l) hA ?_; clear hA ac; intro ac hA
         refine sq_p (Value.int .i64 ((a : Nat) : Int)) hA ?_; clear hA ac; intro ac hA
         obtain ⟨y21, hy21⟩ : ∃ y, d[a]? = some y := ⟨_, List.getElem?_eq_getElem (by first | omega | (simp; done) | (simp; omega))⟩
         refine sq_q (Value.pointer (some ⟨b2, o3 + a * 1, none⟩)) hA (Rd.indexAddr (e := 35) (sz := 1) (b := b2) (off := o3) (n := n_l) (c := c_l) (k := a) (by kernel_rfl) (by kernel_rfl) (by first | omega | (simp; done) | (simp; omega)) (fun _ => by kernel_rfl) (fun _ => by kernel_rfl)) ?_; clear hA ac; intro ac hA
         refine sq_q (Value.int .u32 y21) hA (Rd.loadRow (b := b2) (i := o3 + a * 1) (xs := [Value.int .u32 y21]) (by kernel_rfl) (fun _ hw => row_ld (rowR_at ((hw.1).get 0 rfl) elt_U4.len) hy21 (Fr.refl No _) (fun h => h) 0 1 (by kernel_rfl)) (by kernel_rfl)) ?_; clear hA ac; intro ac hA
         refine sq_p (Value.slice (some ⟨b2, o3, none⟩) n_l c_l) hA ?_; clear hA ac; intro ac hA
         refine sq_p (Value.int .i64 ((j3 : Nat) : Int)) hA ?_; clear hA ac; intro ac hA
         obtain ⟨y22, hy22⟩ : ∃ y, d[j3]? = some y := ⟨_, List.getElem?_eq_getElem (by first | omega | (simp; done) | (simp; omega))⟩
         refine sq_q (Value.pointer (some ⟨b2, o3 + j3 * 1, none⟩)) hA (Rd.indexAddr (e := 35) (sz := 1) (b := b2) (off := o3) (n := n_l) (c := c_l) (k := j3) (by kernel_rfl) (by kernel_rfl) (by first | omega | (simp; done) | (simp; omega)) (fun _ => by kernel_rfl) (fun _ => by kernel_rfl)) ?_; clear hA ac; intro ac hA
         refine sq_q (Value.int .u32 y22) hA (Rd.loadRow (b := b2) (i := o3 + j3 * 1) (xs := [Value.int .u32 y22]) (by kernel_rfl) (fun _ hw => row_ld (rowR_at ((hw.1).get 0 rfl) elt_U4.len) hy22 (Fr.refl No _) (fun h => h) 0 1 (by kernel_rfl)) (by kernel_rfl)) ?_; clear hA ac; intro ac hA
         refine sq_call (v := Value.bool (decide ((y21) < (y22)))) hA (by kernel_rfl) (by kernel_rfl) (by kernel_rfl) (fun _ => by kernel_rfl) (Cls.callNC fun wx hwx => e_less (y21) (y22) wx) ?_; clear hA ac; intro ac hA
         refine sq_p (Value.bool (decide ((y21) < (y22)))) hA ?_; clear hA ac; intro ac hA
         refine sq_nil ?_; intro w23 hww23; have hW := hww23.1; have hfw23 := hww23.2; clear hww23
         refine thenN ?_
         refine wp_cond_split (t := decide ((y21) < (y22))) (hA.eval (by kernel_rfl)) (fun h24 => ?_) (fun h24 => ?_)
         · skip
           have h24 := of_decide_eq_true h24
           first
           | (exfalso; clear hA hW; omega)
           | (
             refine wp_skip ?_
             refine thenN ?_
             refine wp_block ?_
             refine wp_region_lit ?_
             refine st_p (Value.int .i64 ((j3 : Nat) : Int)) hA ?_; clear hA ac; intro ac hA
             refine st_q (Value.int .i64 ((j3 - 1 : Nat) : Int)) hA hW.cls (Rd.pureE (v0 := Value.int .i64 (IntKind.i64.wrap ((((j3 : Nat) : Int) : Int) - 1))) (fun _ => by kernel_rfl) (congrArg (Value.int .i64) ((w_i64 (x := (((j3 : Nat) : Int) : Int) - 1) (by omega) (by omega)).trans (by omega)))) ?_; clear hA ac; intro ac hA
             refine st_p (Value.int .i64 ((j3 - 1 : Nat) : Int)) hA ?_; clear hA ac; intro ac hA
             refine wpList_nil ?_
             refine blkN ?_
             refine thenN ?_
             exact ⟨(j3 - 1) + 1, by omega, j3 - 1, rfl, by omega, by rw [← hv4]; exact (down_go (by omega) (by omega) (by simp only [arr_at hy22, arr_at hy21, ltI]; rw [show decide (y21 < y22) = true from decide_eq_true (by omega)])).symm, hA.sub ⟨⟨by kernel_rfl, by kernel_rfl⟩, ⟨by kernel_rfl, by kernel_rfl⟩, ⟨by kernel_rfl, by kernel_rfl⟩, ⟨by kernel_rfl, by kernel_rfl⟩, trivial⟩, (hW.pick [0] (by decide) rfl).pickG [] rfl⟩)
         · skip
           have h24 := of_decide_eq_false h24
           first
           | (exfalso; clear hA hW; omega)
           | (
             refine wp_exit ?_
             refine thenX ?_
             refine thenX ?_
             refine blkX ?_
             exact ⟨j3, by omega, by rw [← hv4]; exact down_end (.inr (by simp only [arr_at hy22, arr_at hy21, ltI]; rw [show decide (y21 < y22) = false from decide_eq_false (by omega)])), by exact fun h_ => scan_ne' (by omega) hehu4 (show Sort.scanDown (fun x => Sort.ltInt d.toArray[a]! x) d.toArray i3 j2 = j3 by rw [← hv4]; exact down_end (.inr (by simp only [arr_at hy22, arr_at hy21, ltI]; rw [show decide (y21 < y22) = false from decide_eq_false (by omega)]))) rfl (by omega) h_, hA.sub ⟨⟨by kernel_rfl, by kernel_rfl⟩, ⟨by kernel_rfl, by kernel_rfl⟩, ⟨by kernel_rfl, by kernel_rfl⟩, ⟨by kernel_rfl, by kernel_rfl⟩, trivial⟩, (hW.pick [0] (by decide) rfl).pickG [] rfl⟩))
     · skip
       rw [h20] at hA
       have h20 := of_decide_eq_false h20
       first
       | (exfalso; clear hA hW; omega)
       | (
         refine sq_k hA ?_; clear hA ac; intro ac hA
         refine sq_k hA ?_; clear hA ac; intro ac hA
         refine sq_k hA ?_; clear hA ac; intro ac hA
         refine sq_k hA ?_; clear hA ac; intro ac hA
         refine sq_k hA ?_; clear hA ac; intro ac hA
         refine sq_k hA ?_; clear hA ac; intro ac hA
         refine sq_k hA ?_; clear hA ac; intro ac hA
         refine sq_k hA ?_; clear hA ac; intro ac hA
         refine sq_k hA ?_; clear hA ac; intro ac hA
         refine sq_p (Value.bool false) hA ?_; clear hA ac; intro ac hA
         refine sq_nil ?_; intro w25 hww25; have hW := hww25.1; have hfw25 := hww25.2; clear hww25
         refine thenN ?_
         refine wp_cond_false (hA.eval (by kernel_rfl)) ?_
         refine wp_exit ?_
         refine thenX ?_
         refine thenX ?_
         refine blkX ?_
         exact ⟨j3, by omega, by rw [← hv4]; exact down_end (.inl (by omega)), by exact fun h_ => scan_ne' (by omega) hehu4 (show Sort.scanDown (fun x => Sort.ltInt d.toArray[a]! x) d.toArray i3 j2 = j3 by rw [← hv4]; exact down_end (.inl (by omega))) rfl (by omega) h_, hA.sub ⟨⟨by kernel_rfl, by kernel_rfl⟩, ⟨by kernel_rfl, by kernel_rfl⟩, ⟨by kernel_rfl, by kernel_rfl⟩, ⟨by kernel_rfl, by kernel_rfl⟩, trivial⟩, (hW.pick [0] (by decide) rfl).pickG [] rfl⟩)
   · skip
     clear hA ac hW; rintro ac w26 ⟨j3, hchv4, hehv4, hnehv4, hA, hW⟩
     refine thenN ?_
     refine wp_seq ?_
     refine wp_seq ?_
     refine wp_region_lit ?_
     refine st_p (Value.int .i64 ((i3 : Nat) : Int)) hA ?_; clear hA ac; intro ac hA
     refine st_p (Value.int .i64 ((j3 : Nat) : Int)) hA ?_; clear hA ac; intro ac hA
     refine st_p (Value.bool (decide ((((i3 : Nat) : Int) : Int) > (((j3 : Nat) : Int) : Int)))) hA ?_; clear hA ac; intro ac hA
     refine wpList_nil ?_
     refine thenN ?_
     refine wp_cond_split (t := decide ((((i3 : Nat) : Int) : Int) > (((j3 : Nat) : Int) : Int))) (hA.eval (by kernel_rfl)) (fun h27 => ?_) (fun h27 => ?_)
     · skip
       have h27 := of_decide_eq_true h27
       first
       | (exfalso; clear hA hW; omega)
       | (
         refine wp_exit ?_
         refine thenX ?_
         refine blkY (by kernel_rfl) ?_
         refine thenX ?_
         refine blkX ?_
         refine thenN ?_
         refine wp_seq ?_
         refine wp_region_lit ?_
         refine st_p (Value.int .i64 ((i3 : Nat) : Int)) hA ?_; clear hA ac; intro ac hA
         refine st_p (Value.int .i64 ((i3 : Nat) : Int)) hA ?_; clear hA ac; intro ac hA
         refine wpList_nil ?_
         refine thenN ?_
         refine wp_ret ?_
         refine ret1 (v := Value.int .i64 ((i3 : Nat) : Int)) (by rfl) hA (Got.tmp hA (by kernel_rfl) (by kernel_rfl)) ?_
         clear hA
         exact ⟨d, i3, rfl, by rw [← hp3, pe_end hehu4 hehv4 (by omega)], by exact hl3, by omega, (hW.pick [0] (by decide) rfl).updDone 0 rfl⟩)
     · skip
       have h27 := of_decide_eq_false h27
       first
       | (exfalso; clear hA hW; omega)
       | (
         refine wp_skip ?_
         refine thenN ?_
         refine wp_seq ?_
         obtain ⟨y28, hy28⟩ : ∃ y, d[i3]? = some y := ⟨_, List.getElem?_eq_getElem (by omega)⟩
         obtain ⟨y29, hy29⟩ : ∃ y, d[j3]? = some y := ⟨_, List.getElem?_eq_getElem (by omega)⟩
         obtain ⟨y30, hy30⟩ : ∃ y, d[a]? = some y := ⟨_, List.getElem?_eq_getElem (by omega)⟩
         refine wp_cut (fun ac_ wl_ => Fm 84 [] [(0, Value.slice (some ⟨b2, o3, none⟩) n_l c_l), (1, Value.int .i64 ((a : Nat) : Int)), (9, Value.int .i64 ((i3 : Nat) : Int)), (10, Value.int .i64 ((j3 : Nat) : Int)), (62, Value.int .i64 ((i3 : Nat) : Int)), (63, Value.int .i64 ((j3 : Nat) : Int)), (64, Value.bool (decide ((((i3 : Nat) : Int) : Int) > (((j3 : Nat) : Int) : Int))))] ac_ ∧ Ws w (· ∈ (srtR (some ⟨b2, o3, none⟩) n_l c_l l).fp) [rowR 35 1 enU4 (Value.slice (some ⟨b2, o3, none⟩) n_l c_l) (List.set (List.set d i3 (y29 : Int)) j3 (y28 : Int))] [] wl_) ?_ ?_
         · refine sr_region (m := 16) (C := Ws w (· ∈ (srtR (some ⟨b2, o3, none⟩) n_l c_l l).fp) [rowR 35 1 enU4 (Value.slice (some ⟨b2, o3, none⟩) n_l c_l) d] []) (fun i => [7, 11].contains i) (fun i => [7, 11].contains i) (fun i => [0, 1, 2, 3, 4, 5, 6, 8, 9, 10, 12, 14].contains i) (by kernel_rfl) (by kernel_rfl) (by kernel_rfl) (by kernel_rfl) hW ?_; clear hW; intro w31 hW hfw31 hR; have hC : Ws w (· ∈ (srtR (some ⟨b2, o3, none⟩) n_l c_l l).fp) [rowR 35 1 enU4 (Value.slice (some ⟨b2, o3, none⟩) n_l c_l) d] [] w31 := hW.pick [0] (by decide) rfl
           refine sr_p 0 (Value.slice (some ⟨b2, o3, none⟩) n_l c_l) hR rfl hA ?_; clear hA ac; intro ac hA
           refine sr_p 1 (Value.int .i64 ((i3 : Nat) : Int)) hR rfl hA ?_; clear hA ac; intro ac hA
           refine sr_p 2 (Value.slice (some ⟨b2, o3, none⟩) n_l c_l) hR rfl hA ?_; clear hA ac; intro ac hA
           refine sr_p 3 (Value.int .i64 ((j3 : Nat) : Int)) hR rfl hA ?_; clear hA ac; intro ac hA
           refine sr_p 4 (Value.slice (some ⟨b2, o3, none⟩) n_l c_l) hR rfl hA ?_; clear hA ac; intro ac hA
           refine sr_p 5 (Value.int .i64 ((j3 : Nat) : Int)) hR rfl hA ?_; clear hA ac; intro ac hA
           refine sr_q 6 (Value.pointer (some ⟨b2, o3 + j3 * 1, none⟩)) hR rfl hA (Rd.indexAddr (e := 35) (sz := 1) (b := b2) (off := o3) (n := n_l) (c := c_l) (k := j3) (by kernel_rfl) (by kernel_rfl) (by first | omega | (simp; done) | (simp; omega)) (fun _ => by kernel_rfl) (fun _ => by kernel_rfl)) ?_; clear hA ac; intro ac hA
           refine sr_t 7 (Value.int .u32 y29) hR rfl hA hC (Rd.loadRow (b := b2) (i := o3 + j3 * 1) (xs := [Value.int .u32 y29]) (by kernel_rfl) (fun _ hw => row_ld (rowR_at ((hw).get 0 rfl) elt_U4.len) hy29 (Fr.refl No _) (fun h => h) 0 1 (by kernel_rfl)) (by kernel_rfl)) ?_; clear hA ac; intro ac hA
           refine sr_p 8 (Value.slice (some ⟨b2, o3, none⟩) n_l c_l) hR rfl hA ?_; clear hA ac; intro ac hA
           refine sr_p 9 (Value.int .i64 ((i3 : Nat) : Int)) hR rfl hA ?_; clear hA ac; intro ac hA
           refine sr_q 10 (Value.pointer (some ⟨b2, o3 + i3 * 1, none⟩)) hR rfl hA (Rd.indexAddr (e := 35) (sz := 1) (b := b2) (off := o3) (n := n_l) (c := c_l) (k := i3) (by kernel_rfl) (by kernel_rfl) (by first | omega | (simp; done) | (simp; omega)) (fun _ => by kernel_rfl) (fun _ => by kernel_rfl)) ?_; clear hA ac; intro ac hA
           refine sr_t 11 (Value.int .u32 y28) hR rfl hA hC (Rd.loadRow (b := b2) (i := o3 + i3 * 1) (xs := [Value.int .u32 y28]) (by kernel_rfl) (fun _ hw => row_ld (rowR_at ((hw).get 0 rfl) elt_U4.len) hy28 (Fr.refl No _) (fun h => h) 0 1 (by kernel_rfl)) (by kernel_rfl)) ?_; clear hA ac; intro ac hA
           refine sr_q 12 (Value.pointer (some ⟨b2, o3 + i3 * 1, none⟩)) hR rfl hA (Rd.indexAddr (e := 35) (sz := 1) (b := b2) (off := o3) (n := n_l) (c := c_l) (k := i3) (by kernel_rfl) (by kernel_rfl) (by first | omega | (simp; done) | (simp; omega)) (fun _ => by kernel_rfl) (fun _ => by kernel_rfl)) ?_; clear hA ac; intro ac hA
           refine sr_one (i := 13) (by kernel_rfl) (sr_d rfl hA (Runs.storeRow (E := 35) (sz := 1) (en := enU4) (b := b2) (off := o3) (k := i3) (n := n_l) (c := c_l) (v := Value.int .u32 y29) (y29 : Int) elt_U4 (by kernel_rfl) (by kernel_rfl) (by kernel_rfl) (by kernel_rfl) hW (i := 0) rfl (by first | omega | (simp; done) | (simp; omega)) (by first | rfl | omega | (simp; done) | (simp; omega)) ?_)); clear hA ac hW; intro w32 hW ac hA
           refine ⟨⟨fun h => absurd h (by decide), fun h => absurd h (by decide)⟩, ?_⟩
           obtain ⟨y33, hy33⟩ : ∃ y, (List.set d i3 (y29 : Int))[j3]? = some y := ⟨_, List.getElem?_eq_getElem (by first | omega | (simp; done) | (simp; omega))⟩
           refine sr_q 14 (Value.pointer (some ⟨b2, o3 + j3 * 1, none⟩)) hR rfl hA (Rd.indexAddr (e := 35) (sz := 1) (b := b2) (off := o3) (n := n_l) (c := c_l) (k := j3) (by kernel_rfl) (by kernel_rfl) (by first | omega | (simp; done) | (simp; omega)) (fun _ => by kernel_rfl) (fun _ => by kernel_rfl)) ?_; clear hA ac; intro ac hA
           refine sr_one (i := 15) (by kernel_rfl) (sr_d rfl hA (Runs.storeRow (E := 35) (sz := 1) (en := enU4) (b := b2) (off := o3) (k := j3) (n := n_l) (c := c_l) (v := Value.int .u32 y28) (y28 : Int) elt_U4 (by kernel_rfl) (by kernel_rfl) (by kernel_rfl) (by kernel_rfl) hW (i := 0) rfl (by first | omega | (simp; done) | (simp; omega)) (by first | rfl | omega | (simp; done) | (simp; omega)) ?_)); clear hA ac hW; intro w34 hW ac hA
           refine ⟨⟨fun h => absurd h (by decide), fun h => absurd h (by decide)⟩, ?_⟩
           refine sr_done (by kernel_rfl) ?_ _
           exact ⟨hA.sub ⟨⟨by kernel_rfl, by kernel_rfl⟩, ⟨by kernel_rfl, by kernel_rfl⟩, ⟨by kernel_rfl, by kernel_rfl⟩, ⟨by kernel_rfl, by kernel_rfl⟩, ⟨by kernel_rfl, by kernel_rfl⟩, ⟨by kernel_rfl, by kernel_rfl⟩, ⟨by kernel_rfl, by kernel_rfl⟩, trivial⟩, (hW.pick [0] (by decide) rfl).pickG [] rfl⟩
         clear hA ac hW; rintro ac w35 ⟨hA, hW⟩
         refine thenN ?_
         refine wp_seq ?_
         refine wp_region_lit ?_
         refine st_p (Value.int .i64 ((i3 : Nat) : Int)) hA ?_; clear hA ac; intro ac hA
         refine st_q (Value.int .i64 ((i3 + 1 : Nat) : Int)) hA hW.cls (Rd.pureE (v0 := Value.int .i64 (IntKind.i64.wrap ((((i3 : Nat) : Int) : Int) + 1))) (fun _ => by kernel_rfl) (congrArg (Value.int .i64) ((w_i64 (x := (((i3 : Nat) : Int) : Int) + 1) (by omega) (by omega)).trans (by omega)))) ?_; clear hA ac; intro ac hA
         refine st_p (Value.int .i64 ((i3 + 1 : Nat) : Int)) hA ?_; clear hA ac; intro ac hA
         refine wpList_nil ?_
         refine thenN ?_
         refine wp_region_lit ?_
         refine st_p (Value.int .i64 ((j3 : Nat) : Int)) hA ?_; clear hA ac; intro ac hA
         refine st_q (Value.int .i64 ((j3 - 1 : Nat) : Int)) hA hW.cls (Rd.pureE (v0 := Value.int .i64 (IntKind.i64.wrap ((((j3 : Nat) : Int) : Int) - 1))) (fun _ => by kernel_rfl) (congrArg (Value.int .i64) ((w_i64 (x := (((j3 : Nat) : Int) : Int) - 1) (by omega) (by omega)).trans (by omega)))) ?_; clear hA ac; intro ac hA
         refine st_p (Value.int .i64 ((j3 - 1 : Nat) : Int)) hA ?_; clear hA ac; intro ac hA
         refine wpList_nil ?_
         refine blkN ?_
         refine thenN ?_
         exact ⟨b + (j3 - 1) - (i3 + 1), by omega, i3 + 1, j3 - 1, List.set (List.set d i3 (y29 : Int)) j3 (y28 : Int), rfl, by omega, by rw [← hp3, arr_swp hy28 hy29]; exact (pe_step hehu4 hehv4 (by omega) (by omega) (by omega) (by omega)).symm, by rw [set2_len]; exact hl3, hA.sub ⟨⟨by kernel_rfl, by kernel_rfl⟩, ⟨by kernel_rfl, by kernel_rfl⟩, ⟨by kernel_rfl, by kernel_rfl⟩, ⟨by kernel_rfl, by kernel_rfl⟩, trivial⟩, (hW.pick [0] (by decide) rfl).pickG [] rfl⟩)

set_option maxRecDepth 100000 in
theorem e_pins (A_l : Option Addr) (c_l : Nat) (l : List Int) (a : Nat) (b : Nat) (w : World) (hr_l : RowAt w A_l 1 enU4 l) (hc_l : l.length ≤ c_l) (hab : a < b ∧ b ≤ l.length ∧ b < a + 50) (hsz : l.length ≤ 1000000) : Calls Try.prog 60 #[Value.slice A_l l.length c_l, Value.int .i64 ((a : Nat) : Int), Value.int .i64 ((b : Nat) : Int)] w (fun e w' => e = .returned (Value.bool (Sort.partialInsertionSort Sort.ltInt l.toArray a b).2) ∧ Fr No w w') := by
 have _hu := hc_l; have _hv := hr_l; clear _hu _hv
 have _hu := hab; clear _hu
 have _hu := hsz; clear _hu
 refine enter_E 133 Try.func60 rfl rfl (by kernel_rfl) (L := [(0, Value.slice A_l l.length c_l), (1, Value.int .i64 ((a : Nat) : Int)), (2, Value.int .i64 ((b : Nat) : Int))]) (by kernel_rfl) ?_
 intro ac hA
 have hW := Ws.start w No
 have hW := hW.arg hr_l
 refine wp_seq ?_
 refine wp_region_lit ?_
 refine st_p (Value.bool false) hA ?_; clear hA ac; intro ac hA
 refine wpList_nil ?_
 refine thenN ?_
 refine wp_seq ?_
 refine wp_region_lit ?_
 refine st_p (Value.int .i64 ((a : Nat) : Int)) hA ?_; clear hA ac; intro ac hA
 refine st_q (Value.int .i64 ((a + 1 : Nat) : Int)) hA hW.cls (Rd.pureE (v0 := Value.int .i64 (IntKind.i64.wrap ((((a : Nat) : Int) : Int) + 1))) (fun _ => by kernel_rfl) (congrArg (Value.int .i64) ((w_i64 (x := (((a : Nat) : Int) : Int) + 1) (by omega) (by omega)).trans (by omega)))) ?_; clear hA ac; intro ac hA
 refine st_p (Value.int .i64 ((a + 1 : Nat) : Int)) hA ?_; clear hA ac; intro ac hA
 refine wpList_nil ?_
 refine thenN ?_
 refine wp_seq ?_
 refine wp_seq ?_
 refine wp_region_lit ?_
 refine st_p (Value.int .i64 0) hA ?_; clear hA ac; intro ac hA
 refine wpList_nil ?_
 refine thenN ?_
 refine wp_block ?_
 refine wp_loop_rounds 1 ?_
 rw [rounds_succ]
 refine wp_seq ?_
 refine wp_seq ?_
 refine wp_region_lit ?_
 refine st_p (Value.int .i64 0) hA ?_; clear hA ac; intro ac hA
 refine st_p (Value.bool true) hA ?_; clear hA ac; intro ac hA
 refine wpList_nil ?_
 refine thenN ?_
 refine wp_cond_true (hA.eval (by kernel_rfl)) ?_
 refine wp_skip ?_
 refine thenN ?_
 refine wp_seq ?_
 refine wp_block ?_
 refine wp_seq ?_
 refine wp_block ?_
 refine wp_loop_m (fun m_ ac_ wl_ => ∃ i : Nat, m_ = b - i ∧ (a + 1 ≤ i ∧ i ≤ b) ∧ (Sort.scanSorted Sort.ltInt l.toArray b i = Sort.scanSorted Sort.ltInt l.toArray b (a + 1)) ∧ Fm 133 [] [(0, Value.slice A_l l.length c_l), (1, Value.int .i64 ((a : Nat) : Int)), (2, Value.int .i64 ((b : Nat) : Int)), (7, Value.int .i64 ((i : Nat) : Int)), (8, Value.int .i64 0)] ac_ ∧ Ws w No [] [roR A_l 1 enU4 l] wl_) _ ⟨a + 1, rfl, by omega, by rfl, hA.sub ⟨⟨by kernel_rfl, by kernel_rfl⟩, ⟨by kernel_rfl, by kernel_rfl⟩, ⟨by kernel_rfl, by kernel_rfl⟩, ⟨by kernel_rfl, by kernel_rfl⟩, ⟨by kernel_rfl, by kernel_rfl⟩, trivial⟩, (hW.pick [] (by decide) rfl).pickG [0] rfl⟩ ?_
 clear hA ac hW; rintro m_ ac w1 ⟨i, rfl, hi, hs, hA, hW⟩
 refine wp_seq ?_
 refine wp_seq ?_
 refine q_region (by kernel_rfl) (by kernel_rfl) hW ?_
 refine sq_p (Value.int .i64 ((i : Nat) : Int)) hA ?_; clear hA ac; intro ac hA
 refine sq_p (Value.int .i64 ((b : Nat) : Int)) hA ?_; clear hA ac; intro ac hA
 refine sq_p (Value.bool (decide ((((i : Nat) : Int) : Int) < (((b : Nat) : Int) : Int)))) hA ?_; clear hA ac; intro ac hA
 refine sq_p (Value.bool (decide ((((i : Nat) : Int) : Int) < (((b : Nat) : Int) : Int)))) hA ?_; clear hA ac; intro ac hA
 rcases Bool.eq_false_or_eq_true (decide ((((i : Nat) : Int) : Int) < (((b : Nat) : Int) : Int))) with h2 | h2
 · skip
   rw [h2] at hA
   have h2 := of_decide_eq_true h2
   first
   | (exfalso; clear hA hW; omega)
   | (
     refine sq_p (Value.slice A_l l.length c_l) hA ?_; clear hA ac; intro ac hA
     refine sq_p (Value.int .i64 ((i : Nat) : Int)) hA ?_; clear hA ac; intro ac hA
     obtain ⟨y3, hy3⟩ : ∃ y, l[i]? = some y := ⟨_, List.getElem?_eq_getElem (by first | omega | (simp; done) | (simp; omega))⟩
     obtain ⟨b4, o5, rfl, hbb4⟩ := row_some ((hW).getG 0 rfl) hy3
     refine sq_q (Value.pointer (some ⟨b4, o5 + i * 1, none⟩)) hA (Rd.indexAddr (e := 35) (sz := 1) (b := b4) (off := o5) (n := l.length) (c := c_l) (k := i) (by kernel_rfl) (by kernel_rfl) (by first | omega | (simp; done) | (simp; omega)) (fun _ => by kernel_rfl) (fun _ => by kernel_rfl)) ?_; clear hA ac; intro ac hA
     refine sq_q (Value.int .u32 y3) hA (Rd.loadRow (b := b4) (i := o5 + i * 1) (xs := [Value.int .u32 y3]) (by kernel_rfl) (fun _ hw => row_ld ((hw.1).getG 0 rfl) hy3 (Fr.refl No _) (fun h => h) 0 1 (by kernel_rfl)) (by kernel_rfl)) ?_; clear hA ac; intro ac hA
     refine sq_p (Value.slice (some ⟨b4, o5, none⟩) l.length c_l) hA ?_; clear hA ac; intro ac hA
     refine sq_p (Value.int .i64 ((i : Nat) : Int)) hA ?_; clear hA ac; intro ac hA
     refine sq_q (Value.int .i64 ((i - 1 : Nat) : Int)) hA (Rd.pureE (v0 := Value.int .i64 (IntKind.i64.wrap ((((i : Nat) : Int) : Int) - 1))) (fun _ => by kernel_rfl) (congrArg (Value.int .i64) ((w_i64 (x := (((i : Nat) : Int) : Int) - 1) (by omega) (by omega)).trans (by omega)))) ?_; clear hA ac; intro ac hA
     obtain ⟨y6, hy6⟩ : ∃ y, l[i - 1]? = some y := ⟨_, List.getElem?_eq_getElem (by first | omega | (simp; done) | (simp; omega))⟩
     refine sq_q (Value.pointer (some ⟨b4, o5 + (i - 1) * 1, none⟩)) hA (Rd.indexAddr (e := 35) (sz := 1) (b := b4) (off := o5) (n := l.length) (c := c_l) (k := i - 1) (by kernel_rfl) (by kernel_rfl) (by first | omega | (simp; done) | (simp; omega)) (fun _ => by kernel_rfl) (fun _ => by kernel_rfl)) ?_; clear hA ac; intro ac hA
     refine sq_q (Value.int .u32 y6) hA (Rd.loadRow (b := b4) (i := o5 + (i - 1) * 1) (xs := [Value.int .u32 y6]) (by kernel_rfl) (fun _ hw => row_ld ((hw.1).getG 0 rfl) hy6 (Fr.refl No _) (fun h => h) 0 1 (by kernel_rfl)) (by kernel_rfl)) ?_; clear hA ac; intro ac hA
     refine sq_call (v := Value.bool (decide ((y3) < (y6)))) hA (by kernel_rfl) (by kernel_rfl) (by kernel_rfl) (fun _ => by kernel_rfl) (Cls.callNC fun wx hwx => e_less (y3) (y6) wx) ?_; clear hA ac; intro ac hA
     refine sq_p (Value.bool (!(decide ((y3) < (y6))))) hA ?_; clear hA ac; intro ac hA
     refine sq_p (Value.bool (!(decide ((y3) < (y6))))) hA ?_; clear hA ac; intro ac hA
     refine sq_nil ?_; intro w7 hww7; have hW := hww7.1; have hfw7 := hww7.2; clear hww7
     refine thenN ?_
     refine wp_cond_split (t := !(decide ((y3) < (y6)))) (hA.eval (by kernel_rfl)) (fun h8 => ?_) (fun h8 => ?_)
     · skip
       have h8 := not_t h8
       have h8 := of_decide_eq_false h8
       first
       | (exfalso; clear hA hW; omega)
       | (
         refine wp_skip ?_
         refine thenN ?_
         refine wp_block ?_
         refine wp_region_lit ?_
         refine st_p (Value.int .i64 ((i : Nat) : Int)) hA ?_; clear hA ac; intro ac hA
         refine st_q (Value.int .i64 ((i + 1 : Nat) : Int)) hA hW.cls (Rd.pureE (v0 := Value.int .i64 (IntKind.i64.wrap ((((i : Nat) : Int) : Int) + 1))) (fun _ => by kernel_rfl) (congrArg (Value.int .i64) ((w_i64 (x := (((i : Nat) : Int) : Int) + 1) (by omega) (by omega)).trans (by omega)))) ?_; clear hA ac; intro ac hA
         refine st_p (Value.int .i64 ((i + 1 : Nat) : Int)) hA ?_; clear hA ac; intro ac hA
         refine wpList_nil ?_
         refine blkN ?_
         refine thenN ?_
         exact ⟨b - (i + 1), by omega, i + 1, rfl, by omega, by rw [← hs]; exact (ss_go (by omega) hy3 hy6 (by omega)).symm, hA.sub ⟨⟨by kernel_rfl, by kernel_rfl⟩, ⟨by kernel_rfl, by kernel_rfl⟩, ⟨by kernel_rfl, by kernel_rfl⟩, ⟨by kernel_rfl, by kernel_rfl⟩, ⟨by kernel_rfl, by kernel_rfl⟩, trivial⟩, (hW.pick [] (by decide) rfl).pickG [0] rfl⟩)
     · skip
       have h8 := not_f h8
       have h8 := of_decide_eq_true h8
       first
       | (exfalso; clear hA hW; omega)
       | (
         refine wp_exit ?_
         refine thenX ?_
         refine thenX ?_
         refine blkX ?_
         refine thenN ?_
         refine wp_seq ?_
         refine wp_seq ?_
         have hse_ : Sort.scanSorted Sort.ltInt l.toArray b (a + 1) = i := by rw [← hs]; exact ss_end (.inr ⟨_, _, hy3, hy6, by omega⟩)
         refine wp_region_lit ?_
         refine st_p (Value.int .i64 ((i : Nat) : Int)) hA ?_; clear hA ac; intro ac hA
         refine st_p (Value.int .i64 ((b : Nat) : Int)) hA ?_; clear hA ac; intro ac hA
         refine st_p (Value.bool ((((i : Nat) : Int) : Int) == (((b : Nat) : Int) : Int))) hA ?_; clear hA ac; intro ac hA
         refine wpList_nil ?_
         refine thenN ?_
         refine wp_cond_split (t := (((i : Nat) : Int) : Int) == (((b : Nat) : Int) : Int)) (hA.eval (by kernel_rfl)) (fun h9 => ?_) (fun h9 => ?_)
         · skip
           have h9 := eq_of_beq h9
           first
           | (exfalso; clear hA hW; omega)
           | (
             refine wp_seq ?_
             refine wp_region_lit ?_
             refine st_p (Value.bool true) hA ?_; clear hA ac; intro ac hA
             refine wpList_nil ?_
             refine thenN ?_
             refine wp_ret ?_
             refine thenR ?_
             refine blkR ?_
             refine thenR ?_
             refine thenR ?_
             refine blkR ?_
             refine thenR ?_
             refine ret1 (v := Value.bool true) (by rfl) hA (Got.tmp hA (by kernel_rfl) (by kernel_rfl)) ?_
             clear hA
             exact ⟨retv (congrArg Value.bool (by rw [pins_true (by omega)])), hW.fr⟩)
         · skip
           have h9 := ne_of_beq_false h9
           first
           | (exfalso; clear hA hW; omega)
           | (
             refine wp_skip ?_
             refine thenN ?_
             refine wp_seq ?_
             refine wp_seq ?_
             refine wp_region_lit ?_
             refine st_p (Value.int .i64 ((b : Nat) : Int)) hA ?_; clear hA ac; intro ac hA
             refine st_p (Value.int .i64 ((a : Nat) : Int)) hA ?_; clear hA ac; intro ac hA
             refine st_q (Value.int .i64 ((b - a : Nat) : Int)) hA hW.cls (Rd.pureE (v0 := Value.int .i64 (IntKind.i64.wrap ((((b : Nat) : Int) : Int) - ((a : Nat) : Int)))) (fun _ => by kernel_rfl) (congrArg (Value.int .i64) ((w_i64 (x := (((b : Nat) : Int) : Int) - ((a : Nat) : Int)) (by omega) (by omega)).trans (by omega)))) ?_; clear hA ac; intro ac hA
             refine st_p (Value.bool (decide ((((b - a : Nat) : Int) : Int) < (50 : Int)))) hA ?_; clear hA ac; intro ac hA
             refine wpList_nil ?_
             refine thenN ?_
             refine wp_cond_split (t := decide ((((b - a : Nat) : Int) : Int) < (50 : Int))) (hA.eval (by kernel_rfl)) (fun h10 => ?_) (fun h10 => ?_)
             · skip
               have h10 := of_decide_eq_true h10
               first
               | (exfalso; clear hA hW; omega)
               | (
                 refine wp_seq ?_
                 refine wp_region_lit ?_
                 refine st_p (Value.bool false) hA ?_; clear hA ac; intro ac hA
                 refine wpList_nil ?_
                 refine thenN ?_
                 refine wp_ret ?_
                 refine thenR ?_
                 refine blkR ?_
                 refine thenR ?_
                 refine thenR ?_
                 refine blkR ?_
                 refine thenR ?_
                 refine ret1 (v := Value.bool false) (by rfl) hA (Got.tmp hA (by kernel_rfl) (by kernel_rfl)) ?_
                 clear hA
                 exact ⟨retv (congrArg Value.bool (by rw [pins_false (by omega) (by omega)])), hW.fr⟩)
             · skip
               have h10 := of_decide_eq_false h10
               first
               | (exfalso; clear hA hW; omega)
               | (
                 fail))))
 · skip
   rw [h2] at hA
   have h2 := of_decide_eq_false h2
   first
   | (exfalso; clear hA hW; omega)
   | (
     refine sq_k hA ?_; clear hA ac; intro ac hA
     refine sq_k hA ?_; clear hA ac; intro ac hA
     refine sq_k hA ?_; clear hA ac; intro ac hA
     refine sq_k hA ?_; clear hA ac; intro ac hA
     refine sq_k hA ?_; clear hA ac; intro ac hA
     refine sq_k hA ?_; clear hA ac; intro ac hA
     refine sq_k hA ?_; clear hA ac; intro ac hA
     refine sq_k hA ?_; clear hA ac; intro ac hA
     refine sq_k hA ?_; clear hA ac; intro ac hA
     refine sq_k hA ?_; clear hA ac; intro ac hA
     refine sq_k hA ?_; clear hA ac; intro ac hA
     refine sq_p (Value.bool false) hA ?_; clear hA ac; intro ac hA
     refine sq_nil ?_; intro w11 hww11; have hW := hww11.1; have hfw11 := hww11.2; clear hww11
     refine thenN ?_
     refine wp_cond_false (hA.eval (by kernel_rfl)) ?_
     refine wp_exit ?_
     refine thenX ?_
     refine thenX ?_
     refine blkX ?_
     refine thenN ?_
     refine wp_seq ?_
     refine wp_seq ?_
     have hse_ : Sort.scanSorted Sort.ltInt l.toArray b (a + 1) = i := by rw [← hs]; exact ss_end (.inl (by omega))
     refine wp_region_lit ?_
     refine st_p (Value.int .i64 ((i : Nat) : Int)) hA ?_; clear hA ac; intro ac hA
     refine st_p (Value.int .i64 ((b : Nat) : Int)) hA ?_; clear hA ac; intro ac hA
     refine st_p (Value.bool ((((i : Nat) : Int) : Int) == (((b : Nat) : Int) : Int))) hA ?_; clear hA ac; intro ac hA
     refine wpList_nil ?_
     refine thenN ?_
     refine wp_cond_split (t := (((i : Nat) : Int) : Int) == (((b : Nat) : Int) : Int)) (hA.eval (by kernel_rfl)) (fun h12 => ?_) (fun h12 => ?_)
     · skip
       have h12 := eq_of_beq h12
       first
       | (exfalso; clear hA hW; omega)
       | (
         refine wp_seq ?_
         refine wp_region_lit ?_
         refine st_p (Value.bool true) hA ?_; clear hA ac; intro ac hA
         refine wpList_nil ?_
         refine thenN ?_
         refine wp_ret ?_
         refine thenR ?_
         refine blkR ?_
         refine thenR ?_
         refine thenR ?_
         refine blkR ?_
         refine thenR ?_
         refine ret1 (v := Value.bool true) (by rfl) hA (Got.tmp hA (by kernel_rfl) (by kernel_rfl)) ?_
         clear hA
         exact ⟨retv (congrArg Value.bool (by rw [pins_true (by omega)])), hW.fr⟩)
     · skip
       have h12 := ne_of_beq_false h12
       first
       | (exfalso; clear hA hW; omega)
       | (
         refine wp_skip ?_
         refine thenN ?_
         refine wp_seq ?_
         refine wp_seq ?_
         refine wp_region_lit ?_
         refine st_p (Value.int .i64 ((b : Nat) : Int)) hA ?_; clear hA ac; intro ac hA
         refine st_p (Value.int .i64 ((a : Nat) : Int)) hA ?_; clear hA ac; intro ac hA
         refine st_q (Value.int .i64 ((b - a : Nat) : Int)) hA hW.cls (Rd.pureE (v0 := Value.int .i64 (IntKind.i64.wrap ((((b : Nat) : Int) : Int) - ((a : Nat) : Int)))) (fun _ => by kernel_rfl) (congrArg (Value.int .i64) ((w_i64 (x := (((b : Nat) : Int) : Int) - ((a : Nat) : Int)) (by omega) (by omega)).trans (by omega)))) ?_; clear hA ac; intro ac hA
         refine st_p (Value.bool (decide ((((b - a : Nat) : Int) : Int) < (50 : Int)))) hA ?_; clear hA ac; intro ac hA
         refine wpList_nil ?_
         refine thenN ?_
         refine wp_cond_split (t := decide ((((b - a : Nat) : Int) : Int) < (50 : Int))) (hA.eval (by kernel_rfl)) (fun h13 => ?_) (fun h13 => ?_)
         · skip
           have h13 := of_decide_eq_true h13
           first
           | (exfalso; clear hA hW; omega)
           | (
             refine wp_seq ?_
             refine wp_region_lit ?_
             refine st_p (Value.bool false) hA ?_; clear hA ac; intro ac hA
             refine wpList_nil ?_
             refine thenN ?_
             refine wp_ret ?_
             refine thenR ?_
             refine blkR ?_
             refine thenR ?_
             refine thenR ?_
             refine blkR ?_
             refine thenR ?_
             refine ret1 (v := Value.bool false) (by rfl) hA (Got.tmp hA (by kernel_rfl) (by kernel_rfl)) ?_
             clear hA
             exact ⟨retv (congrArg Value.bool (by rw [pins_false (by omega) (by omega)])), hW.fr⟩)
         · skip
           have h13 := of_decide_eq_false h13
           first
           | (exfalso; clear hA hW; omega)
           | (
             fail)))

end Go.Proofs.Ytcgcippmbeileaa.L
