/- Contracts, walked by program over the engine's laws. -/
import Derived.Test.YtcgcippmbeileaaProg
import Derived.Test.YtcgcippmbeileaaT3
namespace Go.Proofs.Ytcgcippmbeileaa.L
open Go.RowKit

section part
variable {a i j i2 j2 : Nat} {d : Array Int}
theorem pl_end (h1 : Sort.scanUp (fun x => Sort.ltInt x d[a]!) d j i = i2) (h2 : Sort.scanDown (fun x => !Sort.ltInt x d[a]!) d i2 j = j2) (h : i2 > j2) : Sort.partLoop Sort.ltInt a i j d = (j2, d) := by
  rw [Sort.partLoop]; simp only [h1, h2]; rw [if_pos h]
theorem pl_step (h1 : Sort.scanUp (fun x => Sort.ltInt x d[a]!) d j i = i2) (h2 : Sort.scanDown (fun x => !Sort.ltInt x d[a]!) d i2 j = j2) (h : ¬ i2 > j2) (hi : i ≤ i2) (hj : j2 ≤ j) (h0 : 1 ≤ i2) : Sort.partLoop Sort.ltInt a i j d = Sort.partLoop Sort.ltInt a (i2 + 1) (j2 - 1) (Sort.swp d i2 j2) := by
  rw [Sort.partLoop]; simp only [h1, h2]; rw [if_neg h, dif_pos (by omega)]
theorem pe_end (h1 : Sort.scanUp (fun x => !Sort.ltInt d[a]! x) d j i = i2) (h2 : Sort.scanDown (fun x => Sort.ltInt d[a]! x) d i2 j = j2) (h : i2 > j2) : Sort.partEqLoop Sort.ltInt a i j d = (i2, d) := by
  rw [Sort.partEqLoop]; simp only [h1, h2]; rw [if_pos h]
theorem pe_step (h1 : Sort.scanUp (fun x => !Sort.ltInt d[a]! x) d j i = i2) (h2 : Sort.scanDown (fun x => Sort.ltInt d[a]! x) d i2 j = j2) (h : ¬ i2 > j2) (hi : i ≤ i2) (hj : j2 ≤ j) (h0 : 1 ≤ i2) : Sort.partEqLoop Sort.ltInt a i j d = Sort.partEqLoop Sort.ltInt a (i2 + 1) (j2 - 1) (Sort.swp d i2 j2) := by
  rw [Sort.partEqLoop]; simp only [h1, h2]; rw [if_neg h, dif_pos (by omega)]
variable {p q : Int → Bool}
theorem up_stop (d : Array Int) {j i k : Nat} (h : Sort.scanUp p d j i = k) : i ≤ k ∧ (k ≤ j → p d[k]! = false) := by
  generalize hn : j + 1 - i = n
  induction n generalizing i with
  | zero => rw [Sort.scanUp, if_neg (by simp; omega)] at h; subst h; exact ⟨by omega, by omega⟩
  | succ n ih =>
    rw [Sort.scanUp] at h
    by_cases hp : p d[i]! = true
    · rw [if_pos (by simp [hp]; omega)] at h; have r := ih h (by omega); exact ⟨by omega, r.2⟩
    · rw [if_neg (by simp [hp])] at h; subst h; exact ⟨by omega, fun _ => by simpa using hp⟩
theorem down_stop (d : Array Int) {j i k : Nat} (hi : 1 ≤ i) (h : Sort.scanDown p d i j = k) : k ≤ j ∧ (i ≤ k → p d[k]! = false) := by
  induction j with
  | zero => simp only [Sort.scanDown] at h; subst h; exact ⟨by omega, by omega⟩
  | succ j ih =>
    simp only [Sort.scanDown] at h
    by_cases hp : (decide (i ≤ j + 1) && p d[j + 1]!) = true
    · rw [if_pos hp] at h; have r := ih h; exact ⟨by omega, r.2⟩
    · rw [if_neg hp] at h; subst h; refine ⟨by omega, fun hk => ?_⟩; simpa [hk] using hp
theorem scan_ne {d : Array Int} {i0 j0 k0 j1 i j : Nat} (hi : 1 ≤ i0) (hu : Sort.scanUp p d j0 i0 = i) (hv : Sort.scanDown (fun x => !p x) d k0 j1 = j) (hk : k0 = i) (hj : j1 ≤ j0) (h : i ≤ j) : i ≠ j := by
  subst hk; intro e
  have a := up_stop d hu; have b := down_stop d (by omega) hv
  have c := a.2 (by omega); have f := b.2 h
  rw [← e] at f; simp [c] at f
theorem scan_ne' {d : Array Int} {i0 j0 k0 j1 i j : Nat} (hi : 1 ≤ i0) (hu : Sort.scanUp (fun x => !p x) d j0 i0 = i) (hv : Sort.scanDown p d k0 j1 = j) (hk : k0 = i) (hj : j1 ≤ j0) (h : i ≤ j) : i ≠ j := by
  subst hk; intro e
  have a := up_stop d hu; have b := down_stop d (by omega) hv
  have c := a.2 (by omega); have f := b.2 h
  rw [← e] at f; simp [f] at c
end part
set_option maxRecDepth 100000 in
theorem e_part (A_l : Option Addr) (n_l c_l : Nat) (l : List Int) (a : Nat) (b : Nat) (pivot : Nat) (w : World) (ho_l : (srtR A_l n_l c_l l).p w) (hl_l : ∀ x_ ∈ (srtR A_l n_l c_l l).fp, x_ < w.heap.size) (hab : a ≤ pivot ∧ pivot < b ∧ b ≤ l.length) (hsz : l.length ≤ 1000000) : Calls Try.prog 63 #[Value.slice A_l n_l c_l, Value.int .i64 ((a : Nat) : Int), Value.int .i64 ((b : Nat) : Int), Value.int .i64 ((pivot : Nat) : Int)] w (fun e w' => ∃ l' : List Int, ∃ m : Nat, ∃ al : Bool, e = .returned (Value.tuple #[Value.int .i64 ((m : Nat) : Int), Value.bool al]) ∧ ((m, al, l'.toArray) = Sort.partition Sort.ltInt l.toArray a b pivot) ∧ (l'.length = l.length) ∧ (a ≤ m ∧ m < b) ∧ Upd (srtR A_l n_l c_l l) (srtR A_l n_l c_l l') w w') := by
 have _hu := ho_l; have _hv := hl_l; clear _hu _hv
 have _hu := hab; clear _hu
 have _hu := hsz; clear _hu
 refine enter_E 168 Try.func63 rfl rfl (by kernel_rfl) (L := [(0, Value.slice A_l n_l c_l), (1, Value.int .i64 ((a : Nat) : Int)), (2, Value.int .i64 ((b : Nat) : Int)), (3, Value.int .i64 ((pivot : Nat) : Int))]) (by kernel_rfl) ?_
 intro ac hA
 have hW : Ws w (· ∈ (srtR A_l n_l c_l l).fp) [rowR 35 1 enU4 (Value.slice A_l n_l c_l) l] [] w := objW ho_l hl_l
 clear ho_l hl_l
 have hn_l : n_l = l.length := rowR_n (hW.get 0 rfl)
 refine wp_seq ?_
 refine wp_region_lit ?_
 refine st_p (Value.int .i64 0) hA ?_; clear hA ac; intro ac hA
 refine st_p (Value.bool false) hA ?_; clear hA ac; intro ac hA
 refine wpList_nil ?_
 refine thenN ?_
 refine wp_seq ?_
 obtain ⟨y1, hy1⟩ : ∃ y, l[a]? = some y := ⟨_, List.getElem?_eq_getElem (by omega)⟩
 obtain ⟨b2, o3, rfl, hbb2⟩ := row_some (rowR_at ((hW).get 0 rfl) elt_U4.len) hy1
 obtain ⟨y4, hy4⟩ : ∃ y, l[pivot]? = some y := ⟨_, List.getElem?_eq_getElem (by omega)⟩
 refine wp_cut (fun ac_ wl_ => Fm 168 [] [(0, Value.slice (some ⟨b2, o3, none⟩) n_l c_l), (1, Value.int .i64 ((a : Nat) : Int)), (2, Value.int .i64 ((b : Nat) : Int)), (8, Value.int .i64 0), (9, Value.bool false)] ac_ ∧ Ws w (· ∈ (srtR (some ⟨b2, o3, none⟩) n_l c_l l).fp) [rowR 35 1 enU4 (Value.slice (some ⟨b2, o3, none⟩) n_l c_l) (List.set (List.set l a (y4 : Int)) pivot (y1 : Int))] [] wl_) ?_ ?_
 · refine sr_region (m := 16) (C := Ws w (· ∈ (srtR (some ⟨b2, o3, none⟩) n_l c_l l).fp) [rowR 35 1 enU4 (Value.slice (some ⟨b2, o3, none⟩) n_l c_l) l] []) (fun i => [7, 11].contains i) (fun i => [7, 11].contains i) (fun i => [0, 1, 2, 3, 4, 5, 6, 8, 9, 10, 12, 14].contains i) (by kernel_rfl) (by kernel_rfl) (by kernel_rfl) (by kernel_rfl) hW ?_; clear hW; intro w5 hW hfw5 hR; have hC : Ws w (· ∈ (srtR (some ⟨b2, o3, none⟩) n_l c_l l).fp) [rowR 35 1 enU4 (Value.slice (some ⟨b2, o3, none⟩) n_l c_l) l] [] w5 := hW.pick [0] (by decide) rfl
   refine sr_p 0 (Value.slice (some ⟨b2, o3, none⟩) n_l c_l) hR rfl hA ?_; clear hA ac; intro ac hA
   refine sr_p 1 (Value.int .i64 ((a : Nat) : Int)) hR rfl hA ?_; clear hA ac; intro ac hA
   refine sr_p 2 (Value.slice (some ⟨b2, o3, none⟩) n_l c_l) hR rfl hA ?_; clear hA ac; intro ac hA
   refine sr_p 3 (Value.int .i64 ((pivot : Nat) : Int)) hR rfl hA ?_; clear hA ac; intro ac hA
   refine sr_p 4 (Value.slice (some ⟨b2, o3, none⟩) n_l c_l) hR rfl hA ?_; clear hA ac; intro ac hA
   refine sr_p 5 (Value.int .i64 ((pivot : Nat) : Int)) hR rfl hA ?_; clear hA ac; intro ac hA
   refine sr_q 6 (Value.pointer (some ⟨b2, o3 + pivot * 1, none⟩)) hR rfl hA (Rd.indexAddr (e := 35) (sz := 1) (b := b2) (off := o3) (n := n_l) (c := c_l) (k := pivot) (by kernel_rfl) (by kernel_rfl) (by first | omega | (simp; done) | (simp; omega)) (fun _ => by kernel_rfl) (fun _ => by kernel_rfl)) ?_; clear hA ac; intro ac hA
   refine sr_t 7 (Value.int .u32 y4) hR rfl hA hC (Rd.loadRow (b := b2) (i := o3 + pivot * 1) (xs := [Value.int .u32 y4]) (by kernel_rfl) (fun _ hw => row_ld (rowR_at ((hw).get 0 rfl) elt_U4.len) hy4 (Fr.refl No _) (fun h => h) 0 1 (by kernel_rfl)) (by kernel_rfl)) ?_; clear hA ac; intro ac hA
   refine sr_p 8 (Value.slice (some ⟨b2, o3, none⟩) n_l c_l) hR rfl hA ?_; clear hA ac; intro ac hA
   refine sr_p 9 (Value.int .i64 ((a : Nat) : Int)) hR rfl hA ?_; clear hA ac; intro ac hA
   refine sr_q 10 (Value.pointer (some ⟨b2, o3 + a * 1, none⟩)) hR rfl hA (Rd.indexAddr (e := 35) (sz := 1) (b := b2) (off := o3) (n := n_l) (c := c_l) (k := a) (by kernel_rfl) (by kernel_rfl) (by first | omega | (simp; done) | (simp; omega)) (fun _ => by kernel_rfl) (fun _ => by kernel_rfl)) ?_; clear hA ac; intro ac hA
   refine sr_t 11 (Value.int .u32 y1) hR rfl hA hC (Rd.loadRow (b := b2) (i := o3 + a * 1) (xs := [Value.int .u32 y1]) (by kernel_rfl) (fun _ hw => row_ld (rowR_at ((hw).get 0 rfl) elt_U4.len) hy1 (Fr.refl No _) (fun h => h) 0 1 (by kernel_rfl)) (by kernel_rfl)) ?_; clear hA ac; intro ac hA
   refine sr_q 12 (Value.pointer (some ⟨b2, o3 + a * 1, none⟩)) hR rfl hA (Rd.indexAddr (e := 35) (sz := 1) (b := b2) (off := o3) (n := n_l) (c := c_l) (k := a) (by kernel_rfl) (by kernel_rfl) (by first | omega | (simp; done) | (simp; omega)) (fun _ => by kernel_rfl) (fun _ => by kernel_rfl)) ?_; clear hA ac; intro ac hA
   refine sr_one (i := 13) (by kernel_rfl) (sr_d rfl hA (Runs.storeRow (E := 35) (sz := 1) (en := enU4) (b := b2) (off := o3) (k := a) (n := n_l) (c := c_l) (v := Value.int .u32 y4) (y4 : Int) elt_U4 (by kernel_rfl) (by kernel_rfl) (by kernel_rfl) (by kernel_rfl) hW (i := 0) rfl (by first | omega | (simp; done) | (simp; omega)) (by first | rfl | omega | (simp; done) | (simp; omega)) ?_)); clear hA ac hW; intro w6 hW ac hA
   refine ⟨⟨fun h => absurd h (by decide), fun h => absurd h (by decide)⟩, ?_⟩
   obtain ⟨y7, hy7⟩ : ∃ y, (List.set l a (y4 : Int))[pivot]? = some y := ⟨_, List.getElem?_eq_getElem (by first | omega | (simp; done) | (simp; omega))⟩
   refine sr_q 14 (Value.pointer (some ⟨b2, o3 + pivot * 1, none⟩)) hR rfl hA (Rd.indexAddr (e := 35) (sz := 1) (b := b2) (off := o3) (n := n_l) (c := c_l) (k := pivot) (by kernel_rfl) (by kernel_rfl) (by first | omega | (simp; done) | (simp; omega)) (fun _ => by kernel_rfl) (fun _ => by kernel_rfl)) ?_; clear hA ac; intro ac hA
   refine sr_one (i := 15) (by kernel_rfl) (sr_d rfl hA (Runs.storeRow (E := 35) (sz := 1) (en := enU4) (b := b2) (off := o3) (k := pivot) (n := n_l) (c := c_l) (v := Value.int .u32 y1) (y1 : Int) elt_U4 (by kernel_rfl) (by kernel_rfl) (by kernel_rfl) (by kernel_rfl) hW (i := 0) rfl (by first | omega | (simp; done) | (simp; omega)) (by first | rfl | omega | (simp; done) | (simp; omega)) ?_)); clear hA ac hW; intro w8 hW ac hA
   refine ⟨⟨fun h => absurd h (by decide), fun h => absurd h (by decide)⟩, ?_⟩
   refine sr_done (by kernel_rfl) ?_ _
   exact ⟨hA.sub ⟨⟨by kernel_rfl, by kernel_rfl⟩, ⟨by kernel_rfl, by kernel_rfl⟩, ⟨by kernel_rfl, by kernel_rfl⟩, ⟨by kernel_rfl, by kernel_rfl⟩, ⟨by kernel_rfl, by kernel_rfl⟩, trivial⟩, (hW.pick [0] (by decide) rfl).pickG [] rfl⟩
 clear hA ac hW; rintro ac w9 ⟨hA, hW⟩
 refine thenN ?_
 refine wp_seq ?_
 obtain ⟨d0, hd0⟩ : ∃ d_, d_ = List.set (List.set l a (y4 : Int)) pivot (y1 : Int) := ⟨_, rfl⟩; rw [← hd0] at hW
 have e0_ : d0.toArray = Sort.swp l.toArray a pivot := by rw [hd0]; exact arr_swp hy1 hy4
 have el0_ : d0.length = l.length := by rw [hd0]; exact set2_len
 refine wp_region_lit ?_
 refine st_p (Value.int .i64 ((a : Nat) : Int)) hA ?_; clear hA ac; intro ac hA
 refine st_q (Value.int .i64 ((a + 1 : Nat) : Int)) hA hW.cls (Rd.pureE (v0 := Value.int .i64 (IntKind.i64.wrap ((((a : Nat) : Int) : Int) + 1))) (fun _ => by kernel_rfl) (congrArg (Value.int .i64) ((w_i64 (x := (((a : Nat) : Int) : Int) + 1) (by omega) (by omega)).trans (by omega)))) ?_; clear hA ac; intro ac hA
 refine st_p (Value.int .i64 ((b : Nat) : Int)) hA ?_; clear hA ac; intro ac hA
 refine st_q (Value.int .i64 ((b - 1 : Nat) : Int)) hA hW.cls (Rd.pureE (v0 := Value.int .i64 (IntKind.i64.wrap ((((b : Nat) : Int) : Int) - 1))) (fun _ => by kernel_rfl) (congrArg (Value.int .i64) ((w_i64 (x := (((b : Nat) : Int) : Int) - 1) (by omega) (by omega)).trans (by omega)))) ?_; clear hA ac; intro ac hA
 refine st_p (Value.int .i64 ((a + 1 : Nat) : Int)) hA ?_; clear hA ac; intro ac hA
 refine st_p (Value.int .i64 ((b - 1 : Nat) : Int)) hA ?_; clear hA ac; intro ac hA
 refine wpList_nil ?_
 refine thenN ?_
 refine wp_seq ?_
 refine wp_cut (fun ac_ wl_ => ∃ i : Nat, (a + 1 ≤ i ∧ i ≤ b ∧ i ≤ (b - 1) + 1) ∧ (Sort.scanUp (fun x => Sort.ltInt x d0.toArray[a]!) d0.toArray (b - 1) (a + 1) = i) ∧ Fm 168 [] [(0, Value.slice (some ⟨b2, o3, none⟩) n_l c_l), (1, Value.int .i64 ((a : Nat) : Int)), (10, Value.int .i64 ((i : Nat) : Int)), (11, Value.int .i64 ((b - 1 : Nat) : Int))] ac_ ∧ Ws w (· ∈ (srtR (some ⟨b2, o3, none⟩) n_l c_l l).fp) [rowR 35 1 enU4 (Value.slice (some ⟨b2, o3, none⟩) n_l c_l) d0] [] wl_) ?_ ?_
 · skip
   refine wp_block ?_
   refine wp_loop_m (fun m_ ac_ wl_ => ∃ i : Nat, m_ = b - i ∧ (a + 1 ≤ i ∧ i ≤ b ∧ i ≤ (b - 1) + 1) ∧ (Sort.scanUp (fun x => Sort.ltInt x d0.toArray[a]!) d0.toArray (b - 1) i = Sort.scanUp (fun x => Sort.ltInt x d0.toArray[a]!) d0.toArray (b - 1) (a + 1)) ∧ Fm 168 [] [(0, Value.slice (some ⟨b2, o3, none⟩) n_l c_l), (1, Value.int .i64 ((a : Nat) : Int)), (10, Value.int .i64 ((i : Nat) : Int)), (11, Value.int .i64 ((b - 1 : Nat) : Int))] ac_ ∧ Ws w (· ∈ (srtR (some ⟨b2, o3, none⟩) n_l c_l l).fp) [rowR 35 1 enU4 (Value.slice (some ⟨b2, o3, none⟩) n_l c_l) d0] [] wl_) _ ⟨a + 1, rfl, by omega, by rfl, hA.sub ⟨⟨by kernel_rfl, by kernel_rfl⟩, ⟨by kernel_rfl, by kernel_rfl⟩, ⟨by kernel_rfl, by kernel_rfl⟩, ⟨by kernel_rfl, by kernel_rfl⟩, trivial⟩, (hW.pick [0] (by decide) rfl).pickG [] rfl⟩ ?_
   clear hA ac hW; rintro m_ ac w10 ⟨i, rfl, hbhu1, hu1, hA, hW⟩
   refine wp_seq ?_
   refine wp_seq ?_
   refine q_region (by kernel_rfl) (by kernel_rfl) hW ?_
   refine sq_p (Value.int .i64 ((i : Nat) : Int)) hA ?_; clear hA ac; intro ac hA
   refine sq_p (Value.int .i64 ((b - 1 : Nat) : Int)) hA ?_; clear hA ac; intro ac hA
   refine sq_p (Value.bool (decide ((((i : Nat) : Int) : Int) ≤ (((b - 1 : Nat) : Int) : Int)))) hA ?_; clear hA ac; intro ac hA
   refine sq_p (Value.bool (decide ((((i : Nat) : Int) : Int) ≤ (((b - 1 : Nat) : Int) : Int)))) hA ?_; clear hA ac; intro ac hA
   rcases Bool.eq_false_or_eq_true (decide ((((i : Nat) : Int) : Int) ≤ (((b - 1 : Nat) : Int) : Int))) with h11 | h11
   · skip
     rw [h11] at hA
     have h11 := of_decide_eq_true h11
     first
     | (exfalso; clear hA hW; omega)
     | (
       refine sq_p (Value.slice (some ⟨b2, o3, none⟩) n_l c_l) hA ?_; clear hA ac; intro ac hA
       refine sq_p (Value.int .i64 ((i : Nat) : Int)) hA ?_; clear hA ac; intro ac hA
       obtain ⟨y12, hy12⟩ : ∃ y, d0[i]? = some y := ⟨_, List.getElem?_eq_getElem (by first | omega | (simp; done) | (simp; omega))⟩
       refine sq_q (Value.pointer (some ⟨b2, o3 + i * 1, none⟩)) hA (Rd.indexAddr (e := 35) (sz := 1) (b := b2) (off := o3) (n := n_l) (c := c_l) (k := i) (by kernel_rfl) (by kernel_rfl) (by first | omega | (simp; done) | (simp; omega)) (fun _ => by kernel_rfl) (fun _ => by kernel_rfl)) ?_; clear hA ac; intro ac hA
       refine sq_q (Value.int .u32 y12) hA (Rd.loadRow (b := b2) (i := o3 + i * 1) (xs := [Value.int .u32 y12]) (by kernel_rfl) (fun _ hw => row_ld (rowR_at ((hw.1).get 0 rfl) elt_U4.len) hy12 (Fr.refl No _) (fun h => h) 0 1 (by kernel_rfl)) (by kernel_rfl)) ?_; clear hA ac; intro ac hA
       refine sq_p (Value.slice (some ⟨b2, o3, none⟩) n_l c_l) hA ?_; clear hA ac; intro ac hA
       refine sq_p (Value.int .i64 ((a : Nat) : Int)) hA ?_; clear hA ac; intro ac hA
       obtain ⟨y13, hy13⟩ : ∃ y, d0[a]? = some y := ⟨_, List.getElem?_eq_getElem (by first | omega | (simp; done) | (simp; omega))⟩
       refine sq_q (Value.pointer (some ⟨b2, o3 + a * 1, none⟩)) hA (Rd.indexAddr (e := 35) (sz := 1) (b := b2) (off := o3) (n := n_l) (c := c_l) (k := a) (by kernel_rfl) (by kernel_rfl) (by first | omega | (simp; done) | (simp; omega)) (fun _ => by kernel_rfl) (fun _ => by kernel_rfl)) ?_; clear hA ac; intro ac hA
       refine sq_q (Value.int .u32 y13) hA (Rd.loadRow (b := b2) (i := o3 + a * 1) (xs := [Value.int .u32 y13]) (by kernel_rfl) (fun _ hw => row_ld (rowR_at ((hw.1).get 0 rfl) elt_U4.len) hy13 (Fr.refl No _) (fun h => h) 0 1 (by kernel_rfl)) (by kernel_rfl)) ?_; clear hA ac; intro ac hA
       refine sq_call (v := Value.bool (decide ((y12) < (y13)))) hA (by kernel_rfl) (by kernel_rfl) (by kernel_rfl) (fun _ => by kernel_rfl) (Cls.callNC fun wx hwx => e_less (y12) (y13) wx) ?_; clear hA ac; intro ac hA
       refine sq_p (Value.bool (decide ((y12) < (y13)))) hA ?_; clear hA ac; intro ac hA
       refine sq_nil ?_; intro w14 hww14; have hW := hww14.1; have hfw14 := hww14.2; clear hww14
       refine thenN ?_
       refine wp_cond_split (t := decide ((y12) < (y13))) (hA.eval (by kernel_rfl)) (fun h15 => ?_) (fun h15 => ?_)
       · skip
         have h15 := of_decide_eq_true h15
         first
         | (exfalso; clear hA hW; omega)
         | (
           refine wp_skip ?_
           refine thenN ?_
           refine wp_block ?_
           refine wp_region_lit ?_
           refine st_p (Value.int .i64 ((i : Nat) : Int)) hA ?_; clear hA ac; intro ac hA
           refine st_q (Value.int .i64 ((i + 1 : Nat) : Int)) hA hW.cls (Rd.pureE (v0 := Value.int .i64 (IntKind.i64.wrap ((((i : Nat) : Int) : Int) + 1))) (fun _ => by kernel_rfl) (congrArg (Value.int .i64) ((w_i64 (x := (((i : Nat) : Int) : Int) + 1) (by omega) (by omega)).trans (by omega)))) ?_; clear hA ac; intro ac hA
           refine st_p (Value.int .i64 ((i + 1 : Nat) : Int)) hA ?_; clear hA ac; intro ac hA
           refine wpList_nil ?_
           refine blkN ?_
           refine thenN ?_
           exact ⟨b - (i + 1), by omega, i + 1, rfl, by omega, by rw [← hu1]; exact (up_go (by omega) (by simp only [arr_at hy12, arr_at hy13, ltI]; rw [show decide (y12 < y13) = true from decide_eq_true (by omega)])).symm, hA.sub ⟨⟨by kernel_rfl, by kernel_rfl⟩, ⟨by kernel_rfl, by kernel_rfl⟩, ⟨by kernel_rfl, by kernel_rfl⟩, ⟨by kernel_rfl, by kernel_rfl⟩, trivial⟩, (hW.pick [0] (by decide) rfl).pickG [] rfl⟩)
       · skip
         have h15 := of_decide_eq_false h15
         first
         | (exfalso; clear hA hW; omega)
         | (
           refine wp_exit ?_
           refine thenX ?_
           refine thenX ?_
           refine blkX ?_
           exact ⟨i, by omega, by rw [← hu1]; exact up_end (.inr (by simp only [arr_at hy12, arr_at hy13, ltI]; rw [show decide (y12 < y13) = false from decide_eq_false (by omega)])), hA.sub ⟨⟨by kernel_rfl, by kernel_rfl⟩, ⟨by kernel_rfl, by kernel_rfl⟩, ⟨by kernel_rfl, by kernel_rfl⟩, ⟨by kernel_rfl, by kernel_rfl⟩, trivial⟩, (hW.pick [0] (by decide) rfl).pickG [] rfl⟩))
   · skip
     rw [h11] at hA
     have h11 := of_decide_eq_false h11
     first
     | (exfalso; clear hA hW; omega)
     | (
       refine sq_k hA ?_; clear hA ac; intro ac hA
       refine sq_k hA ?_; clear hA ac; intro ac hA
       refine sq_k hA ?_; clear hA ac; intro ac hA
       refine sq_k hA ?_; clear hA ac; intro ac hA
       refine sq_k hA ?_; clear hA ac; intro ac hA
       refine sq_k hA ?_; clear hA ac; intro ac hA
       refine sq_k hA ?_; clear hA ac; intro ac hA
       refine sq_k hA ?_; clear hA ac; intro ac hA
       refine sq_k hA ?_; clear hA ac; intro ac hA
       refine sq_p (Value.bool false) hA ?_; clear hA ac; intro ac hA
       refine sq_nil ?_; intro w16 hww16; have hW := hww16.1; have hfw16 := hww16.2; clear hww16
       refine thenN ?_
       refine wp_cond_false (hA.eval (by kernel_rfl)) ?_
       refine wp_exit ?_
       refine thenX ?_
       refine thenX ?_
       refine blkX ?_
       exact ⟨i, by omega, by rw [← hu1]; exact up_end (.inl (by omega)), hA.sub ⟨⟨by kernel_rfl, by kernel_rfl⟩, ⟨by kernel_rfl, by kernel_rfl⟩, ⟨by kernel_rfl, by kernel_rfl⟩, ⟨by kernel_rfl, by kernel_rfl⟩, trivial⟩, (hW.pick [0] (by decide) rfl).pickG [] rfl⟩)
 · skip
   clear hA ac hW; rintro ac w17 ⟨i, hchu1, hehu1, hA, hW⟩
   refine thenN ?_
   refine wp_seq ?_
   refine wp_cut (fun ac_ wl_ => ∃ j : Nat, (j ≤ b - 1 ∧ i ≤ j + 1) ∧ (Sort.scanDown (fun x => !Sort.ltInt x d0.toArray[a]!) d0.toArray i (b - 1) = j) ∧ (i ≤ j → i ≠ j) ∧ Fm 168 [] [(0, Value.slice (some ⟨b2, o3, none⟩) n_l c_l), (1, Value.int .i64 ((a : Nat) : Int)), (10, Value.int .i64 ((i : Nat) : Int)), (11, Value.int .i64 ((j : Nat) : Int))] ac_ ∧ Ws w (· ∈ (srtR (some ⟨b2, o3, none⟩) n_l c_l l).fp) [rowR 35 1 enU4 (Value.slice (some ⟨b2, o3, none⟩) n_l c_l) d0] [] wl_) ?_ ?_
   · skip
     refine wp_block ?_
     refine wp_loop_m (fun m_ ac_ wl_ => ∃ j : Nat, m_ = j + 1 ∧ (j ≤ b - 1 ∧ i ≤ j + 1) ∧ (Sort.scanDown (fun x => !Sort.ltInt x d0.toArray[a]!) d0.toArray i j = Sort.scanDown (fun x => !Sort.ltInt x d0.toArray[a]!) d0.toArray i (b - 1)) ∧ Fm 168 [] [(0, Value.slice (some ⟨b2, o3, none⟩) n_l c_l), (1, Value.int .i64 ((a : Nat) : Int)), (10, Value.int .i64 ((i : Nat) : Int)), (11, Value.int .i64 ((j : Nat) : Int))] ac_ ∧ Ws w (· ∈ (srtR (some ⟨b2, o3, none⟩) n_l c_l l).fp) [rowR 35 1 enU4 (Value.slice (some ⟨b2, o3, none⟩) n_l c_l) d0] [] wl_) _ ⟨b - 1, rfl, by omega, by rfl, hA.sub ⟨⟨by kernel_rfl, by kernel_rfl⟩, ⟨by kernel_rfl, by kernel_rfl⟩, ⟨by kernel_rfl, by kernel_rfl⟩, ⟨by kernel_rfl, by kernel_rfl⟩, trivial⟩, (hW.pick [0] (by decide) rfl).pickG [] rfl⟩ ?_
     clear hA ac hW; rintro m_ ac w18 ⟨j, rfl, hbhv1, hv1, hA, hW⟩
     refine wp_seq ?_
     refine wp_seq ?_
     refine q_region (by kernel_rfl) (by kernel_rfl) hW ?_
     refine sq_p (Value.int .i64 ((i : Nat) : Int)) hA ?_; clear hA ac; intro ac hA
     refine sq_p (Value.int .i64 ((j : Nat) : Int)) hA ?_; clear hA ac; intro ac hA
     refine sq_p (Value.bool (decide ((((i : Nat) : Int) : Int) ≤ (((j : Nat) : Int) : Int)))) hA ?_; clear hA ac; intro ac hA
     refine sq_p (Value.bool (decide ((((i : Nat) : Int) : Int) ≤ (((j : Nat) : Int) : Int)))) hA ?_; clear hA ac; intro ac hA
     rcases Bool.eq_false_or_eq_true (decide ((((i : Nat) : Int) : Int) ≤ (((j : Nat) : Int) : Int))) with h19 | h19
     · skip
       rw [h19] at hA
       have h19 := of_decide_eq_true h19
       first
       | (exfalso; clear hA hW; omega)
       | (
         refine sq_p (Value.slice (some ⟨b2, o3, none⟩) n_l c_l) hA ?_; clear hA ac; intro ac hA
         refine sq_p (Value.int .i64 ((j : Nat) : Int)) hA ?_; clear hA ac; intro ac hA
         obtain ⟨y20, hy20⟩ : ∃ y, d0[j]? = some y := ⟨_, List.getElem?_eq_getElem (by first | omega | (simp; done) | (simp; omega))⟩
         refine sq_q (Value.pointer (some ⟨b2, o3 + j * 1, none⟩)) hA (Rd.indexAddr (e := 35) (sz := 1) (b := b2) (off := o3) (n := n_l) (c := c_l) (k := j) (by kernel_rfl) (by kernel_rfl) (by first | omega | (simp; done) | (simp; omega)) (fun _ => by kernel_rfl) (fun _ => by kernel_rfl)) ?_; clear hA ac; intro ac hA
         refine sq_q (Value.int .u32 y20) hA (Rd.loadRow (b := b2) (i := o3 + j * 1) (xs := [Value.int .u32 y20]) (by kernel_rfl) (fun _ hw => row_ld (rowR_at ((hw.1).get 0 rfl) elt_U4.len) hy20 (Fr.refl No _) (fun h => h) 0 1 (by kernel_rfl)) (by kernel_rfl)) ?_; clear hA ac; intro ac hA
         refine sq_p (Value.slice (some ⟨b2, o3, none⟩) n_l c_l) hA ?_; clear hA ac; intro ac hA
         refine sq_p (Value.int .i64 ((a : Nat) : Int)) hA ?_; clear hA ac; intro ac hA
         obtain ⟨y21, hy21⟩ : ∃ y, d0[a]? = some y := ⟨_, List.getElem?_eq_getElem (by first | omega | (simp; done) | (simp; omega))⟩
         refine sq_q (Value.pointer (some ⟨b2, o3 + a * 1, none⟩)) hA (Rd.indexAddr (e := 35) (sz := 1) (b := b2) (off := o3) (n := n_l) (c := c_l) (k := a) (by kernel_rfl) (by kernel_rfl) (by first | omega | (simp; done) | (simp; omega)) (fun _ => by kernel_rfl) (fun _ => by kernel_rfl)) ?_; clear hA ac; intro ac hA
         refine sq_q (Value.int .u32 y21) hA (Rd.loadRow (b := b2) (i := o3 + a * 1) (xs := [Value.int .u32 y21]) (by kernel_rfl) (fun _ hw => row_ld (rowR_at ((hw.1).get 0 rfl) elt_U4.len) hy21 (Fr.refl No _) (fun h => h) 0 1 (by kernel_rfl)) (by kernel_rfl)) ?_; clear hA ac; intro ac hA
         refine sq_call (v := Value.bool (decide ((y20) < (y21)))) hA (by kernel_rfl) (by kernel_rfl) (by kernel_rfl) (fun _ => by kernel_rfl) (Cls.callNC fun wx hwx => e_less (y20) (y21) wx) ?_; clear hA ac; intro ac hA
         refine sq_p (Value.bool (!(decide ((y20) < (y21))))) hA ?_; clear hA ac; intro ac hA
         refine sq_p (Value.bool (!(decide ((y20) < (y21))))) hA ?_; clear hA ac; intro ac hA
         refine sq_nil ?_; intro w22 hww22; have hW := hww22.1; have hfw22 := hww22.2; clear hww22
         refine thenN ?_
         refine wp_cond_split (t := !(decide ((y20) < (y21)))) (hA.eval (by kernel_rfl)) (fun h23 => ?_) (fun h23 => ?_)
         · skip
           have h23 := not_t h23
           have h23 := of_decide_eq_false h23
           first
           | (exfalso; clear hA hW; omega)
           | (
             refine wp_skip ?_
             refine thenN ?_
             refine wp_block ?_
             refine wp_region_lit ?_
             refine st_p (Value.int .i64 ((j : Nat) : Int)) hA ?_; clear hA ac; intro ac hA
             refine st_q (Value.int .i64 ((j - 1 : Nat) : Int)) hA hW.cls (Rd.pureE (v0 := Value.int .i64 (IntKind.i64.wrap ((((j : Nat) : Int) : Int) - 1))) (fun _ => by kernel_rfl) (congrArg (Value.int .i64) ((w_i64 (x := (((j : Nat) : Int) : Int) - 1) (by omega) (by omega)).trans (by omega)))) ?_; clear hA ac; intro ac hA
             refine st_p (Value.int .i64 ((j - 1 : Nat) : Int)) hA ?_; clear hA ac; intro ac hA
             refine wpList_nil ?_
             refine blkN ?_
             refine thenN ?_
             exact ⟨(j - 1) + 1, by omega, j - 1, rfl, by omega, by rw [← hv1]; exact (down_go (by omega) (by omega) (by simp only [arr_at hy20, arr_at hy21, ltI]; rw [show decide (y20 < y21) = false from decide_eq_false (by omega)]; rfl)).symm, hA.sub ⟨⟨by kernel_rfl, by kernel_rfl⟩, ⟨by kernel_rfl, by kernel_rfl⟩, ⟨by kernel_rfl, by kernel_rfl⟩, ⟨by kernel_rfl, by kernel_rfl⟩, trivial⟩, (hW.pick [0] (by decide) rfl).pickG [] rfl⟩)
         · skip
           have h23 := not_f h23
           have h23 := of_decide_eq_true h23
           first
           | (exfalso; clear hA hW; omega)
           | (
             refine wp_exit ?_
             refine thenX ?_
             refine thenX ?_
             refine blkX ?_
             exact ⟨j, by omega, by rw [← hv1]; exact down_end (.inr (by simp only [arr_at hy20, arr_at hy21, ltI]; rw [show decide (y20 < y21) = true from decide_eq_true (by omega)]; rfl)), by exact fun h_ => scan_ne (by omega) hehu1 (show Sort.scanDown (fun x => !Sort.ltInt x d0.toArray[a]!) d0.toArray i (b - 1) = j by rw [← hv1]; exact down_end (.inr (by simp only [arr_at hy20, arr_at hy21, ltI]; rw [show decide (y20 < y21) = true from decide_eq_true (by omega)]; rfl))) rfl (by omega) h_, hA.sub ⟨⟨by kernel_rfl, by kernel_rfl⟩, ⟨by kernel_rfl, by kernel_rfl⟩, ⟨by kernel_rfl, by kernel_rfl⟩, ⟨by kernel_rfl, by kernel_rfl⟩, trivial⟩, (hW.pick [0] (by decide) rfl).pickG [] rfl⟩))
     · skip
       rw [h19] at hA
       have h19 := of_decide_eq_false h19
       first
       | (exfalso; clear hA hW; omega)
       | (
         refine sq_k hA ?_; clear hA ac; intro ac hA
         refine sq_k hA ?_; clear hA ac; intro ac hA
         refine sq_k hA ?_; clear hA ac; intro ac hA
         refine sq_k hA ?_; clear hA ac; intro ac hA
         refine sq_k hA ?_; clear hA ac; intro ac hA
         refine sq_k hA ?_; clear hA ac; intro ac hA
         refine sq_k hA ?_; clear hA ac; intro ac hA
         refine sq_k hA ?_; clear hA ac; intro ac hA
         refine sq_k hA ?_; clear hA ac; intro ac hA
         refine sq_k hA ?_; clear hA ac; intro ac hA
         refine sq_p (Value.bool false) hA ?_; clear hA ac; intro ac hA
         refine sq_nil ?_; intro w24 hww24; have hW := hww24.1; have hfw24 := hww24.2; clear hww24
         refine thenN ?_
         refine wp_cond_false (hA.eval (by kernel_rfl)) ?_
         refine wp_exit ?_
         refine thenX ?_
         refine thenX ?_
         refine blkX ?_
         exact ⟨j, by omega, by rw [← hv1]; exact down_end (.inl (by omega)), by exact fun h_ => scan_ne (by omega) hehu1 (show Sort.scanDown (fun x => !Sort.ltInt x d0.toArray[a]!) d0.toArray i (b - 1) = j by rw [← hv1]; exact down_end (.inl (by omega))) rfl (by omega) h_, hA.sub ⟨⟨by kernel_rfl, by kernel_rfl⟩, ⟨by kernel_rfl, by kernel_rfl⟩, ⟨by kernel_rfl, by kernel_rfl⟩, ⟨by kernel_rfl, by kernel_rfl⟩, trivial⟩, (hW.pick [0] (by decide) rfl).pickG [] rfl⟩)
   · skip
     clear hA ac hW; rintro ac w25 ⟨j, hchv1, hehv1, hnehv1, hA, hW⟩
     refine thenN ?_
     refine wp_seq ?_
     refine wp_seq ?_
     refine wp_region_lit ?_
     refine st_p (Value.int .i64 ((i : Nat) : Int)) hA ?_; clear hA ac; intro ac hA
     refine st_p (Value.int .i64 ((j : Nat) : Int)) hA ?_; clear hA ac; intro ac hA
     refine st_p (Value.bool (decide ((((i : Nat) : Int) : Int) > (((j : Nat) : Int) : Int)))) hA ?_; clear hA ac; intro ac hA
     refine wpList_nil ?_
     refine thenN ?_
     refine wp_cond_split (t := decide ((((i : Nat) : Int) : Int) > (((j : Nat) : Int) : Int))) (hA.eval (by kernel_rfl)) (fun h26 => ?_) (fun h26 => ?_)
     · skip
       have h26 := of_decide_eq_true h26
       first
       | (exfalso; clear hA hW; omega)
       | (
         refine wp_seq ?_
         obtain ⟨y27, hy27⟩ : ∃ y, d0[j]? = some y := ⟨_, List.getElem?_eq_getElem (by omega)⟩
         obtain ⟨y28, hy28⟩ : ∃ y, d0[a]? = some y := ⟨_, List.getElem?_eq_getElem (by omega)⟩
         refine wp_cut (fun ac_ wl_ => Fm 168 [] [(0, Value.slice (some ⟨b2, o3, none⟩) n_l c_l), (1, Value.int .i64 ((a : Nat) : Int)), (10, Value.int .i64 ((i : Nat) : Int)), (11, Value.int .i64 ((j : Nat) : Int)), (63, Value.int .i64 ((i : Nat) : Int)), (64, Value.int .i64 ((j : Nat) : Int)), (65, Value.bool (decide ((((i : Nat) : Int) : Int) > (((j : Nat) : Int) : Int))))] ac_ ∧ Ws w (· ∈ (srtR (some ⟨b2, o3, none⟩) n_l c_l l).fp) [rowR 35 1 enU4 (Value.slice (some ⟨b2, o3, none⟩) n_l c_l) (List.set (List.set d0 j (y28 : Int)) a (y27 : Int))] [] wl_) ?_ ?_
         · refine sr_region (m := 16) (C := Ws w (· ∈ (srtR (some ⟨b2, o3, none⟩) n_l c_l l).fp) [rowR 35 1 enU4 (Value.slice (some ⟨b2, o3, none⟩) n_l c_l) d0] []) (fun i => [7, 11].contains i) (fun i => [7, 11].contains i) (fun i => [0, 1, 2, 3, 4, 5, 6, 8, 9, 10, 12, 14].contains i) (by kernel_rfl) (by kernel_rfl) (by kernel_rfl) (by kernel_rfl) hW ?_; clear hW; intro w29 hW hfw29 hR; have hC : Ws w (· ∈ (srtR (some ⟨b2, o3, none⟩) n_l c_l l).fp) [rowR 35 1 enU4 (Value.slice (some ⟨b2, o3, none⟩) n_l c_l) d0] [] w29 := hW.pick [0] (by decide) rfl
           refine sr_p 0 (Value.slice (some ⟨b2, o3, none⟩) n_l c_l) hR rfl hA ?_; clear hA ac; intro ac hA
           refine sr_p 1 (Value.int .i64 ((j : Nat) : Int)) hR rfl hA ?_; clear hA ac; intro ac hA
           refine sr_p 2 (Value.slice (some ⟨b2, o3, none⟩) n_l c_l) hR rfl hA ?_; clear hA ac; intro ac hA
           refine sr_p 3 (Value.int .i64 ((a : Nat) : Int)) hR rfl hA ?_; clear hA ac; intro ac hA
           refine sr_p 4 (Value.slice (some ⟨b2, o3, none⟩) n_l c_l) hR rfl hA ?_; clear hA ac; intro ac hA
           refine sr_p 5 (Value.int .i64 ((a : Nat) : Int)) hR rfl hA ?_; clear hA ac; intro ac hA
           refine sr_q 6 (Value.pointer (some ⟨b2, o3 + a * 1, none⟩)) hR rfl hA (Rd.indexAddr (e := 35) (sz := 1) (b := b2) (off := o3) (n := n_l) (c := c_l) (k := a) (by kernel_rfl) (by kernel_rfl) (by first | omega | (simp; done) | (simp; omega)) (fun _ => by kernel_rfl) (fun _ => by kernel_rfl)) ?_; clear hA ac; intro ac hA
           refine sr_t 7 (Value.int .u32 y28) hR rfl hA hC (Rd.loadRow (b := b2) (i := o3 + a * 1) (xs := [Value.int .u32 y28]) (by kernel_rfl) (fun _ hw => row_ld (rowR_at ((hw).get 0 rfl) elt_U4.len) hy28 (Fr.refl No _) (fun h => h) 0 1 (by kernel_rfl)) (by kernel_rfl)) ?_; clear hA ac; intro ac hA
           refine sr_p 8 (Value.slice (some ⟨b2, o3, none⟩) n_l c_l) hR rfl hA ?_; clear hA ac; intro ac hA
           refine sr_p 9 (Value.int .i64 ((j : Nat) : Int)) hR rfl hA ?_; clear hA ac; intro ac hA
           refine sr_q 10 (Value.pointer (some ⟨b2, o3 + j * 1, none⟩)) hR rfl hA (Rd.indexAddr (e := 35) (sz := 1) (b := b2) (off := o3) (n := n_l) (c := c_l) (k := j) (by kernel_rfl) (by kernel_rfl) (by first | omega | (simp; done) | (simp; omega)) (fun _ => by kernel_rfl) (fun _ => by kernel_rfl)) ?_; clear hA ac; intro ac hA
           refine sr_t 11 (Value.int .u32 y27) hR rfl hA hC (Rd.loadRow (b := b2) (i := o3 + j * 1) (xs := [Value.int .u32 y27]) (by kernel_rfl) (fun _ hw => row_ld (rowR_at ((hw).get 0 rfl) elt_U4.len) hy27 (Fr.refl No _) (fun h => h) 0 1 (by kernel_rfl)) (by kernel_rfl)) ?_; clear hA ac; intro ac hA
           refine sr_q 12 (Value.pointer (some ⟨b2, o3 + j * 1, none⟩)) hR rfl hA (Rd.indexAddr (e := 35) (sz := 1) (b := b2) (off := o3) (n := n_l) (c := c_l) (k := j) (by kernel_rfl) (by kernel_rfl) (by first | omega | (simp; done) | (simp; omega)) (fun _ => by kernel_rfl) (fun _ => by kernel_rfl)) ?_; clear hA ac; intro ac hA
           refine sr_one (i := 13) (by kernel_rfl) (sr_d rfl hA (Runs.storeRow (E := 35) (sz := 1) (en := enU4) (b := b2) (off := o3) (k := j) (n := n_l) (c := c_l) (v := Value.int .u32 y28) (y28 : Int) elt_U4 (by kernel_rfl) (by kernel_rfl) (by kernel_rfl) (by kernel_rfl) hW (i := 0) rfl (by first | omega | (simp; done) | (simp; omega)) (by first | rfl | omega | (simp; done) | (simp; omega)) ?_)); clear hA ac hW; intro w30 hW ac hA
           refine ⟨⟨fun h => absurd h (by decide), fun h => absurd h (by decide)⟩, ?_⟩
           obtain ⟨y31, hy31⟩ : ∃ y, (List.set d0 j (y28 : Int))[a]? = some y := ⟨_, List.getElem?_eq_getElem (by first | omega | (simp; done) | (simp; omega))⟩
           refine sr_q 14 (Value.pointer (some ⟨b2, o3 + a * 1, none⟩)) hR rfl hA (Rd.indexAddr (e := 35) (sz := 1) (b := b2) (off := o3) (n := n_l) (c := c_l) (k := a) (by kernel_rfl) (by kernel_rfl) (by first | omega | (simp; done) | (simp; omega)) (fun _ => by kernel_rfl) (fun _ => by kernel_rfl)) ?_; clear hA ac; intro ac hA
           refine sr_one (i := 15) (by kernel_rfl) (sr_d rfl hA (Runs.storeRow (E := 35) (sz := 1) (en := enU4) (b := b2) (off := o3) (k := a) (n := n_l) (c := c_l) (v := Value.int .u32 y27) (y27 : Int) elt_U4 (by kernel_rfl) (by kernel_rfl) (by kernel_rfl) (by kernel_rfl) hW (i := 0) rfl (by first | omega | (simp; done) | (simp; omega)) (by first | rfl | omega | (simp; done) | (simp; omega)) ?_)); clear hA ac hW; intro w32 hW ac hA
           refine ⟨⟨fun h => absurd h (by decide), fun h => absurd h (by decide)⟩, ?_⟩
           refine sr_done (by kernel_rfl) ?_ _
           exact ⟨hA.sub ⟨⟨by kernel_rfl, by kernel_rfl⟩, ⟨by kernel_rfl, by kernel_rfl⟩, ⟨by kernel_rfl, by kernel_rfl⟩, ⟨by kernel_rfl, by kernel_rfl⟩, ⟨by kernel_rfl, by kernel_rfl⟩, ⟨by kernel_rfl, by kernel_rfl⟩, ⟨by kernel_rfl, by kernel_rfl⟩, trivial⟩, (hW.pick [0] (by decide) rfl).pickG [] rfl⟩
         clear hA ac hW; rintro ac w33 ⟨hA, hW⟩
         refine thenN ?_
         refine wp_seq ?_
         refine wp_region_lit ?_
         refine st_p (Value.int .i64 ((j : Nat) : Int)) hA ?_; clear hA ac; intro ac hA
         refine st_p (Value.int .i64 ((j : Nat) : Int)) hA ?_; clear hA ac; intro ac hA
         refine st_p (Value.bool true) hA ?_; clear hA ac; intro ac hA
         refine wpList_nil ?_
         refine thenN ?_
         refine wp_ret ?_
         refine thenR ?_
         refine ret2 (v1 := Value.int .i64 ((j : Nat) : Int)) (v2 := Value.bool true) (by rfl) hA (Got.tmp hA (by kernel_rfl) (by kernel_rfl)) (Got.tmp hA (by kernel_rfl) (by kernel_rfl)) ?_
         clear hA
         exact ⟨List.set (List.set d0 j (y28 : Int)) a (y27 : Int), j, true, rfl, by unfold Sort.partition; simp only []; rw [← e0_, hehu1, hehv1, if_pos (by omega), arr_swp hy27 hy28], by rw [set2_len]; exact el0_, by omega, (hW.pick [0] (by decide) rfl).updDone 0 rfl⟩)
     · skip
       have h26 := of_decide_eq_false h26
       first
       | (exfalso; clear hA hW; omega)
       | (
         refine wp_skip ?_
         refine thenN ?_
         refine wp_seq ?_
         obtain ⟨y34, hy34⟩ : ∃ y, d0[i]? = some y := ⟨_, List.getElem?_eq_getElem (by omega)⟩
         obtain ⟨y35, hy35⟩ : ∃ y, d0[j]? = some y := ⟨_, List.getElem?_eq_getElem (by omega)⟩
         obtain ⟨y36, hy36⟩ : ∃ y, d0[a]? = some y := ⟨_, List.getElem?_eq_getElem (by omega)⟩
         refine wp_cut (fun ac_ wl_ => Fm 168 [] [(0, Value.slice (some ⟨b2, o3, none⟩) n_l c_l), (1, Value.int .i64 ((a : Nat) : Int)), (10, Value.int .i64 ((i : Nat) : Int)), (11, Value.int .i64 ((j : Nat) : Int)), (63, Value.int .i64 ((i : Nat) : Int)), (64, Value.int .i64 ((j : Nat) : Int)), (65, Value.bool (decide ((((i : Nat) : Int) : Int) > (((j : Nat) : Int) : Int))))] ac_ ∧ Ws w (· ∈ (srtR (some ⟨b2, o3, none⟩) n_l c_l l).fp) [rowR 35 1 enU4 (Value.slice (some ⟨b2, o3, none⟩) n_l c_l) (List.set (List.set d0 i (y35 : Int)) j (y34 : Int))] [] wl_) ?_ ?_
         · refine sr_region (m := 16) (C := Ws w (· ∈ (srtR (some ⟨b2, o3, none⟩) n_l c_l l).fp) [rowR 35 1 enU4 (Value.slice (some ⟨b2, o3, none⟩) n_l c_l) d0] []) (fun i => [7, 11].contains i) (fun i => [7, 11].contains i) (fun i => [0, 1, 2, 3, 4, 5, 6, 8, 9, 10, 12, 14].contains i) (by kernel_rfl) (by kernel_rfl) (by kernel_rfl) (by kernel_rfl) hW ?_; clear hW; intro w37 hW hfw37 hR; have hC : Ws w (· ∈ (srtR (some ⟨b2, o3, none⟩) n_l c_l l).fp) [rowR 35 1 enU4 (Value.slice (some ⟨b2, o3, none⟩) n_l c_l) d0] [] w37 := hW.pick [0] (by decide) rfl
           refine sr_p 0 (Value.slice (some ⟨b2, o3, none⟩) n_l c_l) hR rfl hA ?_; clear hA ac; intro ac hA
           refine sr_p 1 (Value.int .i64 ((i : Nat) : Int)) hR rfl hA ?_; clear hA ac; intro ac hA
           refine sr_p 2 (Value.slice (some ⟨b2, o3, none⟩) n_l c_l) hR rfl hA ?_; clear hA ac; intro ac hA
           refine sr_p 3 (Value.int .i64 ((j : Nat) : Int)) hR rfl hA ?_; clear hA ac; intro ac hA
           refine sr_p 4 (Value.slice (some ⟨b2, o3, none⟩) n_l c_l) hR rfl hA ?_; clear hA ac; intro ac hA
           refine sr_p 5 (Value.int .i64 ((j : Nat) : Int)) hR rfl hA ?_; clear hA ac; intro ac hA
           refine sr_q 6 (Value.pointer (some ⟨b2, o3 + j * 1, none⟩)) hR rfl hA (Rd.indexAddr (e := 35) (sz := 1) (b := b2) (off := o3) (n := n_l) (c := c_l) (k := j) (by kernel_rfl) (by kernel_rfl) (by first | omega | (simp; done) | (simp; omega)) (fun _ => by kernel_rfl) (fun _ => by kernel_rfl)) ?_; clear hA ac; intro ac hA
           refine sr_t 7 (Value.int .u32 y35) hR rfl hA hC (Rd.loadRow (b := b2) (i := o3 + j * 1) (xs := [Value.int .u32 y35]) (by kernel_rfl) (fun _ hw => row_ld (rowR_at ((hw).get 0 rfl) elt_U4.len) hy35 (Fr.refl No _) (fun h => h) 0 1 (by kernel_rfl)) (by kernel_rfl)) ?_; clear hA ac; intro ac hA
           refine sr_p 8 (Value.slice (some ⟨b2, o3, none⟩) n_l c_l) hR rfl hA ?_; clear hA ac; intro ac hA
           refine sr_p 9 (Value.int .i64 ((i : Nat) : Int)) hR rfl hA ?_; clear hA ac; intro ac hA
           refine sr_q 10 (Value.pointer (some ⟨b2, o3 + i * 1, none⟩)) hR rfl hA (Rd.indexAddr (e := 35) (sz := 1) (b := b2) (off := o3) (n := n_l) (c := c_l) (k := i) (by kernel_rfl) (by kernel_rfl) (by first | omega | (simp; done) | (simp; omega)) (fun _ => by kernel_rfl) (fun _ => by kernel_rfl)) ?_; clear hA ac; intro ac hA
           refine sr_t 11 (Value.int .u32 y34) hR rfl hA hC (Rd.loadRow (b := b2) (i := o3 + i * 1) (xs := [Value.int .u32 y34]) (by kernel_rfl) (fun _ hw => row_ld (rowR_at ((hw).get 0 rfl) elt_U4.len) hy34 (Fr.refl No _) (fun h => h) 0 1 (by kernel_rfl)) (by kernel_rfl)) ?_; clear hA ac; intro ac hA
           refine sr_q 12 (Value.pointer (some ⟨b2, o3 + i * 1, none⟩)) hR rfl hA (Rd.indexAddr (e := 35) (sz := 1) (b := b2) (off := o3) (n := n_l) (c := c_l) (k := i) (by kernel_rfl) (by kernel_rfl) (by first | omega | (simp; done) | (simp; omega)) (fun _ => by kernel_rfl) (fun _ => by kernel_rfl)) ?_; clear hA ac; intro ac hA
           refine sr_one (i := 13) (by kernel_rfl) (sr_d rfl hA (Runs.storeRow (E := 35) (sz := 1) (en := enU4) (b := b2) (off := o3) (k := i) (n := n_l) (c := c_l) (v := Value.int .u32 y35) (y35 : Int) elt_U4 (by kernel_rfl) (by kernel_rfl) (by kernel_rfl) (by kernel_rfl) hW (i := 0) rfl (by first | omega | (simp; done) | (simp; omega)) (by first | rfl | omega | (simp; done) | (simp; omega)) ?_)); clear hA ac hW; intro w38 hW ac hA
           refine ⟨⟨fun h => absurd h (by decide), fun h => absurd h (by decide)⟩, ?_⟩
           obtain ⟨y39, hy39⟩ : ∃ y, (List.set d0 i (y35 : Int))[j]? = some y := ⟨_, List.getElem?_eq_getElem (by first | omega | (simp; done) | (simp; omega))⟩
           refine sr_q 14 (Value.pointer (some ⟨b2, o3 + j * 1, none⟩)) hR rfl hA (Rd.indexAddr (e := 35) (sz := 1) (b := b2) (off := o3) (n := n_l) (c := c_l) (k := j) (by kernel_rfl) (by kernel_rfl) (by first | omega | (simp; done) | (simp; omega)) (fun _ => by kernel_rfl) (fun _ => by kernel_rfl)) ?_; clear hA ac; intro ac hA
           refine sr_one (i := 15) (by kernel_rfl) (sr_d rfl hA (Runs.storeRow (E := 35) (sz := 1) (en := enU4) (b := b2) (off := o3) (k := j) (n := n_l) (c := c_l) (v := Value.int .u32 y34) (y34 : Int) elt_U4 (by kernel_rfl) (by kernel_rfl) (by kernel_rfl) (by kernel_rfl) hW (i := 0) rfl (by first | omega | (simp; done) | (simp; omega)) (by first | rfl | omega | (simp; done) | (simp; omega)) ?_)); clear hA ac hW; intro w40 hW ac hA
           refine ⟨⟨fun h => absurd h (by decide), fun h => absurd h (by decide)⟩, ?_⟩
           refine sr_done (by kernel_rfl) ?_ _
           exact ⟨hA.sub ⟨⟨by kernel_rfl, by kernel_rfl⟩, ⟨by kernel_rfl, by kernel_rfl⟩, ⟨by kernel_rfl, by kernel_rfl⟩, ⟨by kernel_rfl, by kernel_rfl⟩, ⟨by kernel_rfl, by kernel_rfl⟩, ⟨by kernel_rfl, by kernel_rfl⟩, ⟨by kernel_rfl, by kernel_rfl⟩, trivial⟩, (hW.pick [0] (by decide) rfl).pickG [] rfl⟩
         clear hA ac hW; rintro ac w41 ⟨hA, hW⟩
         refine thenN ?_
         refine wp_seq ?_
         refine wp_region_lit ?_
         refine st_p (Value.int .i64 ((i : Nat) : Int)) hA ?_; clear hA ac; intro ac hA
         refine st_q (Value.int .i64 ((i + 1 : Nat) : Int)) hA hW.cls (Rd.pureE (v0 := Value.int .i64 (IntKind.i64.wrap ((((i : Nat) : Int) : Int) + 1))) (fun _ => by kernel_rfl) (congrArg (Value.int .i64) ((w_i64 (x := (((i : Nat) : Int) : Int) + 1) (by omega) (by omega)).trans (by omega)))) ?_; clear hA ac; intro ac hA
         refine st_p (Value.int .i64 ((i + 1 : Nat) : Int)) hA ?_; clear hA ac; intro ac hA
         refine wpList_nil ?_
         refine thenN ?_
         refine wp_seq ?_
         refine wp_region_lit ?_
         refine st_p (Value.int .i64 ((j : Nat) : Int)) hA ?_; clear hA ac; intro ac hA
         refine st_q (Value.int .i64 ((j - 1 : Nat) : Int)) hA hW.cls (Rd.pureE (v0 := Value.int .i64 (IntKind.i64.wrap ((((j : Nat) : Int) : Int) - 1))) (fun _ => by kernel_rfl) (congrArg (Value.int .i64) ((w_i64 (x := (((j : Nat) : Int) : Int) - 1) (by omega) (by omega)).trans (by omega)))) ?_; clear hA ac; intro ac hA
         refine st_p (Value.int .i64 ((j - 1 : Nat) : Int)) hA ?_; clear hA ac; intro ac hA
         refine wpList_nil ?_
         refine thenN ?_
         refine wp_seq ?_
         refine wp_block ?_
         refine wp_loop_m (fun m_ ac_ wl_ => ∃ i2 : Nat, ∃ j2 : Nat, ∃ d : List Int, m_ = b + j2 - i2 ∧ (a + 1 ≤ i2 ∧ j2 ≤ b - 1 ∧ i2 ≤ b ∧ i2 ≤ j2 + 1) ∧ (Sort.partLoop Sort.ltInt a i2 j2 d.toArray = Sort.partLoop Sort.ltInt a (i + 1) (j - 1) (Sort.swp d0.toArray i j)) ∧ (d.length = l.length) ∧ Fm 168 [] [(0, Value.slice (some ⟨b2, o3, none⟩) n_l c_l), (1, Value.int .i64 ((a : Nat) : Int)), (10, Value.int .i64 ((i2 : Nat) : Int)), (11, Value.int .i64 ((j2 : Nat) : Int))] ac_ ∧ Ws w (· ∈ (srtR (some ⟨b2, o3, none⟩) n_l c_l l).fp) [rowR 35 1 enU4 (Value.slice (some ⟨b2, o3, none⟩) n_l c_l) d] [] wl_) _ ⟨i + 1, j - 1, List.set (List.set d0 i (y35 : Int)) j (y34 : Int), rfl, by omega, by rw [arr_swp hy34 hy35], by rw [set2_len]; exact el0_, hA.sub ⟨⟨by kernel_rfl, by kernel_rfl⟩, ⟨by kernel_rfl, by kernel_rfl⟩, ⟨by kernel_rfl, by kernel_rfl⟩, ⟨by kernel_rfl, by kernel_rfl⟩, trivial⟩, (hW.pick [0] (by decide) rfl).pickG [] rfl⟩ ?_
         clear hA ac hW; rintro m_ ac w42 ⟨i2, j2, d, rfl, hb3, hp3, hl3, hA, hW⟩
         refine wp_block ?_
         refine wp_seq ?_
         refine wp_cut (fun ac_ wl_ => ∃ i3 : Nat, (i2 ≤ i3 ∧ i3 ≤ b ∧ i3 ≤ j2 + 1) ∧ (Sort.scanUp (fun x => Sort.ltInt x d.toArray[a]!) d.toArray j2 i2 = i3) ∧ Fm 168 [] [(0, Value.slice (some ⟨b2, o3, none⟩) n_l c_l), (1, Value.int .i64 ((a : Nat) : Int)), (10, Value.int .i64 ((i3 : Nat) : Int)), (11, Value.int .i64 ((j2 : Nat) : Int))] ac_ ∧ Ws w (· ∈ (srtR (some ⟨b2, o3, none⟩) n_l c_l l).fp) [rowR 35 1 enU4 (Value.slice (some ⟨b2, o3, none⟩) n_l c_l) d] [] wl_) ?_ ?_
         · skip
           refine wp_block ?_
           refine wp_loop_m (fun m_ ac_ wl_ => ∃ i3 : Nat, m_ = b - i3 ∧ (i2 ≤ i3 ∧ i3 ≤ b ∧ i3 ≤ j2 + 1) ∧ (Sort.scanUp (fun x => Sort.ltInt x d.toArray[a]!) d.toArray j2 i3 = Sort.scanUp (fun x => Sort.ltInt x d.toArray[a]!) d.toArray j2 i2) ∧ Fm 168 [] [(0, Value.slice (some ⟨b2, o3, none⟩) n_l c_l), (1, Value.int .i64 ((a : Nat) : Int)), (10, Value.int .i64 ((i3 : Nat) : Int)), (11, Value.int .i64 ((j2 : Nat) : Int))] ac_ ∧ Ws w (· ∈ (srtR (some ⟨b2, o3, none⟩) n_l c_l l).fp) [rowR 35 1 enU4 (Value.slice (some ⟨b2, o3, none⟩) n_l c_l) d] [] wl_) _ ⟨i2, rfl, by omega, by rfl, hA.sub ⟨⟨by kernel_rfl, by kernel_rfl⟩, ⟨by kernel_rfl, by kernel_rfl⟩, ⟨by kernel_rfl, by kernel_rfl⟩, ⟨by kernel_rfl, by kernel_rfl⟩, trivial⟩, (hW.pick [0] (by decide) rfl).pickG [] rfl⟩ ?_
           clear hA ac hW; rintro m_ ac w43 ⟨i3, rfl, hbhu2, hu2, hA, hW⟩
           refine wp_seq ?_
           refine wp_seq ?_
           refine q_region (by kernel_rfl) (by kernel_rfl) hW ?_
           refine sq_p (Value.int .i64 ((i3 : Nat) : Int)) hA ?_; clear hA ac; intro ac hA
           refine sq_p (Value.int .i64 ((j2 : Nat) : Int)) hA ?_; clear hA ac; intro ac hA
           refine sq_p (Value.bool (decide ((((i3 : Nat) : Int) : Int) ≤ (((j2 : Nat) : Int) : Int)))) hA ?_; clear hA ac; intro ac hA
           refine sq_p (Value.bool (decide ((((i3 : Nat) : Int) : Int) ≤ (((j2 : Nat) : Int) : Int)))) hA ?_; clear hA ac; intro ac hA
           rcases Bool.eq_false_or_eq_true (decide ((((i3 : Nat) : Int) : Int) ≤ (((j2 : Nat) : Int) : Int))) with h44 | h44
           · skip
             rw [h44] at hA
             have h44 := of_decide_eq_true h44
             first
             | (exfalso; clear hA hW; omega)
             | (
               refine sq_p (Value.slice (some ⟨b2, o3, none⟩) n_l c_l) hA ?_; clear hA ac; intro ac hA
               refine sq_p (Value.int .i64 ((i3 : Nat) : Int)) hA ?_; clear hA ac; intro ac hA
               obtain ⟨y45, hy45⟩ : ∃ y, d[i3]? = some y := ⟨_, List.getElem?_eq_getElem (by first | omega | (simp; done) | (simp; omega))⟩
               refine sq_q (Value.pointer (some ⟨b2, o3 + i3 * 1, none⟩)) hA (Rd.indexAddr (e := 35) (sz := 1) (b := b2) (off := o3) (n := n_l) (c := c_l) (k := i3) (by kernel_rfl) (by kernel_rfl) (by first | omega | (simp; done) | (simp; omega)) (fun _ => by kernel_rfl) (fun _ => by kernel_rfl)) ?_; clear hA ac; intro ac hA
               refine sq_q (Value.int .u32 y45) hA (Rd.loadRow (b := b2) (i := o3 + i3 * 1) (xs := [Value.int .u32 y45]) (by kernel_rfl) (fun _ hw => row_ld (rowR_at ((hw.1).get 0 rfl) elt_U4.len) hy45 (Fr.refl No _) (fun h => h) 0 1 (by kernel_rfl)) (by kernel_rfl)) ?_; clear hA ac; intro ac hA
               refine sq_p (Value.slice (some ⟨b2, o3, none⟩) n_l c_l) hA ?_; clear hA ac; intro ac hA
               refine sq_p (Value.int .i64 ((a : Nat) : Int)) hA ?_; clear hA ac; intro ac hA
               obtain ⟨y46, hy46⟩ : ∃ y, d[a]? = some y := ⟨_, List.getElem?_eq_getElem (by first | omega | (simp; done) | (simp; omega))⟩
               refine sq_q (Value.pointer (some ⟨b2, o3 + a * 1, none⟩)) hA (Rd.indexAddr (e := 35) (sz := 1) (b := b2) (off := o3) (n := n_l) (c := c_l) (k := a) (by kernel_rfl) (by kernel_rfl) (by first | omega | (simp; done) | (simp; omega)) (fun _ => by kernel_rfl) (fun _ => by kernel_rfl)) ?_; clear hA ac; intro ac hA
               refine sq_q (Value.int .u32 y46) hA (Rd.loadRow (b := b2) (i := o3 + a * 1) (xs := [Value.int .u32 y46]) (by kernel_rfl) (fun _ hw => row_ld (rowR_at ((hw.1).get 0 rfl) elt_U4.len) hy46 (Fr.refl No _) (fun h => h) 0 1 (by kernel_rfl)) (by kernel_rfl)) ?_; clear hA ac; intro ac hA
               refine sq_call (v := Value.bool (decide ((y45) < (y46)))) hA (by kernel_rfl) (by kernel_rfl) (by kernel_rfl) (fun _ => by kernel_rfl) (Cls.callNC fun wx hwx => e_less (y45) (y46) wx) ?_; clear hA ac; intro ac hA
               refine sq_p (Value.bool (decide ((y45) < (y46)))) hA ?_; clear hA ac; intro ac hA
               refine sq_nil ?_; intro w47 hww47; have hW := hww47.1; have hfw47 := hww47.2; clear hww47
               refine thenN ?_
               refine wp_cond_split (t := decide ((y45) < (y46))) (hA.eval (by kernel_rfl)) (fun h48 => ?_) (fun h48 => ?_)
               · skip
                 have h48 := of_decide_eq_true h48
                 first
                 | (exfalso; clear hA hW; omega)
                 | (
                   refine wp_skip ?_
                   refine thenN ?_
                   refine wp_block ?_
                   refine wp_region_lit ?_
                   refine st_p (Value.int .i64 ((i3 : Nat) : Int)) hA ?_; clear hA ac; intro ac hA
                   refine st_q (Value.int .i64 ((i3 + 1 : Nat) : Int)) hA hW.cls (Rd.pureE (v0 := Value.int .i64 (IntKind.i64.wrap ((((i3 : Nat) : Int) : Int) + 1))) (fun _ => by kernel_rfl) (congrArg (Value.int .i64) ((w_i64 (x := (((i3 : Nat) : Int) : Int) + 1) (by omega) (by omega)).trans (by omega)))) ?_; clear hA ac; intro ac hA
                   refine st_p (Value.int .i64 ((i3 + 1 : Nat) : Int)) hA ?_; clear hA ac; intro ac hA
                   refine wpList_nil ?_
                   refine blkN ?_
                   refine thenN ?_
                   exact ⟨b - (i3 + 1), by omega, i3 + 1, rfl, by omega, by rw [← hu2]; exact (up_go (by omega) (by simp only [arr_at hy45, arr_at hy46, ltI]; rw [show decide (y45 < y46) = true from decide_eq_true (by omega)])).symm, hA.sub ⟨⟨by kernel_rfl, by kernel_rfl⟩, ⟨by kernel_rfl, by kernel_rfl⟩, ⟨by kernel_rfl, by kernel_rfl⟩, ⟨by kernel_rfl, by kernel_rfl⟩, trivial⟩, (hW.pick [0] (by decide) rfl).pickG [] rfl⟩)
               · skip
                 have h48 := of_decide_eq_false h48
                 first
                 | (exfalso; clear hA hW; omega)
                 | (
                   refine wp_exit ?_
                   refine thenX ?_
                   refine thenX ?_
                   refine blkX ?_
                   exact ⟨i3, by omega, by rw [← hu2]; exact up_end (.inr (by simp only [arr_at hy45, arr_at hy46, ltI]; rw [show decide (y45 < y46) = false from decide_eq_false (by omega)])), hA.sub ⟨⟨by kernel_rfl, by kernel_rfl⟩, ⟨by kernel_rfl, by kernel_rfl⟩, ⟨by kernel_rfl, by kernel_rfl⟩, ⟨by kernel_rfl, by kernel_rfl⟩, trivial⟩, (hW.pick [0] (by decide) rfl).pickG [] rfl⟩))
           · skip
             rw [h44] at hA
             have h44 := of_decide_eq_false h44
             first
             | (exfalso; clear hA hW; omega)
             | (
               refine sq_k hA ?_; clear hA ac; intro ac hA
               refine sq_k hA ?_; clear hA ac; intro ac hA
               refine sq_k hA ?_; clear hA ac; intro ac hA
               refine sq_k hA ?_; clear hA ac; intro ac hA
               refine sq_k hA ?_; clear hA ac; intro ac hA
               refine sq_k hA ?_; clear hA ac; intro ac hA
               refine sq_k hA ?_; clear hA ac; intro ac hA
               refine sq_k hA ?_; clear hA ac; intro ac hA
               refine sq_k hA ?_; clear hA ac; intro ac hA
               refine sq_p (Value.bool false) hA ?_; clear hA ac; intro ac hA
               refine sq_nil ?_; intro w49 hww49; have hW := hww49.1; have hfw49 := hww49.2; clear hww49
               refine thenN ?_
               refine wp_cond_false (hA.eval (by kernel_rfl)) ?_
               refine wp_exit ?_
               refine thenX ?_
               refine thenX ?_
               refine blkX ?_
               exact ⟨i3, by omega, by rw [← hu2]; exact up_end (.inl (by omega)), hA.sub ⟨⟨by kernel_rfl, by kernel_rfl⟩, ⟨by kernel_rfl, by kernel_rfl⟩, ⟨by kernel_rfl, by kernel_rfl⟩, ⟨by kernel_rfl, by kernel_rfl⟩, trivial⟩, (hW.pick [0] (by decide) rfl).pickG [] rfl⟩)
         · skip
           clear hA ac hW; rintro ac w50 ⟨i3, hchu2, hehu2, hA, hW⟩
           refine thenN ?_
           refine wp_seq ?_
           refine wp_cut (fun ac_ wl_ => ∃ j3 : Nat, (j3 ≤ j2 ∧ i3 ≤ j3 + 1) ∧ (Sort.scanDown (fun x => !Sort.ltInt x d.toArray[a]!) d.toArray i3 j2 = j3) ∧ (i3 ≤ j3 → i3 ≠ j3) ∧ Fm 168 [] [(0, Value.slice (some ⟨b2, o3, none⟩) n_l c_l), (1, Value.int .i64 ((a : Nat) : Int)), (10, Value.int .i64 ((i3 : Nat) : Int)), (11, Value.int .i64 ((j3 : Nat) : Int))] ac_ ∧ Ws w (· ∈ (srtR (some ⟨b2, o3, none⟩) n_l c_l l).fp) [rowR 35 1 enU4 (Value.slice (some ⟨b2, o3, none⟩) n_l c_l) d] [] wl_) ?_ ?_
           · skip
             refine wp_block ?_
             refine wp_loop_m (fun m_ ac_ wl_ => ∃ j3 : Nat, m_ = j3 + 1 ∧ (j3 ≤ j2 ∧ i3 ≤ j3 + 1) ∧ (Sort.scanDown (fun x => !Sort.ltInt x d.toArray[a]!) d.toArray i3 j3 = Sort.scanDown (fun x => !Sort.ltInt x d.toArray[a]!) d.toArray i3 j2) ∧ Fm 168 [] [(0, Value.slice (some ⟨b2, o3, none⟩) n_l c_l), (1, Value.int .i64 ((a : Nat) : Int)), (10, Value.int .i64 ((i3 : Nat) : Int)), (11, Value.int .i64 ((j3 : Nat) : Int))] ac_ ∧ Ws w (· ∈ (srtR (some ⟨b2, o3, none⟩) n_l c_l l).fp) [rowR 35 1 enU4 (Value.slice (some ⟨b2, o3, none⟩) n_l c_l) d] [] wl_) _ ⟨j2, rfl, by omega, by rfl, hA.sub ⟨⟨by kernel_rfl, by kernel_rfl⟩, ⟨by kernel_rfl, by kernel_rfl⟩, ⟨by kernel_rfl, by kernel_rfl⟩, ⟨by kernel_rfl, by kernel_rfl⟩, trivial⟩, (hW.pick [0] (by decide) rfl).pickG [] rfl⟩ ?_
             clear hA ac hW; rintro m_ ac w51 ⟨j3, rfl, hbhv2, hv2, hA, hW⟩
             refine wp_seq ?_
             refine wp_seq ?_
             refine q_region (by kernel_rfl) (by kernel_rfl) hW ?_
             refine sq_p (Value.int .i64 ((i3 : Nat) : Int)) hA ?_; clear hA ac; intro ac hA
             refine sq_p (Value.int .i64 ((j3 : Nat) : Int)) hA ?_; clear hA ac; intro ac hA
             refine sq_p (Value.bool (decide ((((i3 : Nat) : Int) : Int) ≤ (((j3 : Nat) : Int) : Int)))) hA ?_; clear hA ac; intro ac hA
             refine sq_p (Value.bool (decide ((((i3 : Nat) : Int) : Int) ≤ (((j3 : Nat) : Int) : Int)))) hA ?_; clear hA ac; intro ac hA
             rcases Bool.eq_false_or_eq_true (decide ((((i3 : Nat) : Int) : Int) ≤ (((j3 : Nat) : Int) : Int))) with h52 | h52
             · skip
               rw [h52] at hA
               have h52 := of_decide_eq_true h52
               first
               | (exfalso; clear hA hW; omega)
               | (
                 refine sq_p (Value.slice (some ⟨b2, o3, none⟩) n_l c_l) hA ?_; clear hA ac; intro ac hA
                 refine sq_p (Value.int .i64 ((j3 : Nat) : Int)) hA ?_; clear hA ac; intro ac hA
                 obtain ⟨y53, hy53⟩ : ∃ y, d[j3]? = some y := ⟨_, List.getElem?_eq_getElem (by first | omega | (simp; done) | (simp; omega))⟩
                 refine sq_q (Value.pointer (some ⟨b2, o3 + j3 * 1, none⟩)) hA (Rd.indexAddr (e := 35) (sz := 1) (b := b2) (off := o3) (n := n_l) (c := c_l) (k := j3) (by kernel_rfl) (by kernel_rfl) (by first | omega | (simp; done) | (simp; omega)) (fun _ => by kernel_rfl) (fun _ => by kernel_rfl)) ?_; clear hA ac; intro ac hA
                 refine sq_q (Value.int .u32 y53) hA (Rd.loadRow (b := b2) (i := o3 + j3 * 1) (xs := [Value.int .u32 y53]) (by kernel_rfl) (fun _ hw => row_ld (rowR_at ((hw.1).get 0 rfl) elt_U4.len) hy53 (Fr.refl No _) (fun h => h) 0 1 (by kernel_rfl)) (by kernel_rfl)) ?_; clear hA ac; intro ac hA
                 refine sq_p (Value.slice (some ⟨b2, o3, none⟩) n_l c_l) hA ?_; clear hA ac; intro ac hA
                 refine sq_p (Value.int .i64 ((a : Nat) : Int)) hA ?_; clear hA ac; intro ac hA
                 obtain ⟨y54, hy54⟩ : ∃ y, d[a]? = some y := ⟨_, List.getElem?_eq_getElem (by first | omega | (simp; done) | (simp; omega))⟩
                 refine sq_q (Value.pointer (some ⟨b2, o3 + a * 1, none⟩)) hA (Rd.indexAddr (e := 35) (sz := 1) (b := b2) (off := o3) (n := n_l) (c := c_l) (k := a) (by kernel_rfl) (by kernel_rfl) (by first | omega | (simp; done) | (simp; omega)) (fun _ => by kernel_rfl) (fun _ => by kernel_rfl)) ?_; clear hA ac; intro ac hA
                 refine sq_q (Value.int .u32 y54) hA (Rd.loadRow (b := b2) (i := o3 + a * 1) (xs := [Value.int .u32 y54]) (by kernel_rfl) (fun _ hw => row_ld (rowR_at ((hw.1).get 0 rfl) elt_U4.len) hy54 (Fr.refl No _) (fun h => h) 0 1 (by kernel_rfl)) (by kernel_rfl)) ?_; clear hA ac; intro ac hA
                 refine sq_call (v := Value.bool (decide ((y53) < (y54)))) hA (by kernel_rfl) (by kernel_rfl) (by kernel_rfl) (fun _ => by kernel_rfl) (Cls.callNC fun wx hwx => e_less (y53) (y54) wx) ?_; clear hA ac; intro ac hA
                 refine sq_p (Value.bool (!(decide ((y53) < (y54))))) hA ?_; clear hA ac; intro ac hA
                 refine sq_p (Value.bool (!(decide ((y53) < (y54))))) hA ?_; clear hA ac; intro ac hA
                 refine sq_nil ?_; intro w55 hww55; have hW := hww55.1; have hfw55 := hww55.2; clear hww55
                 refine thenN ?_
                 refine wp_cond_split (t := !(decide ((y53) < (y54)))) (hA.eval (by kernel_rfl)) (fun h56 => ?_) (fun h56 => ?_)
                 · skip
                   have h56 := not_t h56
                   have h56 := of_decide_eq_false h56
                   first
                   | (exfalso; clear hA hW; omega)
                   | (
                     refine wp_skip ?_
                     refine thenN ?_
                     refine wp_block ?_
                     refine wp_region_lit ?_
                     refine st_p (Value.int .i64 ((j3 : Nat) : Int)) hA ?_; clear hA ac; intro ac hA
                     refine st_q (Value.int .i64 ((j3 - 1 : Nat) : Int)) hA hW.cls (Rd.pureE (v0 := Value.int .i64 (IntKind.i64.wrap ((((j3 : Nat) : Int) : Int) - 1))) (fun _ => by kernel_rfl) (congrArg (Value.int .i64) ((w_i64 (x := (((j3 : Nat) : Int) : Int) - 1) (by omega) (by omega)).trans (by omega)))) ?_; clear hA ac; intro ac hA
                     refine st_p (Value.int .i64 ((j3 - 1 : Nat) : Int)) hA ?_; clear hA ac; intro ac hA
                     refine wpList_nil ?_
                     refine blkN ?_
                     refine thenN ?_
                     exact ⟨(j3 - 1) + 1, by omega, j3 - 1, rfl, by omega, by rw [← hv2]; exact (down_go (by omega) (by omega) (by simp only [arr_at hy53, arr_at hy54, ltI]; rw [show decide (y53 < y54) = false from decide_eq_false (by omega)]; rfl)).symm, hA.sub ⟨⟨by kernel_rfl, by kernel_rfl⟩, ⟨by kernel_rfl, by kernel_rfl⟩, ⟨by kernel_rfl, by kernel_rfl⟩, ⟨by kernel_rfl, by kernel_rfl⟩, trivial⟩, (hW.pick [0] (by decide) rfl).pickG [] rfl⟩)
                 · skip
                   have h56 := not_f h56
                   have h56 := of_decide_eq_true h56
                   first
                   | (exfalso; clear hA hW; omega)
                   | (
                     refine wp_exit ?_
                     refine thenX ?_
                     refine thenX ?_
                     refine blkX ?_
                     exact ⟨j3, by omega, by rw [← hv2]; exact down_end (.inr (by simp only [arr_at hy53, arr_at hy54, ltI]; rw [show decide (y53 < y54) = true from decide_eq_true (by omega)]; rfl)), by exact fun h_ => scan_ne (by omega) hehu2 (show Sort.scanDown (fun x => !Sort.ltInt x d.toArray[a]!) d.toArray i3 j2 = j3 by rw [← hv2]; exact down_end (.inr (by simp only [arr_at hy53, arr_at hy54, ltI]; rw [show decide (y53 < y54) = true from decide_eq_true (by omega)]; rfl))) rfl (by omega) h_, hA.sub ⟨⟨by kernel_rfl, by kernel_rfl⟩, ⟨by kernel_rfl, by kernel_rfl⟩, ⟨by kernel_rfl, by kernel_rfl⟩, ⟨by kernel_rfl, by kernel_rfl⟩, trivial⟩, (hW.pick [0] (by decide) rfl).pickG [] rfl⟩))
             · skip
               rw [h52] at hA
               have h52 := of_decide_eq_false h52
               first
               | (exfalso; clear hA hW; omega)
               | (
                 refine sq_k hA ?_; clear hA ac; intro ac hA
                 refine sq_k hA ?_; clear hA ac; intro ac hA
                 refine sq_k hA ?_; clear hA ac; intro ac hA
                 refine sq_k hA ?_; clear hA ac; intro ac hA
                 refine sq_k hA ?_; clear hA ac; intro ac hA
                 refine sq_k hA ?_; clear hA ac; intro ac hA
                 refine sq_k hA ?_; clear hA ac; intro ac hA
                 refine sq_k hA ?_; clear hA ac; intro ac hA
                 refine sq_k hA ?_; clear hA ac; intro ac hA
                 refine sq_k hA ?_; clear hA ac; intro ac hA
                 refine sq_p (Value.bool false) hA ?_; clear hA ac; intro ac hA
                 refine sq_nil ?_; intro w57 hww57; have hW := hww57.1; have hfw57 := hww57.2; clear hww57
                 refine thenN ?_
                 refine wp_cond_false (hA.eval (by kernel_rfl)) ?_
                 refine wp_exit ?_
                 refine thenX ?_
                 refine thenX ?_
                 refine blkX ?_
                 exact ⟨j3, by omega, by rw [← hv2]; exact down_end (.inl (by omega)), by exact fun h_ => scan_ne (by omega) hehu2 (show Sort.scanDown (fun x => !Sort.ltInt x d.toArray[a]!) d.toArray i3 j2 = j3 by rw [← hv2]; exact down_end (.inl (by omega))) rfl (by omega) h_, hA.sub ⟨⟨by kernel_rfl, by kernel_rfl⟩, ⟨by kernel_rfl, by kernel_rfl⟩, ⟨by kernel_rfl, by kernel_rfl⟩, ⟨by kernel_rfl, by kernel_rfl⟩, trivial⟩, (hW.pick [0] (by decide) rfl).pickG [] rfl⟩)
           · skip
             clear hA ac hW; rintro ac w58 ⟨j3, hchv2, hehv2, hnehv2, hA, hW⟩
             refine thenN ?_
             refine wp_seq ?_
             refine wp_seq ?_
             refine wp_region_lit ?_
             refine st_p (Value.int .i64 ((i3 : Nat) : Int)) hA ?_; clear hA ac; intro ac hA
             refine st_p (Value.int .i64 ((j3 : Nat) : Int)) hA ?_; clear hA ac; intro ac hA
             refine st_p (Value.bool (decide ((((i3 : Nat) : Int) : Int) > (((j3 : Nat) : Int) : Int)))) hA ?_; clear hA ac; intro ac hA
             refine wpList_nil ?_
             refine thenN ?_
             refine wp_cond_split (t := decide ((((i3 : Nat) : Int) : Int) > (((j3 : Nat) : Int) : Int))) (hA.eval (by kernel_rfl)) (fun h59 => ?_) (fun h59 => ?_)
             · skip
               have h59 := of_decide_eq_true h59
               first
               | (exfalso; clear hA hW; omega)
               | (
                 refine wp_exit ?_
                 refine thenX ?_
                 refine blkY (by kernel_rfl) ?_
                 refine thenX ?_
                 refine blkX ?_
                 refine thenN ?_
                 refine wp_seq ?_
                 obtain ⟨y60, hy60⟩ : ∃ y, d[j3]? = some y := ⟨_, List.getElem?_eq_getElem (by omega)⟩
                 obtain ⟨y61, hy61⟩ : ∃ y, d[a]? = some y := ⟨_, List.getElem?_eq_getElem (by omega)⟩
                 refine wp_cut (fun ac_ wl_ => Fm 168 [] [(0, Value.slice (some ⟨b2, o3, none⟩) n_l c_l), (1, Value.int .i64 ((a : Nat) : Int)), (10, Value.int .i64 ((i3 : Nat) : Int)), (11, Value.int .i64 ((j3 : Nat) : Int)), (132, Value.int .i64 ((i3 : Nat) : Int)), (133, Value.int .i64 ((j3 : Nat) : Int)), (134, Value.bool (decide ((((i3 : Nat) : Int) : Int) > (((j3 : Nat) : Int) : Int))))] ac_ ∧ Ws w (· ∈ (srtR (some ⟨b2, o3, none⟩) n_l c_l l).fp) [rowR 35 1 enU4 (Value.slice (some ⟨b2, o3, none⟩) n_l c_l) (List.set (List.set d j3 (y61 : Int)) a (y60 : Int))] [] wl_) ?_ ?_
                 · refine sr_region (m := 16) (C := Ws w (· ∈ (srtR (some ⟨b2, o3, none⟩) n_l c_l l).fp) [rowR 35 1 enU4 (Value.slice (some ⟨b2, o3, none⟩) n_l c_l) d] []) (fun i => [7, 11].contains i) (fun i => [7, 11].contains i) (fun i => [0, 1, 2, 3, 4, 5, 6, 8, 9, 10, 12, 14].contains i) (by kernel_rfl) (by kernel_rfl) (by kernel_rfl) (by kernel_rfl) hW ?_; clear hW; intro w62 hW hfw62 hR; have hC : Ws w (· ∈ (srtR (some ⟨b2, o3, none⟩) n_l c_l l).fp) [rowR 35 1 enU4 (Value.slice (some ⟨b2, o3, none⟩) n_l c_l) d] [] w62 := hW.pick [0] (by decide) rfl
                   refine sr_p 0 (Value.slice (some ⟨b2, o3, none⟩) n_l c_l) hR rfl hA ?_; clear hA ac; intro ac hA
                   refine sr_p 1 (Value.int .i64 ((j3 : Nat) : Int)) hR rfl hA ?_; clear hA ac; intro ac hA
                   refine sr_p 2 (Value.slice (some ⟨b2, o3, none⟩) n_l c_l) hR rfl hA ?_; clear hA ac; intro ac hA
                   refine sr_p 3 (Value.int .i64 ((a : Nat) : Int)) hR rfl hA ?_; clear hA ac; intro ac hA
                   refine sr_p 4 (Value.slice (some ⟨b2, o3, none⟩) n_l c_l) hR rfl hA ?_; clear hA ac; intro ac hA
                   refine sr_p 5 (Value.int .i64 ((a : Nat) : Int)) hR rfl hA ?_; clear hA ac; intro ac hA
                   refine sr_q 6 (Value.pointer (some ⟨b2, o3 + a * 1, none⟩)) hR rfl hA (Rd.indexAddr (e := 35) (sz := 1) (b := b2) (off := o3) (n := n_l) (c := c_l) (k := a) (by kernel_rfl) (by kernel_rfl) (by first | omega | (simp; done) | (simp; omega)) (fun _ => by kernel_rfl) (fun _ => by kernel_rfl)) ?_; clear hA ac; intro ac hA
                   refine sr_t 7 (Value.int .u32 y61) hR rfl hA hC (Rd.loadRow (b := b2) (i := o3 + a * 1) (xs := [Value.int .u32 y61]) (by kernel_rfl) (fun _ hw => row_ld (rowR_at ((hw).get 0 rfl) elt_U4.len) hy61 (Fr.refl No _) (fun h => h) 0 1 (by kernel_rfl)) (by kernel_rfl)) ?_; clear hA ac; intro ac hA
                   refine sr_p 8 (Value.slice (some ⟨b2, o3, none⟩) n_l c_l) hR rfl hA ?_; clear hA ac; intro ac hA
                   refine sr_p 9 (Value.int .i64 ((j3 : Nat) : Int)) hR rfl hA ?_; clear hA ac; intro ac hA
                   refine sr_q 10 (Value.pointer (some ⟨b2, o3 + j3 * 1, none⟩)) hR rfl hA (Rd.indexAddr (e := 35) (sz := 1) (b := b2) (off := o3) (n := n_l) (c := c_l) (k := j3) (by kernel_rfl) (by kernel_rfl) (by first | omega | (simp; done) | (simp; omega)) (fun _ => by kernel_rfl) (fun _ => by kernel_rfl)) ?_; clear hA ac; intro ac hA
                   refine sr_t 11 (Value.int .u32 y60) hR rfl hA hC (Rd.loadRow (b := b2) (i := o3 + j3 * 1) (xs := [Value.int .u32 y60]) (by kernel_rfl) (fun _ hw => row_ld (rowR_at ((hw).get 0 rfl) elt_U4.len) hy60 (Fr.refl No _) (fun h => h) 0 1 (by kernel_rfl)) (by kernel_rfl)) ?_; clear hA ac; intro ac hA
                   refine sr_q 12 (Value.pointer (some ⟨b2, o3 + j3 * 1, none⟩)) hR rfl hA (Rd.indexAddr (e := 35) (sz := 1) (b := b2) (off := o3) (n := n_l) (c := c_l) (k := j3) (by kernel_rfl) (by kernel_rfl) (by first | omega | (simp; done) | (simp; omega)) (fun _ => by kernel_rfl) (fun _ => by kernel_rfl)) ?_; clear hA ac; intro ac hA
                   refine sr_one (i := 13) (by kernel_rfl) (sr_d rfl hA (Runs.storeRow (E := 35) (sz := 1) (en := enU4) (b := b2) (off := o3) (k := j3) (n := n_l) (c := c_l) (v := Value.int .u32 y61) (y61 : Int) elt_U4 (by kernel_rfl) (by kernel_rfl) (by kernel_rfl) (by kernel_rfl) hW (i := 0) rfl (by first | omega | (simp; done) | (simp; omega)) (by first | rfl | omega | (simp; done) | (simp; omega)) ?_)); clear hA ac hW; intro w63 hW ac hA
                   refine ⟨⟨fun h => absurd h (by decide), fun h => absurd h (by decide)⟩, ?_⟩
                   obtain ⟨y64, hy64⟩ : ∃ y, (List.set d j3 (y61 : Int))[a]? = some y := ⟨_, List.getElem?_eq_getElem (by first | omega | (simp; done) | (simp; omega))⟩
                   refine sr_q 14 (Value.pointer (some ⟨b2, o3 + a * 1, none⟩)) hR rfl hA (Rd.indexAddr (e := 35) (sz := 1) (b := b2) (off := o3) (n := n_l) (c := c_l) (k := a) (by kernel_rfl) (by kernel_rfl) (by first | omega | (simp; done) | (simp; omega)) (fun _ => by kernel_rfl) (fun _ => by kernel_rfl)) ?_; clear hA ac; intro ac hA
                   refine sr_one (i := 15) (by kernel_rfl) (sr_d rfl hA (Runs.storeRow (E := 35) (sz := 1) (en := enU4) (b := b2) (off := o3) (k := a) (n := n_l) (c := c_l) (v := Value.int .u32 y60) (y60 : Int) elt_U4 (by kernel_rfl) (by kernel_rfl) (by kernel_rfl) (by kernel_rfl) hW (i := 0) rfl (by first | omega | (simp; done) | (simp; omega)) (by first | rfl | omega | (simp; done) | (simp; omega)) ?_)); clear hA ac hW; intro w65 hW ac hA
                   refine ⟨⟨fun h => absurd h (by decide), fun h => absurd h (by decide)⟩, ?_⟩
                   refine sr_done (by kernel_rfl) ?_ _
                   exact ⟨hA.sub ⟨⟨by kernel_rfl, by kernel_rfl⟩, ⟨by kernel_rfl, by kernel_rfl⟩, ⟨by kernel_rfl, by kernel_rfl⟩, ⟨by kernel_rfl, by kernel_rfl⟩, ⟨by kernel_rfl, by kernel_rfl⟩, ⟨by kernel_rfl, by kernel_rfl⟩, ⟨by kernel_rfl, by kernel_rfl⟩, trivial⟩, (hW.pick [0] (by decide) rfl).pickG [] rfl⟩
                 clear hA ac hW; rintro ac w66 ⟨hA, hW⟩
                 refine thenN ?_
                 refine wp_seq ?_
                 refine wp_region_lit ?_
                 refine st_p (Value.int .i64 ((j3 : Nat) : Int)) hA ?_; clear hA ac; intro ac hA
                 refine st_p (Value.int .i64 ((j3 : Nat) : Int)) hA ?_; clear hA ac; intro ac hA
                 refine st_p (Value.bool false) hA ?_; clear hA ac; intro ac hA
                 refine wpList_nil ?_
                 refine thenN ?_
                 refine wp_ret ?_
                 refine ret2 (v1 := Value.int .i64 ((j3 : Nat) : Int)) (v2 := Value.bool false) (by rfl) hA (Got.tmp hA (by kernel_rfl) (by kernel_rfl)) (Got.tmp hA (by kernel_rfl) (by kernel_rfl)) ?_
                 clear hA
                 exact ⟨List.set (List.set d j3 (y61 : Int)) a (y60 : Int), j3, false, rfl, by unfold Sort.partition; simp only []; rw [← e0_, hehu1, hehv1, if_neg (by omega), ← hp3, pl_end hehu2 hehv2 (by omega), arr_swp hy60 hy61], by rw [set2_len]; exact hl3, by omega, (hW.pick [0] (by decide) rfl).updDone 0 rfl⟩)
             · skip
               have h59 := of_decide_eq_false h59
               first
               | (exfalso; clear hA hW; omega)
               | (
                 refine wp_skip ?_
                 refine thenN ?_
                 refine wp_seq ?_
                 obtain ⟨y67, hy67⟩ : ∃ y, d[i3]? = some y := ⟨_, List.getElem?_eq_getElem (by omega)⟩
                 obtain ⟨y68, hy68⟩ : ∃ y, d[j3]? = some y := ⟨_, List.getElem?_eq_getElem (by omega)⟩
                 obtain ⟨y69, hy69⟩ : ∃ y, d[a]? = some y := ⟨_, List.getElem?_eq_getElem (by omega)⟩
                 refine wp_cut (fun ac_ wl_ => Fm 168 [] [(0, Value.slice (some ⟨b2, o3, none⟩) n_l c_l), (1, Value.int .i64 ((a : Nat) : Int)), (10, Value.int .i64 ((i3 : Nat) : Int)), (11, Value.int .i64 ((j3 : Nat) : Int)), (132, Value.int .i64 ((i3 : Nat) : Int)), (133, Value.int .i64 ((j3 : Nat) : Int)), (134, Value.bool (decide ((((i3 : Nat) : Int) : Int) > (((j3 : Nat) : Int) : Int))))] ac_ ∧ Ws w (· ∈ (srtR (some ⟨b2, o3, none⟩) n_l c_l l).fp) [rowR 35 1 enU4 (Value.slice (some ⟨b2, o3, none⟩) n_l c_l) (List.set (List.set d i3 (y68 : Int)) j3 (y67 : Int))] [] wl_) ?_ ?_
                 · refine sr_region (m := 16) (C := Ws w (· ∈ (srtR (some ⟨b2, o3, none⟩) n_l c_l l).fp) [rowR 35 1 enU4 (Value.slice (some ⟨b2, o3, none⟩) n_l c_l) d] []) (fun i => [7, 11].contains i) (fun i => [7, 11].contains i) (fun i => [0, 1, 2, 3, 4, 5, 6, 8, 9, 10, 12, 14].contains i) (by kernel_rfl) (by kernel_rfl) (by kernel_rfl) (by kernel_rfl) hW ?_; clear hW; intro w70 hW hfw70 hR; have hC : Ws w (· ∈ (srtR (some ⟨b2, o3, none⟩) n_l c_l l).fp) [rowR 35 1 enU4 (Value.slice (some ⟨b2, o3, none⟩) n_l c_l) d] [] w70 := hW.pick [0] (by decide) rfl
                   refine sr_p 0 (Value.slice (some ⟨b2, o3, none⟩) n_l c_l) hR rfl hA ?_; clear hA ac; intro ac hA
                   refine sr_p 1 (Value.int .i64 ((i3 : Nat) : Int)) hR rfl hA ?_; clear hA ac; intro ac hA
                   refine sr_p 2 (Value.slice (some ⟨b2, o3, none⟩) n_l c_l) hR rfl hA ?_; clear hA ac; intro ac hA
                   refine sr_p 3 (Value.int .i64 ((j3 : Nat) : Int)) hR rfl hA ?_; clear hA ac; intro ac hA
                   refine sr_p 4 (Value.slice (some ⟨b2, o3, none⟩) n_l c_l) hR rfl hA ?_; clear hA ac; intro ac hA
                   refine sr_p 5 (Value.int .i64 ((j3 : Nat) : Int)) hR rfl hA ?_; clear hA ac; intro ac hA
                   refine sr_q 6 (Value.pointer (some ⟨b2, o3 + j3 * 1, none⟩)) hR rfl hA (Rd.indexAddr (e := 35) (sz := 1) (b := b2) (off := o3) (n := n_l) (c := c_l) (k := j3) (by kernel_rfl) (by kernel_rfl) (by first | omega | (simp; done) | (simp; omega)) (fun _ => by kernel_rfl) (fun _ => by kernel_rfl)) ?_; clear hA ac; intro ac hA
                   refine sr_t 7 (Value.int .u32 y68) hR rfl hA hC (Rd.loadRow (b := b2) (i := o3 + j3 * 1) (xs := [Value.int .u32 y68]) (by kernel_rfl) (fun _ hw => row_ld (rowR_at ((hw).get 0 rfl) elt_U4.len) hy68 (Fr.refl No _) (fun h => h) 0 1 (by kernel_rfl)) (by kernel_rfl)) ?_; clear hA ac; intro ac hA
                   refine sr_p 8 (Value.slice (some ⟨b2, o3, none⟩) n_l c_l) hR rfl hA ?_; clear hA ac; intro ac hA
                   refine sr_p 9 (Value.int .i64 ((i3 : Nat) : Int)) hR rfl hA ?_; clear hA ac; intro ac hA
                   refine sr_q 10 (Value.pointer (some ⟨b2, o3 + i3 * 1, none⟩)) hR rfl hA (Rd.indexAddr (e := 35) (sz := 1) (b := b2) (off := o3) (n := n_l) (c := c_l) (k := i3) (by kernel_rfl) (by kernel_rfl) (by first | omega | (simp; done) | (simp; omega)) (fun _ => by kernel_rfl) (fun _ => by kernel_rfl)) ?_; clear hA ac; intro ac hA
                   refine sr_t 11 (Value.int .u32 y67) hR rfl hA hC (Rd.loadRow (b := b2) (i := o3 + i3 * 1) (xs := [Value.int .u32 y67]) (by kernel_rfl) (fun _ hw => row_ld (rowR_at ((hw).get 0 rfl) elt_U4.len) hy67 (Fr.refl No _) (fun h => h) 0 1 (by kernel_rfl)) (by kernel_rfl)) ?_; clear hA ac; intro ac hA
                   refine sr_q 12 (Value.pointer (some ⟨b2, o3 + i3 * 1, none⟩)) hR rfl hA (Rd.indexAddr (e := 35) (sz := 1) (b := b2) (off := o3) (n := n_l) (c := c_l) (k := i3) (by kernel_rfl) (by kernel_rfl) (by first | omega | (simp; done) | (simp; omega)) (fun _ => by kernel_rfl) (fun _ => by kernel_rfl)) ?_; clear hA ac; intro ac hA
                   refine sr_one (i := 13) (by kernel_rfl) (sr_d rfl hA (Runs.storeRow (E := 35) (sz := 1) (en := enU4) (b := b2) (off := o3) (k := i3) (n := n_l) (c := c_l) (v := Value.int .u32 y68) (y68 : Int) elt_U4 (by kernel_rfl) (by kernel_rfl) (by kernel_rfl) (by kernel_rfl) hW (i := 0) rfl (by first | omega | (simp; done) | (simp; omega)) (by first | rfl | omega | (simp; done) | (simp; omega)) ?_)); clear hA ac hW; intro w71 hW ac hA
                   refine ⟨⟨fun h => absurd h (by decide), fun h => absurd h (by decide)⟩, ?_⟩
                   obtain ⟨y72, hy72⟩ : ∃ y, (List.set d i3 (y68 : Int))[j3]? = some y := ⟨_, List.getElem?_eq_getElem (by first | omega | (simp; done) | (simp; omega))⟩
                   refine sr_q 14 (Value.pointer (some ⟨b2, o3 + j3 * 1, none⟩)) hR rfl hA (Rd.indexAddr (e := 35) (sz := 1) (b := b2) (off := o3) (n := n_l) (c := c_l) (k := j3) (by kernel_rfl) (by kernel_rfl) (by first | omega | (simp; done) | (simp; omega)) (fun _ => by kernel_rfl) (fun _ => by kernel_rfl)) ?_; clear hA ac; intro ac hA
                   refine sr_one (i := 15) (by kernel_rfl) (sr_d rfl hA (Runs.storeRow (E := 35) (sz := 1) (en := enU4) (b := b2) (off := o3) (k := j3) (n := n_l) (c := c_l) (v := Value.int .u32 y67) (y67 : Int) elt_U4 (by kernel_rfl) (by kernel_rfl) (by kernel_rfl) (by kernel_rfl) hW (i := 0) rfl (by first | omega | (simp; done) | (simp; omega)) (by first | rfl | omega | (simp; done) | (simp; omega)) ?_)); clear hA ac hW; intro w73 hW ac hA
                   refine ⟨⟨fun h => absurd h (by decide), fun h => absurd h (by decide)⟩, ?_⟩
                   refine sr_done (by kernel_rfl) ?_ _
                   exact ⟨hA.sub ⟨⟨by kernel_rfl, by kernel_rfl⟩, ⟨by kernel_rfl, by kernel_rfl⟩, ⟨by kernel_rfl, by kernel_rfl⟩, ⟨by kernel_rfl, by kernel_rfl⟩, ⟨by kernel_rfl, by kernel_rfl⟩, ⟨by kernel_rfl, by kernel_rfl⟩, ⟨by kernel_rfl, by kernel_rfl⟩, trivial⟩, (hW.pick [0] (by decide) rfl).pickG [] rfl⟩
                 clear hA ac hW; rintro ac w74 ⟨hA, hW⟩
                 refine thenN ?_
                 refine wp_seq ?_
                 refine wp_region_lit ?_
                 refine st_p (Value.int .i64 ((i3 : Nat) : Int)) hA ?_; clear hA ac; intro ac hA
                 refine st_q (Value.int .i64 ((i3 + 1 : Nat) : Int)) hA hW.cls (Rd.pureE (v0 := Value.int .i64 (IntKind.i64.wrap ((((i3 : Nat) : Int) : Int) + 1))) (fun _ => by kernel_rfl) (congrArg (Value.int .i64) ((w_i64 (x := (((i3 : Nat) : Int) : Int) + 1) (by omega) (by omega)).trans (by omega)))) ?_; clear hA ac; intro ac hA
                 refine st_p (Value.int .i64 ((i3 + 1 : Nat) : Int)) hA ?_; clear hA ac; intro ac hA
                 refine wpList_nil ?_
                 refine thenN ?_
                 refine wp_region_lit ?_
                 refine st_p (Value.int .i64 ((j3 : Nat) : Int)) hA ?_; clear hA ac; intro ac hA
                 refine st_q (Value.int .i64 ((j3 - 1 : Nat) : Int)) hA hW.cls (Rd.pureE (v0 := Value.int .i64 (IntKind.i64.wrap ((((j3 : Nat) : Int) : Int) - 1))) (fun _ => by kernel_rfl) (congrArg (Value.int .i64) ((w_i64 (x := (((j3 : Nat) : Int) : Int) - 1) (by omega) (by omega)).trans (by omega)))) ?_; clear hA ac; intro ac hA
                 refine st_p (Value.int .i64 ((j3 - 1 : Nat) : Int)) hA ?_; clear hA ac; intro ac hA
                 refine wpList_nil ?_
                 refine blkN ?_
                 refine thenN ?_
                 exact ⟨b + (j3 - 1) - (i3 + 1), by omega, i3 + 1, j3 - 1, List.set (List.set d i3 (y68 : Int)) j3 (y67 : Int), rfl, by omega, by rw [← hp3, arr_swp hy67 hy68]; exact (pl_step hehu2 hehv2 (by omega) (by omega) (by omega) (by omega)).symm, by rw [set2_len]; exact hl3, hA.sub ⟨⟨by kernel_rfl, by kernel_rfl⟩, ⟨by kernel_rfl, by kernel_rfl⟩, ⟨by kernel_rfl, by kernel_rfl⟩, ⟨by kernel_rfl, by kernel_rfl⟩, trivial⟩, (hW.pick [0] (by decide) rfl).pickG [] rfl⟩))

end Go.Proofs.Ytcgcippmbeileaa.L
