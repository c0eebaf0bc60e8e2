/- Contracts, walked by program over the engine's laws. -/
import Derived.Test.YtcgcippmbeileaaProg
import Derived.Test.YtcgcippmbeileaaT2
namespace Go.Proofs.Ytcgcippmbeileaa.L
open Go.RowKit

/-- A number of swaps, in a block. -/
def SwR (p sw : Nat) : Res := allR [Cel p #[Value.int .i64 ((sw : Nat) : Int)] 3]
def hintI : Sort.Hint → Int
  | .unknown => 0
  | .increasing => 1
  | .decreasing => 2
set_option maxRecDepth 100000 in
theorem e_order2 (A_l : Option Addr) (c_l : Nat) (l : List Int) (a : Nat) (b : Nat) (p : Nat) (sw : Nat) (w : World) (hr_l : RowAt w A_l 1 enU4 l) (hc_l : l.length ≤ c_l) (hd_l : ∀ x_ ∈ (SwR p sw).fp, x_ ∉ (roR A_l 1 enU4 l).fp) (ho_p : (SwR p sw).p w) (hl_p : ∀ x_ ∈ (SwR p sw).fp, x_ < w.heap.size) (hab : a < l.length ∧ b < l.length) (hsw : sw ≤ 1000) : Calls Try.prog 74 #[Value.slice A_l l.length c_l, Value.int .i64 ((a : Nat) : Int), Value.int .i64 ((b : Nat) : Int), Value.pointer (some ⟨p, 0, none⟩)] w (fun e w' => ∃ x : Nat, ∃ y : Nat, ∃ sw' : Nat, e = .returned (Value.tuple #[Value.int .i64 ((x : Nat) : Int), Value.int .i64 ((y : Nat) : Int)]) ∧ ((x, y, sw') = Sort.order2 Sort.ltInt l.toArray a b sw) ∧ ((x = a ∧ y = b ∨ x = b ∧ y = a) ∧ sw' ≤ sw + 1) ∧ Upd (SwR p sw) (SwR p sw') w w') := by
 have _hu := hc_l; have _hv := hr_l; clear _hu _hv
 have _hu := ho_p; have _hv := hl_p; clear _hu _hv
 have _hu := hab; clear _hu
 have _hu := hsw; clear _hu
 refine enter_E 28 Try.func74 rfl rfl (by kernel_rfl) (L := [(0, Value.slice A_l l.length c_l), (1, Value.int .i64 ((a : Nat) : Int)), (2, Value.int .i64 ((b : Nat) : Int)), (3, Value.pointer (some ⟨p, 0, none⟩))]) (by kernel_rfl) ?_
 intro ac hA
 have hW : Ws w (· ∈ (SwR p sw).fp) [Cel p #[Value.int .i64 ((sw : Nat) : Int)] 3] [] w := Ws.unpack (K := []) (objW ho_p hl_p)
 clear ho_p hl_p
 have hW := hW.addG (roR A_l 1 enU4 l) hr_l (roR_lt hr_l) (by intro r_ hr_; exact fun b_ hb_ => hd_l b_ (mem_allR.2 ⟨r_, hr_, hb_⟩))
 refine wp_seq ?_
 refine wp_region_lit ?_
 refine st_p (Value.int .i64 0) hA ?_; clear hA ac; intro ac hA
 refine st_p (Value.int .i64 0) hA ?_; clear hA ac; intro ac hA
 refine wpList_nil ?_
 refine thenN ?_
 refine wp_seq ?_
 refine wp_seq ?_
 refine q_region (by kernel_rfl) (by kernel_rfl) hW ?_
 refine sq_p (Value.slice A_l l.length c_l) hA ?_; clear hA ac; intro ac hA
 refine sq_p (Value.int .i64 ((b : Nat) : Int)) hA ?_; clear hA ac; intro ac hA
 obtain ⟨y1, hy1⟩ : ∃ y, l[b]? = some y := ⟨_, List.getElem?_eq_getElem (by first | omega | (simp; done) | (simp; omega))⟩
 obtain ⟨b2, o3, rfl, hbb2⟩ := row_some ((hW).getG 0 rfl) hy1
 refine sq_q (Value.pointer (some ⟨b2, o3 + b * 1, none⟩)) hA (Rd.indexAddr (e := 35) (sz := 1) (b := b2) (off := o3) (n := l.length) (c := c_l) (k := b) (by kernel_rfl) (by kernel_rfl) (by first | omega | (simp; done) | (simp; omega)) (fun _ => by kernel_rfl) (fun _ => by kernel_rfl)) ?_; clear hA ac; intro ac hA
 refine sq_q (Value.int .u32 y1) hA (Rd.loadRow (b := b2) (i := o3 + b * 1) (xs := [Value.int .u32 y1]) (by kernel_rfl) (fun _ hw => row_ld ((hw.1).getG 0 rfl) hy1 (Fr.refl No _) (fun h => h) 0 1 (by kernel_rfl)) (by kernel_rfl)) ?_; clear hA ac; intro ac hA
 refine sq_p (Value.slice (some ⟨b2, o3, none⟩) l.length c_l) hA ?_; clear hA ac; intro ac hA
 refine sq_p (Value.int .i64 ((a : Nat) : Int)) hA ?_; clear hA ac; intro ac hA
 obtain ⟨y4, hy4⟩ : ∃ y, l[a]? = some y := ⟨_, List.getElem?_eq_getElem (by first | omega | (simp; done) | (simp; omega))⟩
 refine sq_q (Value.pointer (some ⟨b2, o3 + a * 1, none⟩)) hA (Rd.indexAddr (e := 35) (sz := 1) (b := b2) (off := o3) (n := l.length) (c := c_l) (k := a) (by kernel_rfl) (by kernel_rfl) (by first | omega | (simp; done) | (simp; omega)) (fun _ => by kernel_rfl) (fun _ => by kernel_rfl)) ?_; clear hA ac; intro ac hA
 refine sq_q (Value.int .u32 y4) hA (Rd.loadRow (b := b2) (i := o3 + a * 1) (xs := [Value.int .u32 y4]) (by kernel_rfl) (fun _ hw => row_ld ((hw.1).getG 0 rfl) hy4 (Fr.refl No _) (fun h => h) 0 1 (by kernel_rfl)) (by kernel_rfl)) ?_; clear hA ac; intro ac hA
 refine sq_call (v := Value.bool (decide ((y1) < (y4)))) hA (by kernel_rfl) (by kernel_rfl) (by kernel_rfl) (fun _ => by kernel_rfl) (Cls.callNC fun wx hwx => e_less (y1) (y4) wx) ?_; clear hA ac; intro ac hA
 refine sq_nil ?_; intro w5 hww5; have hW := hww5.1; have hfw5 := hww5.2; clear hww5
 refine thenN ?_
 refine wp_cond_split (t := decide ((y1) < (y4))) (hA.eval (by kernel_rfl)) (fun h6 => ?_) (fun h6 => ?_)
 · skip
   have h6 := of_decide_eq_true h6
   first
   | (exfalso; clear hA hW; omega)
   | (
     refine wp_seq ?_
     refine wp_region_lit ?_
     refine st_p (Value.pointer (some ⟨p, 0, none⟩)) hA ?_; clear hA ac; intro ac hA
     refine st_p (Value.pointer (some ⟨p, 0, none⟩)) hA ?_; clear hA ac; intro ac hA
     refine st_q (Value.int .i64 ((sw : Nat) : Int)) hA hW.cls (Rd.load (b := p) (i := 0) (by kernel_rfl) (fun _ hw => (hw.1).cel 0 rfl) (by kernel_rfl)) ?_; clear hA ac; intro ac hA
     refine st_q (Value.int .i64 ((sw + 1 : Nat) : Int)) hA hW.cls (Rd.pureE (v0 := Value.int .i64 (IntKind.i64.wrap ((((sw : Nat) : Int) : Int) + 1))) (fun _ => by kernel_rfl) (congrArg (Value.int .i64) ((w_i64 (x := (((sw : Nat) : Int) : Int) + 1) (by omega) (by omega)).trans (by omega)))) ?_; clear hA ac; intro ac hA
     refine st_p (Value.pointer (some ⟨p, 0, none⟩)) hA ?_; clear hA ac; intro ac hA
     refine st_s hA (Runs.store (v := Value.int .i64 ((sw + 1 : Nat) : Int)) (b := p) (j := 0) (n := 1) (cs' := #[Value.int .i64 ((sw + 1 : Nat) : Int)]) (H' := [Cel p #[Value.int .i64 ((sw + 1 : Nat) : Int)] 3]) (by kernel_rfl) (by kernel_rfl) (by kernel_rfl) (by kernel_rfl) (by kernel_rfl) hW 0 (by rfl) (Nat.le_of_ble_eq_true (by kernel_rfl)) (by kernel_rfl) (by rfl) ?_); clear hA ac hW; intro w7 hW ac hA
     refine wpList_nil ?_
     refine thenN ?_
     refine wp_seq ?_
     refine wp_region_lit ?_
     refine st_p (Value.int .i64 ((b : Nat) : Int)) hA ?_; clear hA ac; intro ac hA
     refine st_p (Value.int .i64 ((a : Nat) : Int)) hA ?_; clear hA ac; intro ac hA
     refine st_p (Value.int .i64 ((b : Nat) : Int)) hA ?_; clear hA ac; intro ac hA
     refine st_p (Value.int .i64 ((a : Nat) : Int)) hA ?_; clear hA ac; intro ac hA
     refine wpList_nil ?_
     refine thenN ?_
     refine wp_ret ?_
     refine thenR ?_
     refine ret2 (v1 := Value.int .i64 ((b : Nat) : Int)) (v2 := Value.int .i64 ((a : Nat) : Int)) (by rfl) hA (Got.tmp hA (by kernel_rfl) (by kernel_rfl)) (Got.tmp hA (by kernel_rfl) (by kernel_rfl)) ?_
     clear hA
     exact ⟨b, a, sw + 1, rfl, by unfold Sort.order2; rw [arr_at hy1, arr_at hy4, ltI, if_pos (decide_eq_true (by omega))], by omega, (Ws.pack (K := []) (show Ws w (· ∈ (SwR p sw).fp) ([Cel p #[Value.int .i64 ((sw + 1 : Nat) : Int)] 3] ++ []) [roR (some ⟨b2, o3, none⟩) 1 enU4 l] _ from hW.pick [0] (by decide) rfl)).updDone 0 rfl⟩)
 · skip
   have h6 := of_decide_eq_false h6
   first
   | (exfalso; clear hA hW; omega)
   | (
     refine wp_skip ?_
     refine thenN ?_
     refine wp_seq ?_
     refine wp_region_lit ?_
     refine st_p (Value.int .i64 ((a : Nat) : Int)) hA ?_; clear hA ac; intro ac hA
     refine st_p (Value.int .i64 ((b : Nat) : Int)) hA ?_; clear hA ac; intro ac hA
     refine st_p (Value.int .i64 ((a : Nat) : Int)) hA ?_; clear hA ac; intro ac hA
     refine st_p (Value.int .i64 ((b : Nat) : Int)) hA ?_; clear hA ac; intro ac hA
     refine wpList_nil ?_
     refine thenN ?_
     refine wp_ret ?_
     refine ret2 (v1 := Value.int .i64 ((a : Nat) : Int)) (v2 := Value.int .i64 ((b : Nat) : Int)) (by rfl) hA (Got.tmp hA (by kernel_rfl) (by kernel_rfl)) (Got.tmp hA (by kernel_rfl) (by kernel_rfl)) ?_
     clear hA
     exact ⟨a, b, sw, rfl, by unfold Sort.order2; rw [arr_at hy1, arr_at hy4, ltI, if_neg (by rw [decide_eq_true_eq]; omega)], by omega, (Ws.pack (K := []) (show Ws w (· ∈ (SwR p sw).fp) ([Cel p #[Value.int .i64 ((sw : Nat) : Int)] 3] ++ []) [roR (some ⟨b2, o3, none⟩) 1 enU4 l] _ from hW.pick [0] (by decide) rfl)).updDone 0 rfl⟩)

set_option maxRecDepth 100000 in
theorem e_median (A_l : Option Addr) (c_l : Nat) (l : List Int) (a : Nat) (b : Nat) (c : Nat) (p : Nat) (sw : Nat) (w : World) (hr_l : RowAt w A_l 1 enU4 l) (hc_l : l.length ≤ c_l) (hd_l : ∀ x_ ∈ (SwR p sw).fp, x_ ∉ (roR A_l 1 enU4 l).fp) (ho_p : (SwR p sw).p w) (hl_p : ∀ x_ ∈ (SwR p sw).fp, x_ < w.heap.size) (hab : a < l.length ∧ b < l.length ∧ c < l.length) (hsw : sw ≤ 900) : Calls Try.prog 72 #[Value.slice A_l l.length c_l, Value.int .i64 ((a : Nat) : Int), Value.int .i64 ((b : Nat) : Int), Value.int .i64 ((c : Nat) : Int), Value.pointer (some ⟨p, 0, none⟩)] w (fun e w' => ∃ x : Nat, ∃ sw' : Nat, e = .returned (Value.int .i64 ((x : Nat) : Int)) ∧ ((x, sw') = Sort.median Sort.ltInt l.toArray a b c sw) ∧ (x = a ∨ x = b ∨ x = c) ∧ Upd (SwR p sw) (SwR p sw') w w') := by
 have _hu := hc_l; have _hv := hr_l; clear _hu _hv
 have _hu := ho_p; have _hv := hl_p; clear _hu _hv
 have _hu := hab; clear _hu
 have _hu := hsw; clear _hu
 refine enter_E 36 Try.func72 rfl rfl (by kernel_rfl) (L := [(0, Value.slice A_l l.length c_l), (1, Value.int .i64 ((a : Nat) : Int)), (2, Value.int .i64 ((b : Nat) : Int)), (3, Value.int .i64 ((c : Nat) : Int)), (4, Value.pointer (some ⟨p, 0, none⟩))]) (by kernel_rfl) ?_
 intro ac hA
 have hW : Ws w (· ∈ (SwR p sw).fp) [SwR p sw] [] w := objW ho_p hl_p
 clear ho_p hl_p
 have hW := hW.addG (roR A_l 1 enU4 l) hr_l (roR_lt hr_l) (by intro r_ hr_; simp only [List.mem_singleton] at hr_; subst hr_; exact hd_l)
 refine wp_seq ?_
 refine wp_region_lit ?_
 refine st_p (Value.int .i64 0) hA ?_; clear hA ac; intro ac hA
 refine wpList_nil ?_
 refine thenN ?_
 refine wp_seq ?_
 refine wp_region_lit ?_
 refine st_p (Value.slice A_l l.length c_l) hA ?_; clear hA ac; intro ac hA
 refine st_p (Value.int .i64 ((a : Nat) : Int)) hA ?_; clear hA ac; intro ac hA
 refine st_p (Value.int .i64 ((b : Nat) : Int)) hA ?_; clear hA ac; intro ac hA
 refine st_p (Value.pointer (some ⟨p, 0, none⟩)) hA ?_; clear hA ac; intro ac hA
 refine st_s hA (Runs.call (fun _ => by kernel_rfl) (e_order2 A_l c_l l (a) (b) p sw w ((hW).getG 0 rfl) (by first | assumption | omega | (simp; omega) | simp) ((hW).gd _ (List.mem_of_getElem? (i := 0) rfl) _ (List.mem_of_getElem? (i := 0) rfl)) ((hW).get 0 rfl) ((hW).lt _ (List.mem_of_getElem? (i := 0) rfl)) (by first | omega | (simp; done)) (by first | omega | (simp; done))) ?_)
 rintro _ w1 ⟨u2, u3, u4, rfl, hw1_hO, hw1_hX, hu_⟩; refine ⟨_, rfl, ?_⟩; replace hW := hW.upd (H' := [SwR p u4]) 0 rfl hu_ rfl; clear hA ac; intro ac hA
 refine st_p (Value.tuple #[Value.int .i64 ((u2 : Nat) : Int), Value.int .i64 ((u3 : Nat) : Int)]) hA ?_; clear hA ac; intro ac hA
 refine st_p (Value.int .i64 ((u2 : Nat) : Int)) hA ?_; clear hA ac; intro ac hA
 refine st_p (Value.int .i64 ((u3 : Nat) : Int)) hA ?_; clear hA ac; intro ac hA
 refine st_p (Value.int .i64 ((u2 : Nat) : Int)) hA ?_; clear hA ac; intro ac hA
 refine st_p (Value.int .i64 ((u3 : Nat) : Int)) hA ?_; clear hA ac; intro ac hA
 refine wpList_nil ?_
 refine thenN ?_
 refine wp_seq ?_
 refine wp_region_lit ?_
 refine st_p (Value.slice A_l l.length c_l) hA ?_; clear hA ac; intro ac hA
 refine st_p (Value.int .i64 ((u3 : Nat) : Int)) hA ?_; clear hA ac; intro ac hA
 refine st_p (Value.int .i64 ((c : Nat) : Int)) hA ?_; clear hA ac; intro ac hA
 refine st_p (Value.pointer (some ⟨p, 0, none⟩)) hA ?_; clear hA ac; intro ac hA
 refine st_s hA (Runs.call (fun _ => by kernel_rfl) (e_order2 A_l c_l l (u3) (c) p u4 w1 ((hW).getG 0 rfl) (by first | assumption | omega | (simp; omega) | simp) ((hW).gd _ (List.mem_of_getElem? (i := 0) rfl) _ (List.mem_of_getElem? (i := 0) rfl)) ((hW).get 0 rfl) ((hW).lt _ (List.mem_of_getElem? (i := 0) rfl)) (by first | omega | (simp; done)) (by first | omega | (simp; done))) ?_)
 rintro _ w5 ⟨u6, u7, u8, rfl, hw5_hO, hw5_hX, hu_⟩; refine ⟨_, rfl, ?_⟩; replace hW := hW.upd (H' := [SwR p u8]) 0 rfl hu_ rfl; clear hA ac; intro ac hA
 refine st_p (Value.tuple #[Value.int .i64 ((u6 : Nat) : Int), Value.int .i64 ((u7 : Nat) : Int)]) hA ?_; clear hA ac; intro ac hA
 refine st_p (Value.int .i64 ((u6 : Nat) : Int)) hA ?_; clear hA ac; intro ac hA
 refine st_p (Value.int .i64 ((u7 : Nat) : Int)) hA ?_; clear hA ac; intro ac hA
 refine st_p (Value.int .i64 ((u6 : Nat) : Int)) hA ?_; clear hA ac; intro ac hA
 refine st_p (Value.int .i64 ((u7 : Nat) : Int)) hA ?_; clear hA ac; intro ac hA
 refine wpList_nil ?_
 refine thenN ?_
 refine wp_seq ?_
 refine wp_region_lit ?_
 refine st_p (Value.slice A_l l.length c_l) hA ?_; clear hA ac; intro ac hA
 refine st_p (Value.int .i64 ((u2 : Nat) : Int)) hA ?_; clear hA ac; intro ac hA
 refine st_p (Value.int .i64 ((u6 : Nat) : Int)) hA ?_; clear hA ac; intro ac hA
 refine st_p (Value.pointer (some ⟨p, 0, none⟩)) hA ?_; clear hA ac; intro ac hA
 refine st_s hA (Runs.call (fun _ => by kernel_rfl) (e_order2 A_l c_l l (u2) (u6) p u8 w5 ((hW).getG 0 rfl) (by first | assumption | omega | (simp; omega) | simp) ((hW).gd _ (List.mem_of_getElem? (i := 0) rfl) _ (List.mem_of_getElem? (i := 0) rfl)) ((hW).get 0 rfl) ((hW).lt _ (List.mem_of_getElem? (i := 0) rfl)) (by first | omega | (simp; done)) (by first | omega | (simp; done))) ?_)
 rintro _ w9 ⟨u10, u11, u12, rfl, hw9_hO, hw9_hX, hu_⟩; refine ⟨_, rfl, ?_⟩; replace hW := hW.upd (H' := [SwR p u12]) 0 rfl hu_ rfl; clear hA ac; intro ac hA
 refine st_p (Value.tuple #[Value.int .i64 ((u10 : Nat) : Int), Value.int .i64 ((u11 : Nat) : Int)]) hA ?_; clear hA ac; intro ac hA
 refine st_p (Value.int .i64 ((u10 : Nat) : Int)) hA ?_; clear hA ac; intro ac hA
 refine st_p (Value.int .i64 ((u11 : Nat) : Int)) hA ?_; clear hA ac; intro ac hA
 refine st_p (Value.int .i64 ((u10 : Nat) : Int)) hA ?_; clear hA ac; intro ac hA
 refine st_p (Value.int .i64 ((u11 : Nat) : Int)) hA ?_; clear hA ac; intro ac hA
 refine wpList_nil ?_
 refine thenN ?_
 refine wp_seq ?_
 refine wp_region_lit ?_
 refine st_p (Value.int .i64 ((u11 : Nat) : Int)) hA ?_; clear hA ac; intro ac hA
 refine st_p (Value.int .i64 ((u11 : Nat) : Int)) hA ?_; clear hA ac; intro ac hA
 refine wpList_nil ?_
 refine thenN ?_
 refine wp_ret ?_
 refine ret1 (v := Value.int .i64 ((u11 : Nat) : Int)) (by rfl) hA (Got.tmp hA (by kernel_rfl) (by kernel_rfl)) ?_
 clear hA
 exact ⟨u11, u12, rfl, by simp only [Sort.median, ← hw1_hO, ← hw5_hO, ← hw9_hO], by omega, (hW.pick [0] (by decide) rfl).updDone 0 rfl⟩

set_option maxRecDepth 100000 in
theorem e_pivot (A_l : Option Addr) (c_l : Nat) (l : List Int) (a : Nat) (b : Nat) (w : World) (hr_l : RowAt w A_l 1 enU4 l) (hc_l : l.length ≤ c_l) (hab : a + 8 ≤ b ∧ b ≤ l.length ∧ b < a + 50) (hsz : l.length ≤ 1000000) : Calls Try.prog 58 #[Value.slice A_l l.length c_l, Value.int .i64 ((a : Nat) : Int), Value.int .i64 ((b : Nat) : Int)] w (fun e w' => ∃ x : Nat, ∃ hh : Int, e = .returned (Value.tuple #[Value.int .i64 ((x : Nat) : Int), Value.int .i64 hh]) ∧ (x = (Sort.choosePivot Sort.ltInt l.toArray a b).1) ∧ (hh = hintI (Sort.choosePivot Sort.ltInt l.toArray a b).2) ∧ (a ≤ x ∧ x < b) ∧ Fr No w w') := by
 have _hu := hc_l; have _hv := hr_l; clear _hu _hv
 have _hu := hab; clear _hu
 have _hu := hsz; clear _hu
 refine enter_E 57 Try.func58 rfl rfl (by kernel_rfl) (L := [(0, Value.slice A_l l.length c_l), (1, Value.int .i64 ((a : Nat) : Int)), (2, Value.int .i64 ((b : Nat) : Int))]) (by kernel_rfl) ?_
 intro ac hA
 have hW := Ws.start w No
 have hW := hW.arg hr_l
 refine wp_seq ?_
 refine wp_region_lit ?_
 refine st_p (Value.int .i64 0) hA ?_; clear hA ac; intro ac hA
 refine st_p (Value.int .i64 0) hA ?_; clear hA ac; intro ac hA
 refine wpList_nil ?_
 refine thenN ?_
 refine wp_seq ?_
 refine wp_region_lit ?_
 refine st_p (Value.int .i64 ((b : Nat) : Int)) hA ?_; clear hA ac; intro ac hA
 refine st_p (Value.int .i64 ((a : Nat) : Int)) hA ?_; clear hA ac; intro ac hA
 refine st_q (Value.int .i64 ((b - a : Nat) : Int)) hA hW.cls (Rd.pureE (v0 := Value.int .i64 (IntKind.i64.wrap ((((b : Nat) : Int) : Int) - ((a : Nat) : Int)))) (fun _ => by kernel_rfl) (congrArg (Value.int .i64) ((w_i64 (x := (((b : Nat) : Int) : Int) - ((a : Nat) : Int)) (by omega) (by omega)).trans (by omega)))) ?_; clear hA ac; intro ac hA
 refine st_p (Value.int .i64 ((b - a : Nat) : Int)) hA ?_; clear hA ac; intro ac hA
 refine wpList_nil ?_
 refine thenN ?_
 refine wp_seq ?_
 refine wp_region_lit ?_
 refine st_s hA (Runs.cells (fun b => Value.pointer (some ⟨b, 0, none⟩)) #[Value.int .i64 0] 3 (fun _ => by kernel_rfl) hW ?_); clear hA ac hW; intro b1 w2 hW hb1 hfw2 ac hA
 refine wpList_nil ?_
 refine thenN ?_
 refine wp_seq ?_
 refine wp_region_lit ?_
 refine st_p (Value.int .i64 ((a : Nat) : Int)) hA ?_; clear hA ac; intro ac hA
 refine st_p (Value.int .i64 ((b - a : Nat) : Int)) hA ?_; clear hA ac; intro ac hA
 refine st_q (Value.int .i64 (((b - a) / 4 : Nat) : Int)) hA hW.cls (Rd.pureE (v0 := Value.int .i64 (IntKind.i64.wrap (Int.tdiv (((b - a : Nat) : Int) : Int) 4))) (fun _ => by kernel_rfl) (congrArg (Value.int .i64) ((congrArg IntKind.i64.wrap (quo_ (x := ((b - a : Nat) : Int)) (by omega))).trans (w_i64 (by omega) (by omega))))) ?_; clear hA ac; intro ac hA
 refine st_q (Value.int .i64 ((((b - a) / 4) * 1 : Nat) : Int)) hA hW.cls (Rd.pureE (v0 := Value.int .i64 (IntKind.i64.wrap (((((b - a) / 4 : Nat) : Int) : Int) * 1))) (fun _ => by kernel_rfl) (congrArg (Value.int .i64) ((w_i64 (x := ((((b - a) / 4 : Nat) : Int) : Int) * 1) (by omega) (by omega)).trans (by omega)))) ?_; clear hA ac; intro ac hA
 refine st_q (Value.int .i64 ((a + (((b - a) / 4) * 1) : Nat) : Int)) hA hW.cls (Rd.pureE (v0 := Value.int .i64 (IntKind.i64.wrap ((((a : Nat) : Int) : Int) + ((((b - a) / 4) * 1 : Nat) : Int)))) (fun _ => by kernel_rfl) (congrArg (Value.int .i64) ((w_i64 (x := (((a : Nat) : Int) : Int) + ((((b - a) / 4) * 1 : Nat) : Int)) (by omega) (by omega)).trans (by omega)))) ?_; clear hA ac; intro ac hA
 refine st_p (Value.int .i64 ((a + (((b - a) / 4) * 1) : Nat) : Int)) hA ?_; clear hA ac; intro ac hA
 refine wpList_nil ?_
 refine thenN ?_
 refine wp_seq ?_
 refine wp_region_lit ?_
 refine st_p (Value.int .i64 ((a : Nat) : Int)) hA ?_; clear hA ac; intro ac hA
 refine st_p (Value.int .i64 ((b - a : Nat) : Int)) hA ?_; clear hA ac; intro ac hA
 refine st_q (Value.int .i64 (((b - a) / 4 : Nat) : Int)) hA hW.cls (Rd.pureE (v0 := Value.int .i64 (IntKind.i64.wrap (Int.tdiv (((b - a : Nat) : Int) : Int) 4))) (fun _ => by kernel_rfl) (congrArg (Value.int .i64) ((congrArg IntKind.i64.wrap (quo_ (x := ((b - a : Nat) : Int)) (by omega))).trans (w_i64 (by omega) (by omega))))) ?_; clear hA ac; intro ac hA
 refine st_q (Value.int .i64 ((((b - a) / 4) * 2 : Nat) : Int)) hA hW.cls (Rd.pureE (v0 := Value.int .i64 (IntKind.i64.wrap (((((b - a) / 4 : Nat) : Int) : Int) * 2))) (fun _ => by kernel_rfl) (congrArg (Value.int .i64) ((w_i64 (x := ((((b - a) / 4 : Nat) : Int) : Int) * 2) (by omega) (by omega)).trans (by omega)))) ?_; clear hA ac; intro ac hA
 refine st_q (Value.int .i64 ((a + (((b - a) / 4) * 2) : Nat) : Int)) hA hW.cls (Rd.pureE (v0 := Value.int .i64 (IntKind.i64.wrap ((((a : Nat) : Int) : Int) + ((((b - a) / 4) * 2 : Nat) : Int)))) (fun _ => by kernel_rfl) (congrArg (Value.int .i64) ((w_i64 (x := (((a : Nat) : Int) : Int) + ((((b - a) / 4) * 2 : Nat) : Int)) (by omega) (by omega)).trans (by omega)))) ?_; clear hA ac; intro ac hA
 refine st_p (Value.int .i64 ((a + (((b - a) / 4) * 2) : Nat) : Int)) hA ?_; clear hA ac; intro ac hA
 refine wpList_nil ?_
 refine thenN ?_
 refine wp_seq ?_
 refine wp_region_lit ?_
 refine st_p (Value.int .i64 ((a : Nat) : Int)) hA ?_; clear hA ac; intro ac hA
 refine st_p (Value.int .i64 ((b - a : Nat) : Int)) hA ?_; clear hA ac; intro ac hA
 refine st_q (Value.int .i64 (((b - a) / 4 : Nat) : Int)) hA hW.cls (Rd.pureE (v0 := Value.int .i64 (IntKind.i64.wrap (Int.tdiv (((b - a : Nat) : Int) : Int) 4))) (fun _ => by kernel_rfl) (congrArg (Value.int .i64) ((congrArg IntKind.i64.wrap (quo_ (x := ((b - a : Nat) : Int)) (by omega))).trans (w_i64 (by omega) (by omega))))) ?_; clear hA ac; intro ac hA
 refine st_q (Value.int .i64 ((((b - a) / 4) * 3 : Nat) : Int)) hA hW.cls (Rd.pureE (v0 := Value.int .i64 (IntKind.i64.wrap (((((b - a) / 4 : Nat) : Int) : Int) * 3))) (fun _ => by kernel_rfl) (congrArg (Value.int .i64) ((w_i64 (x := ((((b - a) / 4 : Nat) : Int) : Int) * 3) (by omega) (by omega)).trans (by omega)))) ?_; clear hA ac; intro ac hA
 refine st_q (Value.int .i64 ((a + (((b - a) / 4) * 3) : Nat) : Int)) hA hW.cls (Rd.pureE (v0 := Value.int .i64 (IntKind.i64.wrap ((((a : Nat) : Int) : Int) + ((((b - a) / 4) * 3 : Nat) : Int)))) (fun _ => by kernel_rfl) (congrArg (Value.int .i64) ((w_i64 (x := (((a : Nat) : Int) : Int) + ((((b - a) / 4) * 3 : Nat) : Int)) (by omega) (by omega)).trans (by omega)))) ?_; clear hA ac; intro ac hA
 refine st_p (Value.int .i64 ((a + (((b - a) / 4) * 3) : Nat) : Int)) hA ?_; clear hA ac; intro ac hA
 refine wpList_nil ?_
 refine thenN ?_
 refine wp_seq ?_
 refine wp_seq ?_
 have hW : Ws w No [SwR b1 0] [roR A_l 1 enU4 l] w2 := Ws.pack (L := [Cel b1 #[Value.int .i64 0] 3]) (hW.pick [0] (by decide) rfl)
 refine wp_region_lit ?_
 refine st_p (Value.int .i64 ((b - a : Nat) : Int)) hA ?_; clear hA ac; intro ac hA
 refine st_p (Value.bool (decide ((((b - a : Nat) : Int) : Int) ≥ (8 : Int)))) hA ?_; clear hA ac; intro ac hA
 refine wpList_nil ?_
 refine thenN ?_
 refine wp_cond_split (t := decide ((((b - a : Nat) : Int) : Int) ≥ (8 : Int))) (hA.eval (by kernel_rfl)) (fun h3 => ?_) (fun h3 => ?_)
 · skip
   have h3 := of_decide_eq_true h3
   first
   | (exfalso; clear hA hW; omega)
   | (
     refine wp_seq ?_
     refine wp_seq ?_
     refine wp_region_lit ?_
     refine st_p (Value.int .i64 ((b - a : Nat) : Int)) hA ?_; clear hA ac; intro ac hA
     refine st_p (Value.bool (decide ((((b - a : Nat) : Int) : Int) ≥ (50 : Int)))) hA ?_; clear hA ac; intro ac hA
     refine wpList_nil ?_
     refine thenN ?_
     refine wp_cond_split (t := decide ((((b - a : Nat) : Int) : Int) ≥ (50 : Int))) (hA.eval (by kernel_rfl)) (fun h4 => ?_) (fun h4 => ?_)
     · skip
       have h4 := of_decide_eq_true h4
       first
       | (exfalso; clear hA hW; omega)
       | (
         fail)
     · skip
       have h4 := of_decide_eq_false h4
       first
       | (exfalso; clear hA hW; omega)
       | (
         refine wp_skip ?_
         refine thenN ?_
         refine wp_region_lit ?_
         refine st_p (Value.slice A_l l.length c_l) hA ?_; clear hA ac; intro ac hA
         refine st_p (Value.int .i64 ((a + (((b - a) / 4) * 1) : Nat) : Int)) hA ?_; clear hA ac; intro ac hA
         refine st_p (Value.int .i64 ((a + (((b - a) / 4) * 2) : Nat) : Int)) hA ?_; clear hA ac; intro ac hA
         refine st_p (Value.int .i64 ((a + (((b - a) / 4) * 3) : Nat) : Int)) hA ?_; clear hA ac; intro ac hA
         refine st_s hA (Runs.call (fun _ => by kernel_rfl) (e_median A_l c_l l (a + (((b - a) / 4) * 1)) (a + (((b - a) / 4) * 2)) (a + (((b - a) / 4) * 3)) b1 0 w2 ((hW).getG 0 rfl) (by first | assumption | omega | (simp; omega) | simp) ((hW).gd _ (List.mem_of_getElem? (i := 0) rfl) _ (List.mem_of_getElem? (i := 0) rfl)) ((hW).get 0 rfl) ((hW).lt _ (List.mem_of_getElem? (i := 0) rfl)) (by first | omega | (simp; done)) (by first | omega | (simp; done))) ?_)
         rintro _ w5 ⟨u6, u7, rfl, hw5_hM, hw5_hX, hu_⟩; refine ⟨_, rfl, ?_⟩; replace hW := hW.upd (H' := [SwR b1 u7]) 0 rfl hu_ rfl; clear hA ac; intro ac hA
         refine st_p (Value.int .i64 ((u6 : Nat) : Int)) hA ?_; clear hA ac; intro ac hA
         refine wpList_nil ?_
         refine thenN ?_
         refine wp_seq ?_
         have hW : Ws w No [Cel b1 #[Value.int .i64 ((u7 : Nat) : Int)] 3] [roR A_l 1 enU4 l] w5 := Ws.unpack (hW.pick [0] (by decide) rfl)
         refine wp_region_lit ?_
         refine st_q (Value.int .i64 ((u7 : Nat) : Int)) hA hW.cls (Rd.load (b := b1) (i := 0) (by kernel_rfl) (fun _ hw => (hw.1).cel 0 rfl) (by kernel_rfl)) ?_; clear hA ac; intro ac hA
         refine wpList_nil ?_
         refine thenN ?_
         refine wp_block ?_
         refine wp_seq ?_
         refine wp_region_lit ?_
         refine st_p (Value.bool ((((u7 : Nat) : Int) : Int) == (0 : Int))) hA ?_; clear hA ac; intro ac hA
         refine st_p (Value.bool ((((u7 : Nat) : Int) : Int) == (0 : Int))) hA ?_; clear hA ac; intro ac hA
         refine wpList_nil ?_
         refine thenN ?_
         refine wp_cond_split (t := (((u7 : Nat) : Int) : Int) == (0 : Int)) (hA.eval (by kernel_rfl)) (fun h8 => ?_) (fun h8 => ?_)
         · skip
           have h8 := eq_of_beq h8
           first
           | (exfalso; clear hA hW; omega)
           | (
             refine wp_seq ?_
             refine wp_region_lit ?_
             refine st_p (Value.int .i64 ((u6 : Nat) : Int)) hA ?_; clear hA ac; intro ac hA
             refine st_p (Value.int .i64 ((u6 : Nat) : Int)) hA ?_; clear hA ac; intro ac hA
             refine st_p (Value.int .i64 1) hA ?_; clear hA ac; intro ac hA
             refine wpList_nil ?_
             refine thenN ?_
             refine wp_ret ?_
             refine blkR ?_
             refine ret2 (v1 := Value.int .i64 ((u6 : Nat) : Int)) (v2 := Value.int .i64 1) (by rfl) hA (Got.tmp hA (by kernel_rfl) (by kernel_rfl)) (Got.tmp hA (by kernel_rfl) (by kernel_rfl)) ?_
             clear hA
             have e_ : Sort.choosePivot Sort.ltInt l.toArray a b = (u6, .increasing) := by unfold Sort.choosePivot; simp only []; rw [if_pos (show b - a ≥ 8 from by omega), if_neg (show ¬ b - a ≥ 50 from by omega), ← hw5_hM]; simp only []; rw [if_pos (by omega)]
             exact ⟨u6, 1, by first | rfl | (simp; done), by rw [e_], by rw [e_]; rfl, by omega, hW.fr⟩)
         · skip
           have h8 := ne_of_beq_false h8
           first
           | (exfalso; clear hA hW; omega)
           | (
             refine wp_seq ?_
             refine wp_region_lit ?_
             refine st_p (Value.bool ((((u7 : Nat) : Int) : Int) == (12 : Int))) hA ?_; clear hA ac; intro ac hA
             refine st_p (Value.bool ((((u7 : Nat) : Int) : Int) == (12 : Int))) hA ?_; clear hA ac; intro ac hA
             refine wpList_nil ?_
             refine thenN ?_
             refine wp_cond_split (t := (((u7 : Nat) : Int) : Int) == (12 : Int)) (hA.eval (by kernel_rfl)) (fun h9 => ?_) (fun h9 => ?_)
             · skip
               have h9 := eq_of_beq h9
               first
               | (exfalso; clear hA hW; omega)
               | (
                 refine wp_seq ?_
                 refine wp_region_lit ?_
                 refine st_p (Value.int .i64 ((u6 : Nat) : Int)) hA ?_; clear hA ac; intro ac hA
                 refine st_p (Value.int .i64 ((u6 : Nat) : Int)) hA ?_; clear hA ac; intro ac hA
                 refine st_p (Value.int .i64 2) hA ?_; clear hA ac; intro ac hA
                 refine wpList_nil ?_
                 refine thenN ?_
                 refine wp_ret ?_
                 refine blkR ?_
                 refine ret2 (v1 := Value.int .i64 ((u6 : Nat) : Int)) (v2 := Value.int .i64 2) (by rfl) hA (Got.tmp hA (by kernel_rfl) (by kernel_rfl)) (Got.tmp hA (by kernel_rfl) (by kernel_rfl)) ?_
                 clear hA
                 have e_ : Sort.choosePivot Sort.ltInt l.toArray a b = (u6, .decreasing) := by unfold Sort.choosePivot; simp only []; rw [if_pos (show b - a ≥ 8 from by omega), if_neg (show ¬ b - a ≥ 50 from by omega), ← hw5_hM]; simp only []; rw [if_neg (by omega), if_pos (by omega)]
                 exact ⟨u6, 2, by first | rfl | (simp; done), by rw [e_], by rw [e_]; rfl, by omega, hW.fr⟩)
             · skip
               have h9 := ne_of_beq_false h9
               first
               | (exfalso; clear hA hW; omega)
               | (
                 refine wp_seq ?_
                 refine wp_region_lit ?_
                 refine st_p (Value.int .i64 ((u6 : Nat) : Int)) hA ?_; clear hA ac; intro ac hA
                 refine st_p (Value.int .i64 ((u6 : Nat) : Int)) hA ?_; clear hA ac; intro ac hA
                 refine st_p (Value.int .i64 0) hA ?_; clear hA ac; intro ac hA
                 refine wpList_nil ?_
                 refine thenN ?_
                 refine wp_ret ?_
                 refine blkR ?_
                 refine ret2 (v1 := Value.int .i64 ((u6 : Nat) : Int)) (v2 := Value.int .i64 0) (by rfl) hA (Got.tmp hA (by kernel_rfl) (by kernel_rfl)) (Got.tmp hA (by kernel_rfl) (by kernel_rfl)) ?_
                 clear hA
                 have e_ : Sort.choosePivot Sort.ltInt l.toArray a b = (u6, .unknown) := by unfold Sort.choosePivot; simp only []; rw [if_pos (show b - a ≥ 8 from by omega), if_neg (show ¬ b - a ≥ 50 from by omega), ← hw5_hM]; simp only []; rw [if_neg (by omega), if_neg (by omega)]
                 exact ⟨u6, 0, by first | rfl | (simp; done), by rw [e_], by rw [e_]; rfl, by omega, hW.fr⟩))))
 · skip
   have h3 := of_decide_eq_false h3
   first
   | (exfalso; clear hA hW; omega)
   | (
     fail)

end Go.Proofs.Ytcgcippmbeileaa.L
