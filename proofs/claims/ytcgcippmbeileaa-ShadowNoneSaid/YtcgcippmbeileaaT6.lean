/- Contracts, walked by program over the engine's laws. -/
import Derived.Test.YtcgcippmbeileaaProg
import Derived.Test.YtcgcippmbeileaaT5
import Derived.Test.YtcgcippmbeileaaLay
import Derived.Shelf.SlSortCmp.Xorshift
namespace Go.Proofs.Ytcgcippmbeileaa.L
open Go.RowKit

/-- A random number's state, in a block. -/
def RnR (p : Nat) (u : UInt64) : Res := allR [Cel p #[Value.int .u64 ((u.toNat : Nat) : Int)] 128]
theorem xs1 {X : Nat} (hX : X < 18446744073709551616) : bits .xor .u64 (X : Int) (IntKind.u64.wrap ((X : Int) * 8192)) = ((X ^^^ (X * 8192 % 18446744073709551616) : Nat) : Int) := by
  rw [IntKind.wrap_u64, show ((X : Int) * 8192 % 18446744073709551616) = ((X * 8192 % 18446744073709551616 : Nat) : Int) by omega, Go.bits_xor_u64_nat _ _ hX (by omega)]
theorem xs3 {X : Nat} (hX : X < 18446744073709551616) : bits .xor .u64 (X : Int) (IntKind.u64.wrap ((X : Int) * 131072)) = ((X ^^^ (X * 131072 % 18446744073709551616) : Nat) : Int) := by
  rw [IntKind.wrap_u64, show ((X : Int) * 131072 % 18446744073709551616) = ((X * 131072 % 18446744073709551616 : Nat) : Int) by omega, Go.bits_xor_u64_nat _ _ hX (by omega)]
theorem xs2 {X : Nat} (hX : X < 18446744073709551616) : bits .xor .u64 (X : Int) ((X : Int) / 128) = ((X ^^^ (X / 128) : Nat) : Int) := by
  rw [show ((X : Int) / 128) = ((X / 128 : Nat) : Int) by omega, Go.bits_xor_u64_nat _ _ hX (by omega)]
theorem xlt {X Y : Nat} (h : X < 18446744073709551616) (h2 : Y < 18446744073709551616) : X ^^^ Y < 18446744073709551616 := Nat.xor_lt_two_pow (n := 64) h h2
theorem and_le {X Y : Nat} (h : Y < 18446744073709551616) (hX : X < 18446744073709551616) : bits .and .u64 (X : Int) (Y : Int) = ((X &&& Y : Nat) : Int) ∧ X &&& Y ≤ Y := by
  refine ⟨?_, Nat.and_le_right⟩
  have ha : (BitVec.ofInt 64 (X : Int)).toNat = X := by rw [BitVec.ofInt_natCast, BitVec.toNat_ofNat]; exact Nat.mod_eq_of_lt (by omega)
  have hb : (BitVec.ofInt 64 (Y : Int)).toNat = Y := by rw [BitVec.ofInt_natCast, BitVec.toNat_ofNat]; exact Nat.mod_eq_of_lt (by omega)
  show IntKind.u64.wrap ((BitVec.ofInt 64 (X : Int) &&& BitVec.ofInt 64 (Y : Int)).toNat : Int) = _
  have hle : X &&& Y ≤ Y := Nat.and_le_right
  rw [BitVec.toNat_and, ha, hb, IntKind.wrap_u64]
  omega
set_option maxRecDepth 100000 in
theorem e_next (p : Nat) (u : UInt64) (w : World) (ho_p : (RnR p u).p w) (hl_p : ∀ x_ ∈ (RnR p u).fp, x_ < w.heap.size) : Calls Try.prog 70 #[Value.pointer (some ⟨p, 0, none⟩)] w (fun e w' => e = .returned (Value.int .u64 (((Sort.xorNext u).toNat : Nat) : Int)) ∧ Upd (RnR p u) (RnR p (Sort.xorNext u)) w w') := by
 have _hu := ho_p; have _hv := hl_p; clear _hu _hv
 refine enter_E 33 Try.func70 rfl rfl (by kernel_rfl) (L := [(0, Value.pointer (some ⟨p, 0, none⟩))]) (by kernel_rfl) ?_
 intro ac hA
 have hW : Ws w (· ∈ (RnR p u).fp) [Cel p #[Value.int .u64 ((u.toNat : Nat) : Int)] 128] [] w := Ws.unpack (K := []) (objW ho_p hl_p)
 clear ho_p hl_p
 refine wp_seq ?_
 refine wp_region_lit ?_
 refine st_p (Value.int .u64 0) hA ?_; clear hA ac; intro ac hA
 refine wpList_nil ?_
 refine thenN ?_
 refine wp_seq ?_
 obtain ⟨X, hX⟩ : ∃ q_ : Nat, q_ = u.toNat := ⟨_, rfl⟩; have lX : X < 18446744073709551616 := (by rw [hX]; exact u.toNat_lt); rw [← hX] at hW
 refine wp_cut (fun ac_ wl_ => Fm 33 [] [(0, Value.pointer (some ⟨p, 0, none⟩)), (2, Value.int .u64 0)] ac_ ∧ Ws w (· ∈ (RnR p u).fp) [Cel p #[Value.int .u64 (bits .xor .u64 (((X : Nat) : Int) : Int) ((IntKind.u64.wrap ((((X : Nat) : Int) : Int) * 8192)) : Int))] 128] [] wl_) ?_ ?_
 · refine sr_region (m := 10) (C := Ws w (· ∈ (RnR p u).fp) [Cel p #[Value.int .u64 ((X : Nat) : Int)] 128] []) (fun i => [2, 5].contains i) (fun i => [2, 5].contains i) (fun i => [0, 1, 3, 4, 6, 7, 8].contains i) (by kernel_rfl) (by kernel_rfl) (by kernel_rfl) (by kernel_rfl) hW ?_; clear hW; intro w1 hW hfw1 hR; have hC : Ws w (· ∈ (RnR p u).fp) [Cel p #[Value.int .u64 ((X : Nat) : Int)] 128] [] w1 := hW.pick [0] (by decide) rfl
   refine sr_p 0 (Value.pointer (some ⟨p, 0, none⟩)) hR rfl hA ?_; clear hA ac; intro ac hA
   refine sr_p 1 (Value.pointer (some ⟨p, 0, none⟩)) hR rfl hA ?_; clear hA ac; intro ac hA
   refine sr_t 2 (Value.int .u64 ((X : Nat) : Int)) hR rfl hA hC (Rd.load (b := p) (i := 0) (by kernel_rfl) (fun _ hw => (hw).cel 0 rfl) (by kernel_rfl)) ?_; clear hA ac; intro ac hA
   refine sr_p 3 (Value.pointer (some ⟨p, 0, none⟩)) hR rfl hA ?_; clear hA ac; intro ac hA
   refine sr_p 4 (Value.pointer (some ⟨p, 0, none⟩)) hR rfl hA ?_; clear hA ac; intro ac hA
   refine sr_t 5 (Value.int .u64 ((X : Nat) : Int)) hR rfl hA hC (Rd.load (b := p) (i := 0) (by kernel_rfl) (fun _ hw => (hw).cel 0 rfl) (by kernel_rfl)) ?_; clear hA ac; intro ac hA
   refine sr_p 6 (Value.int .u64 (IntKind.u64.wrap ((((X : Nat) : Int) : Int) * 8192))) hR rfl hA ?_; clear hA ac; intro ac hA
   refine sr_p 7 (Value.int .u64 (bits .xor .u64 (((X : Nat) : Int) : Int) ((IntKind.u64.wrap ((((X : Nat) : Int) : Int) * 8192)) : Int))) hR rfl hA ?_; clear hA ac; intro ac hA
   refine sr_p 8 (Value.pointer (some ⟨p, 0, none⟩)) hR rfl hA ?_; clear hA ac; intro ac hA
   refine sr_one (i := 9) (by kernel_rfl) (sr_d rfl hA (Runs.store (v := Value.int .u64 (bits .xor .u64 (((X : Nat) : Int) : Int) ((IntKind.u64.wrap ((((X : Nat) : Int) : Int) * 8192)) : Int))) (b := p) (j := 0) (n := 1) (cs' := #[Value.int .u64 (bits .xor .u64 (((X : Nat) : Int) : Int) ((IntKind.u64.wrap ((((X : Nat) : Int) : Int) * 8192)) : Int))]) (H' := [Cel p #[Value.int .u64 (bits .xor .u64 (((X : Nat) : Int) : Int) ((IntKind.u64.wrap ((((X : Nat) : Int) : Int) * 8192)) : Int))] 128]) (by kernel_rfl) (by kernel_rfl) (by kernel_rfl) (by kernel_rfl) (by kernel_rfl) hW 0 (by rfl) (Nat.le_of_ble_eq_true (by kernel_rfl)) (by kernel_rfl) (by rfl) ?_)); clear hA ac hW; intro w2 hW ac hA
   refine ⟨⟨fun h => absurd h (by decide), fun h => absurd h (by decide)⟩, ?_⟩
   refine sr_done (by kernel_rfl) ?_ _
   exact ⟨hA.sub ⟨⟨by kernel_rfl, by kernel_rfl⟩, ⟨by kernel_rfl, by kernel_rfl⟩, trivial⟩, (hW.pick [0] (by decide) rfl).pickG [] rfl⟩
 clear hA ac hW; rintro ac w3 ⟨hA, hW⟩
 refine thenN ?_
 refine wp_seq ?_
 obtain ⟨A2, hA2⟩ : ∃ q_ : Nat, q_ = X ^^^ (X * 8192 % 18446744073709551616) := ⟨_, rfl⟩; have lA2 : A2 < 18446744073709551616 := by rw [hA2]; exact xlt lX (by omega)
 rw [xs1 lX, ← hA2] at hW
 refine wp_cut (fun ac_ wl_ => Fm 33 [] [(0, Value.pointer (some ⟨p, 0, none⟩)), (2, Value.int .u64 0)] ac_ ∧ Ws w (· ∈ (RnR p u).fp) [Cel p #[Value.int .u64 (bits .xor .u64 (((A2 : Nat) : Int) : Int) ((((A2 : Nat) : Int) : Int) / 128 : Int))] 128] [] wl_) ?_ ?_
 · refine sr_region (m := 10) (C := Ws w (· ∈ (RnR p u).fp) [Cel p #[Value.int .u64 ((A2 : Nat) : Int)] 128] []) (fun i => [2, 5].contains i) (fun i => [2, 5].contains i) (fun i => [0, 1, 3, 4, 6, 7, 8].contains i) (by kernel_rfl) (by kernel_rfl) (by kernel_rfl) (by kernel_rfl) hW ?_; clear hW; intro w4 hW hfw4 hR; have hC : Ws w (· ∈ (RnR p u).fp) [Cel p #[Value.int .u64 ((A2 : Nat) : Int)] 128] [] w4 := hW.pick [0] (by decide) rfl
   refine sr_p 0 (Value.pointer (some ⟨p, 0, none⟩)) hR rfl hA ?_; clear hA ac; intro ac hA
   refine sr_p 1 (Value.pointer (some ⟨p, 0, none⟩)) hR rfl hA ?_; clear hA ac; intro ac hA
   refine sr_t 2 (Value.int .u64 ((A2 : Nat) : Int)) hR rfl hA hC (Rd.load (b := p) (i := 0) (by kernel_rfl) (fun _ hw => (hw).cel 0 rfl) (by kernel_rfl)) ?_; clear hA ac; intro ac hA
   refine sr_p 3 (Value.pointer (some ⟨p, 0, none⟩)) hR rfl hA ?_; clear hA ac; intro ac hA
   refine sr_p 4 (Value.pointer (some ⟨p, 0, none⟩)) hR rfl hA ?_; clear hA ac; intro ac hA
   refine sr_t 5 (Value.int .u64 ((A2 : Nat) : Int)) hR rfl hA hC (Rd.load (b := p) (i := 0) (by kernel_rfl) (fun _ hw => (hw).cel 0 rfl) (by kernel_rfl)) ?_; clear hA ac; intro ac hA
   refine sr_q 6 (Value.int .u64 ((((A2 : Nat) : Int) : Int) / 128)) hR rfl hA (Rd.pureE (v0 := Value.int .u64 (Int.fdiv (((A2 : Nat) : Int) : Int) (2 ^ 7))) (fun _ => by kernel_rfl) (congrArg (Value.int .u64) (by rw [Int.fdiv_eq_ediv_of_nonneg _ (by decide)]; rfl))) ?_; clear hA ac; intro ac hA
   refine sr_p 7 (Value.int .u64 (bits .xor .u64 (((A2 : Nat) : Int) : Int) ((((A2 : Nat) : Int) : Int) / 128 : Int))) hR rfl hA ?_; clear hA ac; intro ac hA
   refine sr_p 8 (Value.pointer (some ⟨p, 0, none⟩)) hR rfl hA ?_; clear hA ac; intro ac hA
   refine sr_one (i := 9) (by kernel_rfl) (sr_d rfl hA (Runs.store (v := Value.int .u64 (bits .xor .u64 (((A2 : Nat) : Int) : Int) ((((A2 : Nat) : Int) : Int) / 128 : Int))) (b := p) (j := 0) (n := 1) (cs' := #[Value.int .u64 (bits .xor .u64 (((A2 : Nat) : Int) : Int) ((((A2 : Nat) : Int) : Int) / 128 : Int))]) (H' := [Cel p #[Value.int .u64 (bits .xor .u64 (((A2 : Nat) : Int) : Int) ((((A2 : Nat) : Int) : Int) / 128 : Int))] 128]) (by kernel_rfl) (by kernel_rfl) (by kernel_rfl) (by kernel_rfl) (by kernel_rfl) hW 0 (by rfl) (Nat.le_of_ble_eq_true (by kernel_rfl)) (by kernel_rfl) (by rfl) ?_)); clear hA ac hW; intro w5 hW ac hA
   refine ⟨⟨fun h => absurd h (by decide), fun h => absurd h (by decide)⟩, ?_⟩
   refine sr_done (by kernel_rfl) ?_ _
   exact ⟨hA.sub ⟨⟨by kernel_rfl, by kernel_rfl⟩, ⟨by kernel_rfl, by kernel_rfl⟩, trivial⟩, (hW.pick [0] (by decide) rfl).pickG [] rfl⟩
 clear hA ac hW; rintro ac w6 ⟨hA, hW⟩
 refine thenN ?_
 refine wp_seq ?_
 obtain ⟨B, hB⟩ : ∃ q_ : Nat, q_ = A2 ^^^ (A2 / 128) := ⟨_, rfl⟩; have lB : B < 18446744073709551616 := by rw [hB]; exact xlt lA2 (by omega)
 rw [xs2 lA2, ← hB] at hW
 refine wp_cut (fun ac_ wl_ => Fm 33 [] [(0, Value.pointer (some ⟨p, 0, none⟩)), (2, Value.int .u64 0)] ac_ ∧ Ws w (· ∈ (RnR p u).fp) [Cel p #[Value.int .u64 (bits .xor .u64 (((B : Nat) : Int) : Int) ((IntKind.u64.wrap ((((B : Nat) : Int) : Int) * 131072)) : Int))] 128] [] wl_) ?_ ?_
 · refine sr_region (m := 10) (C := Ws w (· ∈ (RnR p u).fp) [Cel p #[Value.int .u64 ((B : Nat) : Int)] 128] []) (fun i => [2, 5].contains i) (fun i => [2, 5].contains i) (fun i => [0, 1, 3, 4, 6, 7, 8].contains i) (by kernel_rfl) (by kernel_rfl) (by kernel_rfl) (by kernel_rfl) hW ?_; clear hW; intro w7 hW hfw7 hR; have hC : Ws w (· ∈ (RnR p u).fp) [Cel p #[Value.int .u64 ((B : Nat) : Int)] 128] [] w7 := hW.pick [0] (by decide) rfl
   refine sr_p 0 (Value.pointer (some ⟨p, 0, none⟩)) hR rfl hA ?_; clear hA ac; intro ac hA
   refine sr_p 1 (Value.pointer (some ⟨p, 0, none⟩)) hR rfl hA ?_; clear hA ac; intro ac hA
   refine sr_t 2 (Value.int .u64 ((B : Nat) : Int)) hR rfl hA hC (Rd.load (b := p) (i := 0) (by kernel_rfl) (fun _ hw => (hw).cel 0 rfl) (by kernel_rfl)) ?_; clear hA ac; intro ac hA
   refine sr_p 3 (Value.pointer (some ⟨p, 0, none⟩)) hR rfl hA ?_; clear hA ac; intro ac hA
   refine sr_p 4 (Value.pointer (some ⟨p, 0, none⟩)) hR rfl hA ?_; clear hA ac; intro ac hA
   refine sr_t 5 (Value.int .u64 ((B : Nat) : Int)) hR rfl hA hC (Rd.load (b := p) (i := 0) (by kernel_rfl) (fun _ hw => (hw).cel 0 rfl) (by kernel_rfl)) ?_; clear hA ac; intro ac hA
   refine sr_p 6 (Value.int .u64 (IntKind.u64.wrap ((((B : Nat) : Int) : Int) * 131072))) hR rfl hA ?_; clear hA ac; intro ac hA
   refine sr_p 7 (Value.int .u64 (bits .xor .u64 (((B : Nat) : Int) : Int) ((IntKind.u64.wrap ((((B : Nat) : Int) : Int) * 131072)) : Int))) hR rfl hA ?_; clear hA ac; intro ac hA
   refine sr_p 8 (Value.pointer (some ⟨p, 0, none⟩)) hR rfl hA ?_; clear hA ac; intro ac hA
   refine sr_one (i := 9) (by kernel_rfl) (sr_d rfl hA (Runs.store (v := Value.int .u64 (bits .xor .u64 (((B : Nat) : Int) : Int) ((IntKind.u64.wrap ((((B : Nat) : Int) : Int) * 131072)) : Int))) (b := p) (j := 0) (n := 1) (cs' := #[Value.int .u64 (bits .xor .u64 (((B : Nat) : Int) : Int) ((IntKind.u64.wrap ((((B : Nat) : Int) : Int) * 131072)) : Int))]) (H' := [Cel p #[Value.int .u64 (bits .xor .u64 (((B : Nat) : Int) : Int) ((IntKind.u64.wrap ((((B : Nat) : Int) : Int) * 131072)) : Int))] 128]) (by kernel_rfl) (by kernel_rfl) (by kernel_rfl) (by kernel_rfl) (by kernel_rfl) hW 0 (by rfl) (Nat.le_of_ble_eq_true (by kernel_rfl)) (by kernel_rfl) (by rfl) ?_)); clear hA ac hW; intro w8 hW ac hA
   refine ⟨⟨fun h => absurd h (by decide), fun h => absurd h (by decide)⟩, ?_⟩
   refine sr_done (by kernel_rfl) ?_ _
   exact ⟨hA.sub ⟨⟨by kernel_rfl, by kernel_rfl⟩, ⟨by kernel_rfl, by kernel_rfl⟩, trivial⟩, (hW.pick [0] (by decide) rfl).pickG [] rfl⟩
 clear hA ac hW; rintro ac w9 ⟨hA, hW⟩
 refine thenN ?_
 refine wp_seq ?_
 obtain ⟨C, hC⟩ : ∃ q_ : Nat, q_ = B ^^^ (B * 131072 % 18446744073709551616) := ⟨_, rfl⟩; have lC : C < 18446744073709551616 := by rw [hC]; exact xlt lB (by omega)
 rw [xs3 lB, ← hC] at hW
 refine wp_region_lit ?_
 refine st_p (Value.pointer (some ⟨p, 0, none⟩)) hA ?_; clear hA ac; intro ac hA
 refine st_p (Value.pointer (some ⟨p, 0, none⟩)) hA ?_; clear hA ac; intro ac hA
 refine st_q (Value.int .u64 ((C : Nat) : Int)) hA hW.cls (Rd.load (b := p) (i := 0) (by kernel_rfl) (fun _ hw => (hw.1).cel 0 rfl) (by kernel_rfl)) ?_; clear hA ac; intro ac hA
 refine st_p (Value.int .u64 ((C : Nat) : Int)) hA ?_; clear hA ac; intro ac hA
 refine wpList_nil ?_
 refine thenN ?_
 refine wp_ret ?_
 refine ret1 (v := Value.int .u64 ((C : Nat) : Int)) (by rfl) hA (Got.tmp hA (by kernel_rfl) (by kernel_rfl)) ?_
 clear hA
 have hv_ : C = (Sort.xorNext u).toNat := by rw [Sort.xorNext_toNat, ← hX]; unfold Sort.xorNextN; simp only []; rw [← hA2, ← hB, ← hC]
 rw [hv_] at hW
 refine ⟨retv (by rw [hv_]), ?_⟩
 exact (Ws.pack (K := []) (show Ws w (· ∈ (RnR p u).fp) ([Cel p #[Value.int .u64 (((Sort.xorNext u).toNat : Nat) : Int)] 128] ++ []) [] _ from hW.pick [0] (by decide) rfl)).updDone 0 rfl

end Go.Proofs.Ytcgcippmbeileaa.L
