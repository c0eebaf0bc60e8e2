/- Contracts, walked by program over the engine's laws. -/
import Derived.Test.YtcokpdlmahlpnaaProg
import Derived.Test.YtcokpdlmahlpnaaT21
namespace Go.Proofs.Ytcokpdlmahlpnaa.L
open Go.RowKit

set_option maxRecDepth 100000 in
theorem e_mdig (m : Nat) (b : Nat) (V : VT6) (w : World) (ho_p : (MemR m b V).p w) (hl_p : ∀ x_ ∈ (MemR m b V).fp, x_ < w.heap.size) (hl : V.length ≤ 100) (hh : ∀ e ∈ V, 0 ≤ e.1 ∧ e.1 ≤ 1048575) (hrw : ∀ ks : List Int, ks.Perm (keys (vals V)) → (ks.Pairwise fun x y => x ≤ y) → ∀ x ∈ cellsOf (vals V) 0 ks, (0 ≤ x.addr ∧ x.addr ≤ 4294967295) ∧ (0 ≤ x.word ∧ x.word ≤ 4294967295)) : Calls Try.prog 13 #[Value.pointer (some ⟨m, 0, none⟩)] w (fun e w' => ∃ ks : List Int, ∃ O_ : List Cell6, e = .returned (Value.int .u64 (sumM (bytes6 O_))) ∧ (ks.Perm (keys (vals V))) ∧ (ks.Pairwise fun x y => x ≤ y) ∧ (O_ = cellsOf (vals V) 0 ks) ∧ Fr No w w') := by
 have _hu := ho_p; have _hv := hl_p; clear _hu _hv
 have _hu := hl; clear _hu
 have _hu := hh; clear _hu
 have _hu := hrw; clear _hu
 refine enter_E 30 Try.func13 rfl rfl (by kernel_rfl) (L := [(0, Value.pointer (some ⟨m, 0, none⟩))]) (by kernel_rfl) ?_
 intro ac hA
 have hW := Ws.start w No
 have hW := hW.addG (MemR m b V) ho_p hl_p (by simp)
 clear ho_p hl_p
 refine wp_seq ?_
 refine wp_region_lit ?_
 refine st_rd (v := Value.int .u64 0) hA (by kernel_rfl) (by kernel_rfl) (by kernel_rfl) hW.cls (Rd.pure fun _ => by kernel_rfl) ?_; clear hA ac; intro ac hA
 refine wpList_nil ?_
 refine thenN ?_
 refine wp_seq ?_
 refine wp_region_lit ?_
 refine st hA (by kernel_rfl) (by kernel_rfl) (by kernel_rfl) (Runs.call (fun _ => by kernel_rfl) (e_dnew w) ?_)
 rintro _ w1 ⟨n2, n3, rfl, hw1_hT, hu_⟩; refine ⟨_, rfl, ?_⟩; replace hW := hW.made hu_; clear hA ac; intro ac hA
 refine st_rd (v := Value.pointer (some ⟨n2, 0, none⟩)) hA (by kernel_rfl) (by kernel_rfl) (by kernel_rfl) hW.cls (Rd.pure fun _ => by kernel_rfl) ?_; clear hA ac; intro ac hA
 refine wpList_nil ?_
 refine thenN ?_
 refine wp_seq ?_
 refine wp_region_lit ?_
 refine st_rd (v := Value.pointer (some ⟨n2, 0, none⟩)) hA (by kernel_rfl) (by kernel_rfl) (by kernel_rfl) hW.cls (Rd.pure fun _ => by kernel_rfl) ?_; clear hA ac; intro ac hA
 refine st_rd (v := Value.func (.func 32) #[Value.pointer (some ⟨n2, 0, none⟩)] #[]) hA (by kernel_rfl) (by kernel_rfl) (by kernel_rfl) hW.cls (Rd.pure fun _ => by kernel_rfl) ?_; clear hA ac; intro ac hA
 refine st_rd (v := Value.func (.func 32) #[Value.pointer (some ⟨n2, 0, none⟩)] #[]) hA (by kernel_rfl) (by kernel_rfl) (by kernel_rfl) hW.cls (Rd.pure fun _ => by kernel_rfl) ?_; clear hA ac; intro ac hA
 refine wpList_nil ?_
 refine thenN ?_
 refine wp_seq ?_
 refine wp_seq ?_
 refine wp_region_lit ?_
 refine st_rd (v := Value.pointer (some ⟨m, 0, none⟩)) hA (by kernel_rfl) (by kernel_rfl) (by kernel_rfl) hW.cls (Rd.pure fun _ => by kernel_rfl) ?_; clear hA ac; intro ac hA
 refine st hA (by kernel_rfl) (by kernel_rfl) (by kernel_rfl) (Runs.call (fun _ => by kernel_rfl) (e_cells m b V (0) w1 ((hW).getG 0 rfl) ((hW).glt _ (List.mem_of_getElem? (i := 0) rfl)) (by first | omega | assumption | (simp only [fix4_len]; omega)) (by first | omega | assumption | (simp only [fix4_len]; omega)) (by first | omega | assumption | (simp only [fix4_len]; omega))) ?_)
 rintro _ w4 ⟨g5, g6, Ao7, co8, rfl, hw4_hp, hw4_hs, hw4_hO, hcco8, hu_⟩; refine ⟨_, rfl, ?_⟩; replace hW := hW.made hu_; clear hA ac; intro ac hA
 refine st_rd (v := Value.int .i64 (((g6).length : Nat) : Int)) hA (by kernel_rfl) (by kernel_rfl) (by kernel_rfl) hW.cls (Rd.pure fun _ => by kernel_rfl) ?_; clear hA ac; intro ac hA
 refine st_rd (v := Value.int .i64 0) hA (by kernel_rfl) (by kernel_rfl) (by kernel_rfl) hW.cls (Rd.pure fun _ => by kernel_rfl) ?_; clear hA ac; intro ac hA
 refine wpList_nil ?_
 refine thenN ?_
 refine wp_block ?_
 have hwf_ : ∀ x ∈ g6, (0 ≤ x.addr ∧ x.addr ≤ 4294967295) ∧ (0 ≤ x.word ∧ x.word ≤ 4294967295) := by rw [hw4_hO]; exact hrw _ hw4_hp hw4_hs
 have hkl_ : g6.length ≤ 500000 := by rw [hw4_hO]; have h1_ := cellsOf_len (vals V) 0 g5; have h2_ := hw4_hp.length_eq; simp only [keys, List.length_map] at h2_; rw [vals_len] at h2_; omega
 refine wp_loop_m (fun m_ ac_ wl_ => ∃ k : Nat, ∃ Sm : Int, ∃ M : Int, m_ = g6.length - k ∧ (k ≤ g6.length) ∧ (Sm = (bytes6 (g6.take k)).foldl byteStep 18446744073709551615) ∧ (M = 8 * (k : Int)) ∧ Fm 30 [] [(3, Value.pointer (some ⟨n2, 0, none⟩)), (4, Value.func (.func 32) #[Value.pointer (some ⟨n2, 0, none⟩)] #[]), (11, Value.slice Ao7 (g6).length co8), (12, Value.int .i64 (((g6).length : Nat) : Int)), (13, Value.int .i64 ((k : Nat) : Int))] ac_ ∧ Ws w No [rowR 30 2 enCell6 (Value.slice Ao7 (g6).length co8) g6, DigR n2 n3 Sm M] [MemR m b V] wl_) _ ⟨0, 18446744073709551615, 0, rfl, by omega, by rfl, by omega, hA.sub ⟨⟨by kernel_rfl, by kernel_rfl⟩, ⟨by kernel_rfl, by kernel_rfl⟩, ⟨by kernel_rfl, by kernel_rfl⟩, ⟨by kernel_rfl, by kernel_rfl⟩, ⟨by kernel_rfl, by kernel_rfl⟩, trivial⟩, (hW.pick [0, 1] (by decide) rfl).pickG [0] rfl⟩ ?_
 clear hA ac hW; rintro m_ ac w10 ⟨k, Sm, M, rfl, hk, hS, hM, hA, hW⟩
 have hSr := fold_range (l := bytes6 (g6.take k)) (s := 18446744073709551615) (by omega) bytes6_rng; rw [← hS] at hSr
 refine wp_seq ?_
 refine wp_region_lit ?_
 refine st_rd (v := Value.bool (decide ((((k : Nat) : Int) : Int) < ((((g6).length : Nat) : Int) : Int)))) hA (by kernel_rfl) (by kernel_rfl) (by kernel_rfl) hW.cls (Rd.pure fun _ => by kernel_rfl) ?_; clear hA ac; intro ac hA
 refine wpList_nil ?_
 refine thenN ?_
 refine wp_seq ?_
 refine wp_cond_split (t := decide ((((k : Nat) : Int) : Int) < ((((g6).length : Nat) : Int) : Int))) (hA.eval (by kernel_rfl)) (fun h11 => ?_) (fun h11 => ?_)
 · skip
   have h11 := of_decide_eq_true h11
   first
   | (exfalso; clear hA hW; omega)
   | (
     refine wp_skip ?_
     refine thenN ?_
     refine wp_seq ?_
     refine wp_block ?_
     refine wp_seq ?_
     obtain ⟨y12, hy12⟩ : ∃ y, g6[k]? = some y := ⟨_, List.getElem?_eq_getElem (by omega)⟩
     obtain ⟨b13, o14, rfl, hbb13⟩ := row_some (rowR_at ((hW).get 0 rfl) elt_Cell6.len) hy12
     have hy_ := hwf_ _ (List.mem_of_getElem? hy12)
     refine wp_region_lit ?_
     refine st_rd (v := Value.pointer (some ⟨b13, o14 + k * 2, none⟩)) hA (by kernel_rfl) (by kernel_rfl) (by kernel_rfl) hW.cls (Rd.indexAddr (e := 30) (sz := 2) (b := b13) (off := o14) (n := (g6).length) (c := co8) (k := k) (by kernel_rfl) (by kernel_rfl) (by first | omega | (simp; done) | (simp; omega)) (fun _ => by kernel_rfl) (fun _ => by kernel_rfl)) ?_; clear hA ac; intro ac hA
     refine st_rd (v := Value.agg #[Value.int .u32 y12.addr, Value.int .u32 y12.word]) hA (by kernel_rfl) (by kernel_rfl) (by kernel_rfl) hW.cls (Rd.loadRow (b := b13) (i := o14 + k * 2) (xs := [Value.int .u32 y12.addr, Value.int .u32 y12.word]) (by kernel_rfl) (fun _ hw => row_ld (rowR_at ((hw.1).get 0 rfl) elt_Cell6.len) hy12 (Fr.refl No _) (fun h => h) 0 2 (by kernel_rfl)) (by kernel_rfl)) ?_; clear hA ac; intro ac hA
     refine st hA (by kernel_rfl) (by kernel_rfl) (by kernel_rfl) (Runs.cells (fun b => Value.pointer (some ⟨b, 0, none⟩)) #[Value.int .u32 0, Value.int .u32 0] 30 (fun _ => by kernel_rfl) hW ?_); clear hA ac hW; intro b15 w16 hW hb15 hfw16 ac hA
     refine st hA (by kernel_rfl) (by kernel_rfl) (by kernel_rfl) (Runs.store (v := Value.agg #[Value.int .u32 y12.addr, Value.int .u32 y12.word]) (b := b15) (j := 0) (n := 2) (cs' := #[Value.int .u32 y12.addr, Value.int .u32 y12.word]) (H' := [Cel b15 #[Value.int .u32 y12.addr, Value.int .u32 y12.word] 30, rowR 30 2 enCell6 (Value.slice (some ⟨b13, o14, none⟩) (g6).length co8) g6, DigR n2 n3 Sm M]) (by kernel_rfl) (by kernel_rfl) (by kernel_rfl) (by kernel_rfl) (by kernel_rfl) hW 0 (by rfl) (Nat.le_of_ble_eq_true (by kernel_rfl)) (by kernel_rfl) (by rfl) ?_); clear hA ac hW; intro w17 hW ac hA
     refine wpList_nil ?_
     refine thenN ?_
     refine wp_seq ?_
     refine wp_region_lit ?_
     refine st_rd (v := Value.func (.func 32) #[Value.pointer (some ⟨n2, 0, none⟩)] #[]) hA (by kernel_rfl) (by kernel_rfl) (by kernel_rfl) hW.cls (Rd.pure fun _ => by kernel_rfl) ?_; clear hA ac; intro ac hA
     refine st_rd (v := Value.pointer (some ⟨b15, 0, none⟩)) hA (by kernel_rfl) (by kernel_rfl) (by kernel_rfl) hW.cls (Rd.pure fun _ => by kernel_rfl) ?_; clear hA ac; intro ac hA
     refine st_rd (v := Value.int .u32 y12.addr) hA (by kernel_rfl) (by kernel_rfl) (by kernel_rfl) hW.cls (Rd.load (b := b15) (i := 0) (by kernel_rfl) (fun _ hw => (hw.1).cel 0 rfl) (by kernel_rfl)) ?_; clear hA ac; intro ac hA
     refine st_rd (v := Value.int .u64 y12.addr) hA (by kernel_rfl) (by kernel_rfl) (by kernel_rfl) hW.cls (Rd.pureE (v0 := Value.int .u64 (IntKind.u64.wrap (y12.addr))) (fun _ => by kernel_rfl) (congrArg (Value.int .u64) (w_u64 (x := y12.addr) (by omega) (by omega)))) ?_; clear hA ac; intro ac hA
     refine st hA (by kernel_rfl) (by kernel_rfl) (by kernel_rfl) (Runs.call (fun _ => by kernel_rfl) (e_dnum4 n2 n3 Sm M (y12.addr) w17 ((hW).get 2 rfl) ((hW).lt _ (List.mem_of_getElem? (i := 2) rfl)) (by first | omega | assumption | (simp only [fix4_len]; omega)) (by first | omega | assumption | (simp only [fix4_len]; omega)) (by first | omega | assumption | (simp only [fix4_len]; omega)) (by first | omega | assumption | (simp only [fix4_len]; omega))) ?_)
     rintro _ w18 ⟨rfl, hu_⟩; refine ⟨_, rfl, ?_⟩; replace hW := hW.upd (H' := [Cel b15 #[Value.int .u32 y12.addr, Value.int .u32 y12.word] 30, rowR 30 2 enCell6 (Value.slice (some ⟨b13, o14, none⟩) (g6).length co8) g6, DigR n2 n3 ((fix4 (y12.addr)).foldl byteStep Sm) (M + ((fix4 (y12.addr)).length : Int))]) 2 rfl hu_ rfl; clear hA ac; intro ac hA
     refine wpList_nil ?_
     refine thenN ?_
     have hSr2 := fold_range (l := fix4 y12.addr) hSr fix4_rng
     refine wp_region_lit ?_
     refine st_rd (v := Value.func (.func 32) #[Value.pointer (some ⟨n2, 0, none⟩)] #[]) hA (by kernel_rfl) (by kernel_rfl) (by kernel_rfl) hW.cls (Rd.pure fun _ => by kernel_rfl) ?_; clear hA ac; intro ac hA
     refine st_rd (v := Value.pointer (some ⟨b15, 1, none⟩)) hA (by kernel_rfl) (by kernel_rfl) (by kernel_rfl) hW.cls (Rd.pure fun _ => by kernel_rfl) ?_; clear hA ac; intro ac hA
     refine st_rd (v := Value.int .u32 y12.word) hA (by kernel_rfl) (by kernel_rfl) (by kernel_rfl) hW.cls (Rd.load (b := b15) (i := 1) (by kernel_rfl) (fun _ hw => (hw.1).cel 0 rfl) (by kernel_rfl)) ?_; clear hA ac; intro ac hA
     refine st_rd (v := Value.int .u64 y12.word) hA (by kernel_rfl) (by kernel_rfl) (by kernel_rfl) hW.cls (Rd.pureE (v0 := Value.int .u64 (IntKind.u64.wrap (y12.word))) (fun _ => by kernel_rfl) (congrArg (Value.int .u64) (w_u64 (x := y12.word) (by omega) (by omega)))) ?_; clear hA ac; intro ac hA
     refine st hA (by kernel_rfl) (by kernel_rfl) (by kernel_rfl) (Runs.call (fun _ => by kernel_rfl) (e_dnum4 n2 n3 ((fix4 (y12.addr)).foldl byteStep Sm) (M + ((fix4 (y12.addr)).length : Int)) (y12.word) w18 ((hW).get 2 rfl) ((hW).lt _ (List.mem_of_getElem? (i := 2) rfl)) (by first | omega | assumption | (simp only [fix4_len]; omega)) (by first | omega | assumption | (simp only [fix4_len]; omega)) (by first | omega | assumption | (simp only [fix4_len]; omega)) (by first | omega | assumption | (simp only [fix4_len]; omega))) ?_)
     rintro _ w19 ⟨rfl, hu_⟩; refine ⟨_, rfl, ?_⟩; replace hW := hW.upd (H' := [Cel b15 #[Value.int .u32 y12.addr, Value.int .u32 y12.word] 30, rowR 30 2 enCell6 (Value.slice (some ⟨b13, o14, none⟩) (g6).length co8) g6, DigR n2 n3 ((fix4 (y12.word)).foldl byteStep ((fix4 (y12.addr)).foldl byteStep Sm)) ((M + ((fix4 (y12.addr)).length : Int)) + ((fix4 (y12.word)).length : Int))]) 2 rfl hu_ rfl; clear hA ac; intro ac hA
     refine wpList_nil ?_
     refine blkN ?_
     refine thenN ?_
     refine wp_region_lit ?_
     refine st_rd (v := Value.int .i64 ((k + 1 : Nat) : Int)) hA (by kernel_rfl) (by kernel_rfl) (by kernel_rfl) hW.cls (Rd.pureE (v0 := Value.int .i64 (IntKind.i64.wrap ((((k : Nat) : Int) : Int) + 1))) (fun _ => by kernel_rfl) (congrArg (Value.int .i64) ((w_i64 (x := (((k : Nat) : Int) : Int) + 1) (by omega) (by omega)).trans (by omega)))) ?_; clear hA ac; intro ac hA
     refine st_rd (v := Value.int .i64 ((k + 1 : Nat) : Int)) hA (by kernel_rfl) (by kernel_rfl) (by kernel_rfl) hW.cls (Rd.pure fun _ => by kernel_rfl) ?_; clear hA ac; intro ac hA
     refine wpList_nil ?_
     refine thenN ?_
     exact ⟨g6.length - (k + 1), by omega, k + 1, ((fix4 (y12.word)).foldl byteStep ((fix4 (y12.addr)).foldl byteStep Sm)), (M + ((fix4 (y12.addr)).length : Int)) + ((fix4 (y12.word)).length : Int), rfl, by omega, by rw [bytes6_snoc hy12, List.foldl_append, List.foldl_append, ← hS], by simp only [fix4_len]; omega, hA.sub ⟨⟨by kernel_rfl, by kernel_rfl⟩, ⟨by kernel_rfl, by kernel_rfl⟩, ⟨by kernel_rfl, by kernel_rfl⟩, ⟨by kernel_rfl, by kernel_rfl⟩, ⟨by kernel_rfl, by kernel_rfl⟩, trivial⟩, (hW.pick [1, 2] (by decide) rfl).pickG [0] rfl⟩)
 · skip
   have h11 := of_decide_eq_false h11
   first
   | (exfalso; clear hA hW; omega)
   | (
     refine wp_exit ?_
     refine thenX ?_
     refine thenX ?_
     refine blkX ?_
     refine thenN ?_
     refine wp_seq ?_
     refine wp_region_lit ?_
     refine st_rd (v := Value.pointer (some ⟨n2, 0, none⟩)) hA (by kernel_rfl) (by kernel_rfl) (by kernel_rfl) hW.cls (Rd.pure fun _ => by kernel_rfl) ?_; clear hA ac; intro ac hA
     refine st hA (by kernel_rfl) (by kernel_rfl) (by kernel_rfl) (Runs.callN (v := Value.int .u64 (bits .xor .u64 18446744073709551615 (Sm : Int))) (fun _ => by kernel_rfl) hW (e_dsum n2 n3 Sm M w10 ((hW).get 1 rfl) ((hW).lt _ (List.mem_of_getElem? (i := 1) rfl))) ?_); clear hA ac hW; intro w20 hW hfw20 ac hA
     refine st_rd (v := Value.int .u64 (bits .xor .u64 18446744073709551615 (Sm : Int))) hA (by kernel_rfl) (by kernel_rfl) (by kernel_rfl) hW.cls (Rd.pure fun _ => by kernel_rfl) ?_; clear hA ac; intro ac hA
     refine wpList_nil ?_
     refine thenN ?_
     refine wp_ret ?_
     refine ret1 (v := Value.int .u64 (bits .xor .u64 18446744073709551615 (Sm : Int))) (by rfl) hA (Got.tmp hA (by kernel_rfl) (by kernel_rfl)) ?_
     clear hA
     rw [List.take_of_length_le (by omega)] at hS
     exact ⟨g5, g6, retv (congrArg (Value.int .u64) (by unfold sumM; rw [← hS])), hw4_hp, hw4_hs, hw4_hO, hW.fr⟩)

set_option maxRecDepth 100000 in
theorem e_rdig (A_L : Option Addr) (c_L : Nat) (L : List Cell6) (w : World) (hr_L : RowAt w A_L 2 enCell6 L) (hc_L : L.length ≤ c_L) (hl : L.length ≤ 1000) (hL : ∀ x ∈ L, (0 ≤ x.addr ∧ x.addr ≤ 4294967295) ∧ (0 ≤ x.word ∧ x.word ≤ 4294967295)) : Calls Try.prog 21 #[Value.agg #[Value.slice A_L L.length c_L]] w (fun e w' => e = .returned (Value.int .u64 (sumM (bytes6 L))) ∧ Fr No w w') := by
 have _hu := hc_L; have _hv := hr_L; clear _hu _hv
 have _hu := hl; clear _hu
 have _hu := hL; clear _hu
 refine enter_E 45 Try.func21 rfl rfl (by kernel_rfl) (L := [(0, Value.agg #[Value.slice A_L L.length c_L])]) (by kernel_rfl) ?_
 intro ac hA
 have hW := Ws.start w No
 have hW := hW.arg hr_L
 refine wp_seq ?_
 refine wp_region_lit ?_
 refine st hA (by kernel_rfl) (by kernel_rfl) (by kernel_rfl) (Runs.cells (fun b => Value.pointer (some ⟨b, 0, none⟩)) #[Value.slice A_L L.length c_L] 38 (fun _ => by kernel_rfl) hW ?_); clear hA ac hW; intro b1 w2 hW hb1 hfw2 ac hA
 refine st_rd (v := Value.int .u64 0) hA (by kernel_rfl) (by kernel_rfl) (by kernel_rfl) hW.cls (Rd.pure fun _ => by kernel_rfl) ?_; clear hA ac; intro ac hA
 refine wpList_nil ?_
 refine thenN ?_
 refine wp_seq ?_
 refine wp_region_lit ?_
 refine st_rd (v := Value.slice none 0 0) hA (by kernel_rfl) (by kernel_rfl) (by kernel_rfl) hW.cls (Rd.pure fun _ => by kernel_rfl) ?_; clear hA ac; intro ac hA
 refine wpList_nil ?_
 refine thenN ?_
 refine wp_seq ?_
 refine wp_seq ?_
 refine wp_region_lit ?_
 refine st_rd (v := Value.int .i64 0) hA (by kernel_rfl) (by kernel_rfl) (by kernel_rfl) hW.cls (Rd.pure fun _ => by kernel_rfl) ?_; clear hA ac; intro ac hA
 refine wpList_nil ?_
 refine thenN ?_
 refine wp_block ?_
 have hW := hW.addNil 5 1 enB6
 refine wp_loop_m (fun m_ ac_ wl_ => ∃ k : Nat, ∃ O : List Int, ∃ A : Option Addr, ∃ c : Nat, m_ = L.length - k ∧ (k ≤ L.length) ∧ (O = bytes6 (L.take k)) ∧ (O.length ≤ c) ∧ Fm 45 [] [(1, Value.pointer (some ⟨b1, 0, none⟩)), (3, Value.slice A O.length c), (4, Value.int .i64 ((k : Nat) : Int))] ac_ ∧ Ws w No [rowR 5 1 enB6 (Value.slice A O.length c) O, Cel b1 #[Value.slice A_L L.length c_L] 38] [roR A_L 2 enCell6 L] wl_) _ ⟨0, [], none, 0, rfl, by omega, by rfl, by simp, hA.sub ⟨⟨by kernel_rfl, by kernel_rfl⟩, ⟨by kernel_rfl, by kernel_rfl⟩, ⟨by kernel_rfl, by kernel_rfl⟩, trivial⟩, (hW.pick [0, 1] (by decide) rfl).pickG [0] rfl⟩ ?_
 clear hA ac hW; rintro m_ ac w3 ⟨k, O, A, c, rfl, hk, hO, hcO, hA, hW⟩
 have hOl : O.length = 8 * (L.take k).length := by rw [hO]; exact bytes6_len _
 rw [List.length_take, Nat.min_eq_left hk] at hOl
 refine wp_seq ?_
 refine wp_seq ?_
 refine wp_region_lit ?_
 refine st_rd (v := Value.int .i64 ((k : Nat) : Int)) hA (by kernel_rfl) (by kernel_rfl) (by kernel_rfl) hW.cls (Rd.pure fun _ => by kernel_rfl) ?_; clear hA ac; intro ac hA
 refine st_rd (v := Value.pointer (some ⟨b1, 0, none⟩)) hA (by kernel_rfl) (by kernel_rfl) (by kernel_rfl) hW.cls (Rd.pure fun _ => by kernel_rfl) ?_; clear hA ac; intro ac hA
 refine st_rd (v := Value.slice A_L L.length c_L) hA (by kernel_rfl) (by kernel_rfl) (by kernel_rfl) hW.cls (Rd.load (b := b1) (i := 0) (by kernel_rfl) (fun _ hw => (hw.1).cel 1 rfl) (by kernel_rfl)) ?_; clear hA ac; intro ac hA
 refine st_rd (v := Value.int .i64 ((L.length : Nat) : Int)) hA (by kernel_rfl) (by kernel_rfl) (by kernel_rfl) hW.cls (Rd.pure fun _ => by kernel_rfl) ?_; clear hA ac; intro ac hA
 refine st_rd (v := Value.bool (decide ((((k : Nat) : Int) : Int) < (((L.length : Nat) : Int) : Int)))) hA (by kernel_rfl) (by kernel_rfl) (by kernel_rfl) hW.cls (Rd.pure fun _ => by kernel_rfl) ?_; clear hA ac; intro ac hA
 refine wpList_nil ?_
 refine thenN ?_
 refine wp_cond_split (t := decide ((((k : Nat) : Int) : Int) < (((L.length : Nat) : Int) : Int))) (hA.eval (by kernel_rfl)) (fun h4 => ?_) (fun h4 => ?_)
 · skip
   have h4 := of_decide_eq_true h4
   first
   | (exfalso; clear hA hW; omega)
   | (
     refine wp_skip ?_
     refine thenN ?_
     refine wp_seq ?_
     refine wp_block ?_
     refine wp_seq ?_
     obtain ⟨y_, hy_⟩ : ∃ y, L[k]? = some y := ⟨_, List.getElem?_eq_getElem (by omega)⟩; have hya_ := hL _ (List.mem_of_getElem? hy_)
     refine wp_region_lit ?_
     refine st_rd (v := Value.pointer (some ⟨b1, 0, none⟩)) hA (by kernel_rfl) (by kernel_rfl) (by kernel_rfl) hW.cls (Rd.pure fun _ => by kernel_rfl) ?_; clear hA ac; intro ac hA
     refine st_rd (v := Value.slice A_L L.length c_L) hA (by kernel_rfl) (by kernel_rfl) (by kernel_rfl) hW.cls (Rd.load (b := b1) (i := 0) (by kernel_rfl) (fun _ hw => (hw.1).cel 1 rfl) (by kernel_rfl)) ?_; clear hA ac; intro ac hA
     refine st_rd (v := Value.int .i64 ((k : Nat) : Int)) hA (by kernel_rfl) (by kernel_rfl) (by kernel_rfl) hW.cls (Rd.pure fun _ => by kernel_rfl) ?_; clear hA ac; intro ac hA
     obtain ⟨b5, o6, rfl, hbb5⟩ := row_some ((hW).getG 0 rfl) hy_
     refine st_rd (v := Value.pointer (some ⟨b5, o6 + k * 2, none⟩)) hA (by kernel_rfl) (by kernel_rfl) (by kernel_rfl) hW.cls (Rd.indexAddr (e := 30) (sz := 2) (b := b5) (off := o6) (n := L.length) (c := c_L) (k := k) (by kernel_rfl) (by kernel_rfl) (by first | omega | (simp; done) | (simp; omega)) (fun _ => by kernel_rfl) (fun _ => by kernel_rfl)) ?_; clear hA ac; intro ac hA
     refine st_rd (v := Value.pointer (some ⟨b5, o6 + k * 2, none⟩)) hA (by kernel_rfl) (by kernel_rfl) (by kernel_rfl) hW.cls (Rd.pure fun _ => by kernel_rfl) ?_; clear hA ac; intro ac hA
     refine st_rd (v := Value.int .u32 y_.addr) hA (by kernel_rfl) (by kernel_rfl) (by kernel_rfl) hW.cls (Rd.loadRow (b := b5) (i := o6 + k * 2) (xs := [Value.int .u32 y_.addr]) (by kernel_rfl) (fun _ hw => row_ld ((hw.1).getG 0 rfl) hy_ (Fr.refl No _) (fun h => h) 0 1 (by kernel_rfl)) (by kernel_rfl)) ?_; clear hA ac; intro ac hA
     refine st_rd (v := Value.int .u64 y_.addr) hA (by kernel_rfl) (by kernel_rfl) (by kernel_rfl) hW.cls (Rd.pureE (v0 := Value.int .u64 (IntKind.u64.wrap (y_.addr))) (fun _ => by kernel_rfl) (congrArg (Value.int .u64) (w_u64 (x := y_.addr) (by omega) (by omega)))) ?_; clear hA ac; intro ac hA
     refine st hA (by kernel_rfl) (by kernel_rfl) (by kernel_rfl) (Runs.call (fun _ => by kernel_rfl) (e_r01fixed (y_.addr) w3 (by first | omega | assumption | (rw [hO]; exact bytes6_rng))) ?_)
     rintro _ w7 ⟨g8, Ao9, co10, rfl, hw7_hO, hcco10, hu_⟩; refine ⟨_, rfl, ?_⟩; replace hW := hW.made hu_; clear hA ac; intro ac hA
     have hlg8 : g8.length = 4 := by rw [hw7_hO]; rfl
     refine st_rd (v := Value.tuple #[Value.slice Ao9 (g8).length co10, Value.int .i64 0]) hA (by kernel_rfl) (by kernel_rfl) (by kernel_rfl) hW.cls (Rd.pure fun _ => by kernel_rfl) ?_; clear hA ac; intro ac hA
     refine st_rd (v := Value.slice Ao9 (g8).length co10) hA (by kernel_rfl) (by kernel_rfl) (by kernel_rfl) hW.cls (Rd.pure fun _ => by kernel_rfl) ?_; clear hA ac; intro ac hA
     refine st_rd (v := Value.int .i64 0) hA (by kernel_rfl) (by kernel_rfl) (by kernel_rfl) hW.cls (Rd.pure fun _ => by kernel_rfl) ?_; clear hA ac; intro ac hA
     refine st_rd (v := Value.slice Ao9 (g8).length co10) hA (by kernel_rfl) (by kernel_rfl) (by kernel_rfl) hW.cls (Rd.pure fun _ => by kernel_rfl) ?_; clear hA ac; intro ac hA
     refine st_rd (v := Value.int .i64 0) hA (by kernel_rfl) (by kernel_rfl) (by kernel_rfl) hW.cls (Rd.pure fun _ => by kernel_rfl) ?_; clear hA ac; intro ac hA
     refine wpList_nil ?_
     refine thenN ?_
     refine wp_seq ?_
     refine wp_region_lit ?_
     refine st_rd (v := Value.pointer (some ⟨b1, 0, none⟩)) hA (by kernel_rfl) (by kernel_rfl) (by kernel_rfl) hW.cls (Rd.pure fun _ => by kernel_rfl) ?_; clear hA ac; intro ac hA
     refine st_rd (v := Value.slice (some ⟨b5, o6, none⟩) L.length c_L) hA (by kernel_rfl) (by kernel_rfl) (by kernel_rfl) hW.cls (Rd.load (b := b1) (i := 0) (by kernel_rfl) (fun _ hw => (hw.1).cel 2 rfl) (by kernel_rfl)) ?_; clear hA ac; intro ac hA
     refine st_rd (v := Value.int .i64 ((k : Nat) : Int)) hA (by kernel_rfl) (by kernel_rfl) (by kernel_rfl) hW.cls (Rd.pure fun _ => by kernel_rfl) ?_; clear hA ac; intro ac hA
     refine st_rd (v := Value.pointer (some ⟨b5, o6 + k * 2, none⟩)) hA (by kernel_rfl) (by kernel_rfl) (by kernel_rfl) hW.cls (Rd.indexAddr (e := 30) (sz := 2) (b := b5) (off := o6) (n := L.length) (c := c_L) (k := k) (by kernel_rfl) (by kernel_rfl) (by first | omega | (simp; done) | (simp; omega)) (fun _ => by kernel_rfl) (fun _ => by kernel_rfl)) ?_; clear hA ac; intro ac hA
     refine st_rd (v := Value.pointer (some ⟨b5, o6 + k * 2 + 1, none⟩)) hA (by kernel_rfl) (by kernel_rfl) (by kernel_rfl) hW.cls (Rd.pure fun _ => by kernel_rfl) ?_; clear hA ac; intro ac hA
     refine st_rd (v := Value.int .u32 y_.word) hA (by kernel_rfl) (by kernel_rfl) (by kernel_rfl) hW.cls (Rd.loadRow (b := b5) (i := o6 + k * 2 + 1) (xs := [Value.int .u32 y_.word]) (by kernel_rfl) (fun _ hw => row_ld ((hw.1).getG 0 rfl) hy_ (Fr.refl No _) (fun h => h) 1 1 (by kernel_rfl)) (by kernel_rfl)) ?_; clear hA ac; intro ac hA
     refine st_rd (v := Value.int .u64 y_.word) hA (by kernel_rfl) (by kernel_rfl) (by kernel_rfl) hW.cls (Rd.pureE (v0 := Value.int .u64 (IntKind.u64.wrap (y_.word))) (fun _ => by kernel_rfl) (congrArg (Value.int .u64) (w_u64 (x := y_.word) (by omega) (by omega)))) ?_; clear hA ac; intro ac hA
     refine st hA (by kernel_rfl) (by kernel_rfl) (by kernel_rfl) (Runs.call (fun _ => by kernel_rfl) (e_r01fixed (y_.word) w7 (by first | omega | assumption | (rw [hO]; exact bytes6_rng))) ?_)
     rintro _ w12 ⟨g13, Ao14, co15, rfl, hw12_hO, hcco15, hu_⟩; refine ⟨_, rfl, ?_⟩; replace hW := hW.made hu_; clear hA ac; intro ac hA
     have hlg13 : g13.length = 4 := by rw [hw12_hO]; rfl
     refine st_rd (v := Value.tuple #[Value.slice Ao14 (g13).length co15, Value.int .i64 0]) hA (by kernel_rfl) (by kernel_rfl) (by kernel_rfl) hW.cls (Rd.pure fun _ => by kernel_rfl) ?_; clear hA ac; intro ac hA
     refine st_rd (v := Value.slice Ao14 (g13).length co15) hA (by kernel_rfl) (by kernel_rfl) (by kernel_rfl) hW.cls (Rd.pure fun _ => by kernel_rfl) ?_; clear hA ac; intro ac hA
     refine st_rd (v := Value.int .i64 0) hA (by kernel_rfl) (by kernel_rfl) (by kernel_rfl) hW.cls (Rd.pure fun _ => by kernel_rfl) ?_; clear hA ac; intro ac hA
     refine st_rd (v := Value.slice Ao14 (g13).length co15) hA (by kernel_rfl) (by kernel_rfl) (by kernel_rfl) hW.cls (Rd.pure fun _ => by kernel_rfl) ?_; clear hA ac; intro ac hA
     refine st_rd (v := Value.int .i64 0) hA (by kernel_rfl) (by kernel_rfl) (by kernel_rfl) hW.cls (Rd.pure fun _ => by kernel_rfl) ?_; clear hA ac; intro ac hA
     refine wpList_nil ?_
     refine thenN ?_
     refine wp_region_lit ?_
     refine st_rd (v := Value.slice A O.length c) hA (by kernel_rfl) (by kernel_rfl) (by kernel_rfl) hW.cls (Rd.pure fun _ => by kernel_rfl) ?_; clear hA ac; intro ac hA
     refine st_rd (v := Value.slice Ao9 (g8).length co10) hA (by kernel_rfl) (by kernel_rfl) (by kernel_rfl) hW.cls (Rd.pure fun _ => by kernel_rfl) ?_; clear hA ac; intro ac hA
     refine st hA (by kernel_rfl) (by kernel_rfl) (by kernel_rfl) (Runs.appOwn (B := Ao9) (k := co10) (E := 5) (sz := 1) (en := enB6) (l := O) (m := g8) (i := 2) (by kernel_rfl) (by kernel_rfl) elt_B6 (by kernel_rfl) hW rfl (rowR_at ((hW).get 1 rfl) elt_B6.len) (by first | omega | (simp; done) | (simp; omega)) (by first | omega | (simp; done) | (simp; omega)) ?_); clear hA ac hW; intro A17 c18 w19 hW hcc18 ac hA
     refine st_rd (v := Value.slice Ao14 (g13).length co15) hA (by kernel_rfl) (by kernel_rfl) (by kernel_rfl) hW.cls (Rd.pure fun _ => by kernel_rfl) ?_; clear hA ac; intro ac hA
     refine st hA (by kernel_rfl) (by kernel_rfl) (by kernel_rfl) (Runs.appOwn (B := Ao14) (k := co15) (E := 5) (sz := 1) (en := enB6) (l := (O ++ g8)) (m := g13) (i := 2) (by kernel_rfl) (by kernel_rfl) elt_B6 (by kernel_rfl) hW rfl (rowR_at ((hW).get 0 rfl) elt_B6.len) (by first | omega | (simp; done) | (simp; omega)) (by first | omega | (simp; done) | (simp; omega)) ?_); clear hA ac hW; intro A20 c21 w22 hW hcc21 ac hA
     refine st_rd (v := Value.slice A20 ((O ++ g8) ++ g13).length c21) hA (by kernel_rfl) (by kernel_rfl) (by kernel_rfl) hW.cls (Rd.pure fun _ => by kernel_rfl) ?_; clear hA ac; intro ac hA
     refine wpList_nil ?_
     refine blkN ?_
     refine thenN ?_
     refine wp_region_lit ?_
     refine st_rd (v := Value.int .i64 ((k : Nat) : Int)) hA (by kernel_rfl) (by kernel_rfl) (by kernel_rfl) hW.cls (Rd.pure fun _ => by kernel_rfl) ?_; clear hA ac; intro ac hA
     refine st_rd (v := Value.int .i64 ((k + 1 : Nat) : Int)) hA (by kernel_rfl) (by kernel_rfl) (by kernel_rfl) hW.cls (Rd.pureE (v0 := Value.int .i64 (IntKind.i64.wrap ((((k : Nat) : Int) : Int) + 1))) (fun _ => by kernel_rfl) (congrArg (Value.int .i64) ((w_i64 (x := (((k : Nat) : Int) : Int) + 1) (by omega) (by omega)).trans (by omega)))) ?_; clear hA ac; intro ac hA
     refine st_rd (v := Value.int .i64 ((k + 1 : Nat) : Int)) hA (by kernel_rfl) (by kernel_rfl) (by kernel_rfl) hW.cls (Rd.pure fun _ => by kernel_rfl) ?_; clear hA ac; intro ac hA
     refine wpList_nil ?_
     refine thenN ?_
     exact ⟨L.length - (k + 1), by omega, k + 1, (O ++ g8) ++ g13, A20, c21, rfl, by omega, by rw [bytes6_snoc hy_, ← hO, hw7_hO, hw12_hO, List.append_assoc], by exact hcc21, hA.sub ⟨⟨by kernel_rfl, by kernel_rfl⟩, ⟨by kernel_rfl, by kernel_rfl⟩, ⟨by kernel_rfl, by kernel_rfl⟩, trivial⟩, (hW.pick [2, 3] (by decide) rfl).pickG [0] rfl⟩)
 · skip
   have h4 := of_decide_eq_false h4
   first
   | (exfalso; clear hA hW; omega)
   | (
     refine wp_exit ?_
     refine thenX ?_
     refine thenX ?_
     refine blkX ?_
     refine thenN ?_
     refine wp_seq ?_
     refine wp_region_lit ?_
     refine st_rd (v := Value.slice A O.length c) hA (by kernel_rfl) (by kernel_rfl) (by kernel_rfl) hW.cls (Rd.pure fun _ => by kernel_rfl) ?_; clear hA ac; intro ac hA
     refine st hA (by kernel_rfl) (by kernel_rfl) (by kernel_rfl) (Runs.callN (v := Value.int .u64 (sumM O)) (fun _ => by kernel_rfl) hW (e_of02 A c O w3 (rowR_at ((hW).get 0 rfl) elt_B6.len) (own_cap ((hW).get 0 rfl)) (by first | omega | assumption | (rw [hO]; exact bytes6_rng)) (by first | omega | assumption | (rw [hO]; exact bytes6_rng))) ?_); clear hA ac hW; intro w23 hW hfw23 ac hA
     refine st_rd (v := Value.int .u64 (sumM O)) hA (by kernel_rfl) (by kernel_rfl) (by kernel_rfl) hW.cls (Rd.pure fun _ => by kernel_rfl) ?_; clear hA ac; intro ac hA
     refine wpList_nil ?_
     refine thenN ?_
     refine wp_ret ?_
     refine ret1 (v := Value.int .u64 (sumM O)) (by rfl) hA (Got.tmp hA (by kernel_rfl) (by kernel_rfl)) ?_
     clear hA
     rw [List.take_of_length_le (by omega)] at hO; exact ⟨retv (by rw [← hO]), hW.fr⟩)

end Go.Proofs.Ytcokpdlmahlpnaa.L
