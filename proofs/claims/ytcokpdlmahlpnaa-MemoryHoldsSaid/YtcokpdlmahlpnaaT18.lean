/- Contracts, walked by program over the engine's laws. -/
import Derived.Test.YtcokpdlmahlpnaaProg
import Derived.Test.YtcokpdlmahlpnaaT17
namespace Go.Proofs.Ytcokpdlmahlpnaa.L
open Go.RowKit

set_option maxRecDepth 100000 in
theorem e_r01right  (w : World)  : Calls Try.prog 48 #[Value.int .i64 4] w (fun e w' => e = .returned (Value.bool true) ∧ Fr No w w') := by
 refine enter_E 17 Try.func48 rfl rfl (by kernel_rfl) (L := [(0, Value.int .i64 4)]) (by kernel_rfl) ?_
 intro ac hA
 have hW := Ws.start w No
 refine wp_seq ?_
 refine wp_region_lit ?_
 refine st_rd (v := Value.bool false) hA (by kernel_rfl) (by kernel_rfl) (by kernel_rfl) hW.cls (Rd.pure fun _ => by kernel_rfl) ?_; clear hA ac; intro ac hA
 refine wpList_nil ?_
 refine thenN ?_
 refine wp_seq ?_
 refine wp_region_lit ?_
 refine st_rd (v := Value.int .i64 4) hA (by kernel_rfl) (by kernel_rfl) (by kernel_rfl) hW.cls (Rd.pure fun _ => by kernel_rfl) ?_; clear hA ac; intro ac hA
 refine st_rd (v := Value.bool false) hA (by kernel_rfl) (by kernel_rfl) (by kernel_rfl) hW.cls (Rd.pure fun _ => by kernel_rfl) ?_; clear hA ac; intro ac hA
 refine st_rd (v := Value.bool false) hA (by kernel_rfl) (by kernel_rfl) (by kernel_rfl) hW.cls (Rd.pure fun _ => by kernel_rfl) ?_; clear hA ac; intro ac hA
 refine st_rd (v := Value.int .i64 4) hA (by kernel_rfl) (by kernel_rfl) (by kernel_rfl) hW.cls (Rd.pure fun _ => by kernel_rfl) ?_; clear hA ac; intro ac hA
 refine st_rd (v := Value.bool false) hA (by kernel_rfl) (by kernel_rfl) (by kernel_rfl) hW.cls (Rd.pure fun _ => by kernel_rfl) ?_; clear hA ac; intro ac hA
 refine st_rd (v := Value.bool false) hA (by kernel_rfl) (by kernel_rfl) (by kernel_rfl) hW.cls (Rd.pure fun _ => by kernel_rfl) ?_; clear hA ac; intro ac hA
 refine st_rd (v := Value.bool false) hA (by kernel_rfl) (by kernel_rfl) (by kernel_rfl) hW.cls (Rd.pure fun _ => by kernel_rfl) ?_; clear hA ac; intro ac hA
 refine st_rd (v := Value.int .i64 4) hA (by kernel_rfl) (by kernel_rfl) (by kernel_rfl) hW.cls (Rd.pure fun _ => by kernel_rfl) ?_; clear hA ac; intro ac hA
 refine st_rd (v := Value.bool true) hA (by kernel_rfl) (by kernel_rfl) (by kernel_rfl) hW.cls (Rd.pure fun _ => by kernel_rfl) ?_; clear hA ac; intro ac hA
 refine st_rd (v := Value.bool true) hA (by kernel_rfl) (by kernel_rfl) (by kernel_rfl) hW.cls (Rd.pure fun _ => by kernel_rfl) ?_; clear hA ac; intro ac hA
 refine st_rd (v := Value.bool true) hA (by kernel_rfl) (by kernel_rfl) (by kernel_rfl) hW.cls (Rd.pure fun _ => by kernel_rfl) ?_; clear hA ac; intro ac hA
 refine st_skip hA (by kernel_rfl) (by kernel_rfl) ?_; clear hA ac; intro ac hA
 refine st_skip hA (by kernel_rfl) (by kernel_rfl) ?_; clear hA ac; intro ac hA
 refine st_rd (v := Value.bool true) hA (by kernel_rfl) (by kernel_rfl) (by kernel_rfl) hW.cls (Rd.pure fun _ => by kernel_rfl) ?_; clear hA ac; intro ac hA
 refine st_rd (v := Value.bool true) hA (by kernel_rfl) (by kernel_rfl) (by kernel_rfl) hW.cls (Rd.pure fun _ => by kernel_rfl) ?_; clear hA ac; intro ac hA
 refine wpList_nil ?_
 refine thenN ?_
 refine wp_ret ?_
 refine ret1 (v := Value.bool true) (by rfl) hA (Got.tmp hA (by kernel_rfl) (by kernel_rfl)) ?_
 clear hA
 exact ⟨retv (by rfl), hW.fr⟩

set_option maxRecDepth 100000 in
theorem e_r01fixed (n : Int) (w : World) (hn : 0 ≤ n ∧ n ≤ 4294967295) : Calls Try.prog 39 #[Value.int .u64 n, Value.int .i64 4] w (fun e w' => ∃ O_ : List Int, ∃ (A_o : Option Addr) (c_o : Nat), e = .returned (Value.tuple #[Value.slice A_o (O_).length c_o, Value.int .i64 0]) ∧ (O_ = fix4 n) ∧ (O_).length ≤ c_o ∧ Made (rowR 5 1 enB6 (.slice A_o (O_).length c_o) O_) w w') := by
 have _hu := hn; clear _hu
 refine enter_E 29 Try.func39 rfl rfl (by kernel_rfl) (L := [(0, Value.int .u64 n), (1, Value.int .i64 4)]) (by kernel_rfl) ?_
 intro ac hA
 have hW := Ws.start w No
 refine wp_seq ?_
 refine wp_region_lit ?_
 refine st_rd (v := Value.slice none 0 0) hA (by kernel_rfl) (by kernel_rfl) (by kernel_rfl) hW.cls (Rd.pure fun _ => by kernel_rfl) ?_; clear hA ac; intro ac hA
 refine st_rd (v := Value.int .i64 0) hA (by kernel_rfl) (by kernel_rfl) (by kernel_rfl) hW.cls (Rd.pure fun _ => by kernel_rfl) ?_; clear hA ac; intro ac hA
 refine wpList_nil ?_
 refine thenN ?_
 refine wp_seq ?_
 refine wp_seq ?_
 refine wp_region_lit ?_
 refine st_rd (v := Value.int .i64 4) hA (by kernel_rfl) (by kernel_rfl) (by kernel_rfl) hW.cls (Rd.pure fun _ => by kernel_rfl) ?_; clear hA ac; intro ac hA
 refine st hA (by kernel_rfl) (by kernel_rfl) (by kernel_rfl) (Runs.callN (v := Value.bool true) (fun _ => by kernel_rfl) hW (e_r01right w) ?_); clear hA ac hW; intro w1 hW hfw1 ac hA
 refine st_rd (v := Value.bool false) hA (by kernel_rfl) (by kernel_rfl) (by kernel_rfl) hW.cls (Rd.pure fun _ => by kernel_rfl) ?_; clear hA ac; intro ac hA
 refine wpList_nil ?_
 refine thenN ?_
 refine wp_cond_false (hA.eval (by kernel_rfl)) ?_
 refine wp_skip ?_
 refine thenN ?_
 refine wp_seq ?_
 refine wp_region_lit ?_
 refine st_rd (v := Value.int .i64 4) hA (by kernel_rfl) (by kernel_rfl) (by kernel_rfl) hW.cls (Rd.pure fun _ => by kernel_rfl) ?_; clear hA ac; intro ac hA
 refine st hA (by kernel_rfl) (by kernel_rfl) (by kernel_rfl) (Runs.makeSlice (E := 5) (sz := 1) (en := enB6) (n := 4) (bytes := 1) (z0 := Value.int .u8 0) (0 : Int) (by kernel_rfl) (by kernel_rfl) (by kernel_rfl) elt_B6 (by kernel_rfl) (by kernel_rfl) (by omega) (by omega) (by simp only [maxLen]; omega) hW ?_); clear hA ac hW; intro b2 w3 hW hfw3 ac hA
 refine st_rd (v := Value.slice (some ⟨b2, 0, none⟩) 4 4) hA (by kernel_rfl) (by kernel_rfl) (by kernel_rfl) hW.cls (Rd.pure fun _ => by kernel_rfl) ?_; clear hA ac; intro ac hA
 refine wpList_nil ?_
 refine thenN ?_
 refine wp_seq ?_
 refine wp_seq ?_
 refine wp_region_lit ?_
 refine st_rd (v := Value.int .i64 0) hA (by kernel_rfl) (by kernel_rfl) (by kernel_rfl) hW.cls (Rd.pure fun _ => by kernel_rfl) ?_; clear hA ac; intro ac hA
 refine wpList_nil ?_
 refine thenN ?_
 refine wp_block ?_
 refine wp_loop_rounds 5 ?_
 rw [rounds_succ]
 refine wp_seq ?_
 refine wp_seq ?_
 refine wp_region_lit ?_
 refine st_rd (v := Value.int .i64 0) hA (by kernel_rfl) (by kernel_rfl) (by kernel_rfl) hW.cls (Rd.pure fun _ => by kernel_rfl) ?_; clear hA ac; intro ac hA
 refine st_rd (v := Value.int .i64 4) hA (by kernel_rfl) (by kernel_rfl) (by kernel_rfl) hW.cls (Rd.pure fun _ => by kernel_rfl) ?_; clear hA ac; intro ac hA
 refine st_rd (v := Value.bool true) hA (by kernel_rfl) (by kernel_rfl) (by kernel_rfl) hW.cls (Rd.pure fun _ => by kernel_rfl) ?_; clear hA ac; intro ac hA
 refine wpList_nil ?_
 refine thenN ?_
 refine wp_cond_true (hA.eval (by kernel_rfl)) ?_
 refine wp_skip ?_
 refine thenN ?_
 refine wp_seq ?_
 refine wp_block ?_
 refine wp_seq ?_
 refine wp_region_lit ?_
 refine st_rd (v := Value.slice (some ⟨b2, 0, none⟩) 4 4) hA (by kernel_rfl) (by kernel_rfl) (by kernel_rfl) hW.cls (Rd.pure fun _ => by kernel_rfl) ?_; clear hA ac; intro ac hA
 refine st_rd (v := Value.int .i64 0) hA (by kernel_rfl) (by kernel_rfl) (by kernel_rfl) hW.cls (Rd.pure fun _ => by kernel_rfl) ?_; clear hA ac; intro ac hA
 refine st_rd (v := Value.int .u64 n) hA (by kernel_rfl) (by kernel_rfl) (by kernel_rfl) hW.cls (Rd.pure fun _ => by kernel_rfl) ?_; clear hA ac; intro ac hA
 refine st_rd (v := Value.int .u64 ((n : Int) % 256)) hA (by kernel_rfl) (by kernel_rfl) (by kernel_rfl) hW.cls (Rd.pureE (v0 := Value.int .u64 (Int.tmod (n : Int) 256)) (fun _ => by kernel_rfl) (congrArg (Value.int .u64) (rem_ (x := n) (by omega)))) ?_; clear hA ac; intro ac hA
 refine st_rd (v := Value.int .u8 ((n : Int) % 256)) hA (by kernel_rfl) (by kernel_rfl) (by kernel_rfl) hW.cls (Rd.pureE (v0 := Value.int .u8 (IntKind.u8.wrap ((n : Int) % 256))) (fun _ => by kernel_rfl) (congrArg (Value.int .u8) (w_u8 (x := (n : Int) % 256) (by omega) (by omega)))) ?_; clear hA ac; intro ac hA
 obtain ⟨y5, hy5⟩ : ∃ y, (List.replicate 4 (0 : Int))[0]? = some y := ⟨_, List.getElem?_eq_getElem (by first | omega | (simp; done) | (simp; omega))⟩
 refine st_rd (v := Value.pointer (some ⟨b2, 0 + 0 * 1, none⟩)) hA (by kernel_rfl) (by kernel_rfl) (by kernel_rfl) hW.cls (Rd.indexAddr (e := 5) (sz := 1) (b := b2) (off := 0) (n := 4) (c := 4) (k := 0) (by kernel_rfl) (by kernel_rfl) (by first | omega | (simp; done) | (simp; omega)) (fun _ => by kernel_rfl) (fun _ => by kernel_rfl)) ?_; clear hA ac; intro ac hA
 refine st hA (by kernel_rfl) (by kernel_rfl) (by kernel_rfl) (Runs.storeRow (E := 5) (sz := 1) (en := enB6) (b := b2) (off := 0) (k := 0) (n := 4) (c := 4) (v := Value.int .u8 ((n : Int) % 256)) ((n : Int) % 256 : Int) elt_B6 (by kernel_rfl) (by kernel_rfl) (by kernel_rfl) (by kernel_rfl) hW (i := 0) rfl (by first | omega | (simp; done) | (simp; omega)) (by first | rfl | (simp; done) | (simp; omega)) ?_); clear hA ac hW; intro w6 hW ac hA
 refine wpList_nil ?_
 refine thenN ?_
 refine wp_region_lit ?_
 refine st_rd (v := Value.int .u64 n) hA (by kernel_rfl) (by kernel_rfl) (by kernel_rfl) hW.cls (Rd.pure fun _ => by kernel_rfl) ?_; clear hA ac; intro ac hA
 refine st_rd (v := Value.int .u64 ((n : Int) / 256)) hA (by kernel_rfl) (by kernel_rfl) (by kernel_rfl) hW.cls (Rd.pureE (v0 := Value.int .u64 (IntKind.u64.wrap (Int.tdiv (n : Int) 256))) (fun _ => by kernel_rfl) (congrArg (Value.int .u64) ((congrArg IntKind.u64.wrap (quo_ (x := n) (by omega))).trans (w_u64 (by omega) (by omega))))) ?_; clear hA ac; intro ac hA
 refine st_rd (v := Value.int .u64 ((n : Int) / 256)) hA (by kernel_rfl) (by kernel_rfl) (by kernel_rfl) hW.cls (Rd.pure fun _ => by kernel_rfl) ?_; clear hA ac; intro ac hA
 refine wpList_nil ?_
 refine blkN ?_
 refine thenN ?_
 refine wp_region_lit ?_
 refine st_rd (v := Value.int .i64 0) hA (by kernel_rfl) (by kernel_rfl) (by kernel_rfl) hW.cls (Rd.pure fun _ => by kernel_rfl) ?_; clear hA ac; intro ac hA
 refine st_rd (v := Value.int .i64 1) hA (by kernel_rfl) (by kernel_rfl) (by kernel_rfl) hW.cls (Rd.pureE (v0 := Value.int .i64 (IntKind.i64.wrap ((0 : Int) + 1))) (fun _ => by kernel_rfl) (congrArg (Value.int .i64) ((w_i64 (x := (0 : Int) + 1) (by omega) (by omega)).trans (by omega)))) ?_; clear hA ac; intro ac hA
 refine st_rd (v := Value.int .i64 1) hA (by kernel_rfl) (by kernel_rfl) (by kernel_rfl) hW.cls (Rd.pure fun _ => by kernel_rfl) ?_; clear hA ac; intro ac hA
 refine wpList_nil ?_
 refine thenN ?_
 rw [rounds_succ]
 refine wp_seq ?_
 refine wp_seq ?_
 refine wp_region_lit ?_
 refine st_rd (v := Value.int .i64 1) hA (by kernel_rfl) (by kernel_rfl) (by kernel_rfl) hW.cls (Rd.pure fun _ => by kernel_rfl) ?_; clear hA ac; intro ac hA
 refine st_rd (v := Value.int .i64 4) hA (by kernel_rfl) (by kernel_rfl) (by kernel_rfl) hW.cls (Rd.pure fun _ => by kernel_rfl) ?_; clear hA ac; intro ac hA
 refine st_rd (v := Value.bool true) hA (by kernel_rfl) (by kernel_rfl) (by kernel_rfl) hW.cls (Rd.pure fun _ => by kernel_rfl) ?_; clear hA ac; intro ac hA
 refine wpList_nil ?_
 refine thenN ?_
 refine wp_cond_true (hA.eval (by kernel_rfl)) ?_
 refine wp_skip ?_
 refine thenN ?_
 refine wp_seq ?_
 refine wp_block ?_
 refine wp_seq ?_
 refine wp_region_lit ?_
 refine st_rd (v := Value.slice (some ⟨b2, 0, none⟩) 4 4) hA (by kernel_rfl) (by kernel_rfl) (by kernel_rfl) hW.cls (Rd.pure fun _ => by kernel_rfl) ?_; clear hA ac; intro ac hA
 refine st_rd (v := Value.int .i64 1) hA (by kernel_rfl) (by kernel_rfl) (by kernel_rfl) hW.cls (Rd.pure fun _ => by kernel_rfl) ?_; clear hA ac; intro ac hA
 refine st_rd (v := Value.int .u64 ((n : Int) / 256)) hA (by kernel_rfl) (by kernel_rfl) (by kernel_rfl) hW.cls (Rd.pure fun _ => by kernel_rfl) ?_; clear hA ac; intro ac hA
 refine st_rd (v := Value.int .u64 (((n : Int) / 256 : Int) % 256)) hA (by kernel_rfl) (by kernel_rfl) (by kernel_rfl) hW.cls (Rd.pureE (v0 := Value.int .u64 (Int.tmod ((n : Int) / 256 : Int) 256)) (fun _ => by kernel_rfl) (congrArg (Value.int .u64) (rem_ (x := (n : Int) / 256) (by omega)))) ?_; clear hA ac; intro ac hA
 refine st_rd (v := Value.int .u8 (((n : Int) / 256 : Int) % 256)) hA (by kernel_rfl) (by kernel_rfl) (by kernel_rfl) hW.cls (Rd.pureE (v0 := Value.int .u8 (IntKind.u8.wrap (((n : Int) / 256 : Int) % 256))) (fun _ => by kernel_rfl) (congrArg (Value.int .u8) (w_u8 (x := ((n : Int) / 256 : Int) % 256) (by omega) (by omega)))) ?_; clear hA ac; intro ac hA
 obtain ⟨y7, hy7⟩ : ∃ y, (List.set (List.replicate 4 (0 : Int)) 0 ((n : Int) % 256 : Int))[1]? = some y := ⟨_, List.getElem?_eq_getElem (by first | omega | (simp; done) | (simp; omega))⟩
 refine st_rd (v := Value.pointer (some ⟨b2, 0 + 1 * 1, none⟩)) hA (by kernel_rfl) (by kernel_rfl) (by kernel_rfl) hW.cls (Rd.indexAddr (e := 5) (sz := 1) (b := b2) (off := 0) (n := 4) (c := 4) (k := 1) (by kernel_rfl) (by kernel_rfl) (by first | omega | (simp; done) | (simp; omega)) (fun _ => by kernel_rfl) (fun _ => by kernel_rfl)) ?_; clear hA ac; intro ac hA
 refine st hA (by kernel_rfl) (by kernel_rfl) (by kernel_rfl) (Runs.storeRow (E := 5) (sz := 1) (en := enB6) (b := b2) (off := 0) (k := 1) (n := 4) (c := 4) (v := Value.int .u8 (((n : Int) / 256 : Int) % 256)) (((n : Int) / 256 : Int) % 256 : Int) elt_B6 (by kernel_rfl) (by kernel_rfl) (by kernel_rfl) (by kernel_rfl) hW (i := 0) rfl (by first | omega | (simp; done) | (simp; omega)) (by first | rfl | (simp; done) | (simp; omega)) ?_); clear hA ac hW; intro w8 hW ac hA
 refine wpList_nil ?_
 refine thenN ?_
 refine wp_region_lit ?_
 refine st_rd (v := Value.int .u64 ((n : Int) / 256)) hA (by kernel_rfl) (by kernel_rfl) (by kernel_rfl) hW.cls (Rd.pure fun _ => by kernel_rfl) ?_; clear hA ac; intro ac hA
 refine st_rd (v := Value.int .u64 (((n : Int) / 256 : Int) / 256)) hA (by kernel_rfl) (by kernel_rfl) (by kernel_rfl) hW.cls (Rd.pureE (v0 := Value.int .u64 (IntKind.u64.wrap (Int.tdiv ((n : Int) / 256 : Int) 256))) (fun _ => by kernel_rfl) (congrArg (Value.int .u64) ((congrArg IntKind.u64.wrap (quo_ (x := (n : Int) / 256) (by omega))).trans (w_u64 (by omega) (by omega))))) ?_; clear hA ac; intro ac hA
 refine st_rd (v := Value.int .u64 (((n : Int) / 256 : Int) / 256)) hA (by kernel_rfl) (by kernel_rfl) (by kernel_rfl) hW.cls (Rd.pure fun _ => by kernel_rfl) ?_; clear hA ac; intro ac hA
 refine wpList_nil ?_
 refine blkN ?_
 refine thenN ?_
 refine wp_region_lit ?_
 refine st_rd (v := Value.int .i64 1) hA (by kernel_rfl) (by kernel_rfl) (by kernel_rfl) hW.cls (Rd.pure fun _ => by kernel_rfl) ?_; clear hA ac; intro ac hA
 refine st_rd (v := Value.int .i64 2) hA (by kernel_rfl) (by kernel_rfl) (by kernel_rfl) hW.cls (Rd.pureE (v0 := Value.int .i64 (IntKind.i64.wrap ((1 : Int) + 1))) (fun _ => by kernel_rfl) (congrArg (Value.int .i64) ((w_i64 (x := (1 : Int) + 1) (by omega) (by omega)).trans (by omega)))) ?_; clear hA ac; intro ac hA
 refine st_rd (v := Value.int .i64 2) hA (by kernel_rfl) (by kernel_rfl) (by kernel_rfl) hW.cls (Rd.pure fun _ => by kernel_rfl) ?_; clear hA ac; intro ac hA
 refine wpList_nil ?_
 refine thenN ?_
 rw [rounds_succ]
 refine wp_seq ?_
 refine wp_seq ?_
 refine wp_region_lit ?_
 refine st_rd (v := Value.int .i64 2) hA (by kernel_rfl) (by kernel_rfl) (by kernel_rfl) hW.cls (Rd.pure fun _ => by kernel_rfl) ?_; clear hA ac; intro ac hA
 refine st_rd (v := Value.int .i64 4) hA (by kernel_rfl) (by kernel_rfl) (by kernel_rfl) hW.cls (Rd.pure fun _ => by kernel_rfl) ?_; clear hA ac; intro ac hA
 refine st_rd (v := Value.bool true) hA (by kernel_rfl) (by kernel_rfl) (by kernel_rfl) hW.cls (Rd.pure fun _ => by kernel_rfl) ?_; clear hA ac; intro ac hA
 refine wpList_nil ?_
 refine thenN ?_
 refine wp_cond_true (hA.eval (by kernel_rfl)) ?_
 refine wp_skip ?_
 refine thenN ?_
 refine wp_seq ?_
 refine wp_block ?_
 refine wp_seq ?_
 refine wp_region_lit ?_
 refine st_rd (v := Value.slice (some ⟨b2, 0, none⟩) 4 4) hA (by kernel_rfl) (by kernel_rfl) (by kernel_rfl) hW.cls (Rd.pure fun _ => by kernel_rfl) ?_; clear hA ac; intro ac hA
 refine st_rd (v := Value.int .i64 2) hA (by kernel_rfl) (by kernel_rfl) (by kernel_rfl) hW.cls (Rd.pure fun _ => by kernel_rfl) ?_; clear hA ac; intro ac hA
 refine st_rd (v := Value.int .u64 (((n : Int) / 256 : Int) / 256)) hA (by kernel_rfl) (by kernel_rfl) (by kernel_rfl) hW.cls (Rd.pure fun _ => by kernel_rfl) ?_; clear hA ac; intro ac hA
 refine st_rd (v := Value.int .u64 ((((n : Int) / 256 : Int) / 256 : Int) % 256)) hA (by kernel_rfl) (by kernel_rfl) (by kernel_rfl) hW.cls (Rd.pureE (v0 := Value.int .u64 (Int.tmod (((n : Int) / 256 : Int) / 256 : Int) 256)) (fun _ => by kernel_rfl) (congrArg (Value.int .u64) (rem_ (x := ((n : Int) / 256 : Int) / 256) (by omega)))) ?_; clear hA ac; intro ac hA
 refine st_rd (v := Value.int .u8 ((((n : Int) / 256 : Int) / 256 : Int) % 256)) hA (by kernel_rfl) (by kernel_rfl) (by kernel_rfl) hW.cls (Rd.pureE (v0 := Value.int .u8 (IntKind.u8.wrap ((((n : Int) / 256 : Int) / 256 : Int) % 256))) (fun _ => by kernel_rfl) (congrArg (Value.int .u8) (w_u8 (x := (((n : Int) / 256 : Int) / 256 : Int) % 256) (by omega) (by omega)))) ?_; clear hA ac; intro ac hA
 obtain ⟨y9, hy9⟩ : ∃ y, (List.set (List.set (List.replicate 4 (0 : Int)) 0 ((n : Int) % 256 : Int)) 1 (((n : Int) / 256 : Int) % 256 : Int))[2]? = some y := ⟨_, List.getElem?_eq_getElem (by first | omega | (simp; done) | (simp; omega))⟩
 refine st_rd (v := Value.pointer (some ⟨b2, 0 + 2 * 1, none⟩)) hA (by kernel_rfl) (by kernel_rfl) (by kernel_rfl) hW.cls (Rd.indexAddr (e := 5) (sz := 1) (b := b2) (off := 0) (n := 4) (c := 4) (k := 2) (by kernel_rfl) (by kernel_rfl) (by first | omega | (simp; done) | (simp; omega)) (fun _ => by kernel_rfl) (fun _ => by kernel_rfl)) ?_; clear hA ac; intro ac hA
 refine st hA (by kernel_rfl) (by kernel_rfl) (by kernel_rfl) (Runs.storeRow (E := 5) (sz := 1) (en := enB6) (b := b2) (off := 0) (k := 2) (n := 4) (c := 4) (v := Value.int .u8 ((((n : Int) / 256 : Int) / 256 : Int) % 256)) ((((n : Int) / 256 : Int) / 256 : Int) % 256 : Int) elt_B6 (by kernel_rfl) (by kernel_rfl) (by kernel_rfl) (by kernel_rfl) hW (i := 0) rfl (by first | omega | (simp; done) | (simp; omega)) (by first | rfl | (simp; done) | (simp; omega)) ?_); clear hA ac hW; intro w10 hW ac hA
 refine wpList_nil ?_
 refine thenN ?_
 refine wp_region_lit ?_
 refine st_rd (v := Value.int .u64 (((n : Int) / 256 : Int) / 256)) hA (by kernel_rfl) (by kernel_rfl) (by kernel_rfl) hW.cls (Rd.pure fun _ => by kernel_rfl) ?_; clear hA ac; intro ac hA
 refine st_rd (v := Value.int .u64 ((((n : Int) / 256 : Int) / 256 : Int) / 256)) hA (by kernel_rfl) (by kernel_rfl) (by kernel_rfl) hW.cls (Rd.pureE (v0 := Value.int .u64 (IntKind.u64.wrap (Int.tdiv (((n : Int) / 256 : Int) / 256 : Int) 256))) (fun _ => by kernel_rfl) (congrArg (Value.int .u64) ((congrArg IntKind.u64.wrap (quo_ (x := ((n : Int) / 256 : Int) / 256) (by omega))).trans (w_u64 (by omega) (by omega))))) ?_; clear hA ac; intro ac hA
 refine st_rd (v := Value.int .u64 ((((n : Int) / 256 : Int) / 256 : Int) / 256)) hA (by kernel_rfl) (by kernel_rfl) (by kernel_rfl) hW.cls (Rd.pure fun _ => by kernel_rfl) ?_; clear hA ac; intro ac hA
 refine wpList_nil ?_
 refine blkN ?_
 refine thenN ?_
 refine wp_region_lit ?_
 refine st_rd (v := Value.int .i64 2) hA (by kernel_rfl) (by kernel_rfl) (by kernel_rfl) hW.cls (Rd.pure fun _ => by kernel_rfl) ?_; clear hA ac; intro ac hA
 refine st_rd (v := Value.int .i64 3) hA (by kernel_rfl) (by kernel_rfl) (by kernel_rfl) hW.cls (Rd.pureE (v0 := Value.int .i64 (IntKind.i64.wrap ((2 : Int) + 1))) (fun _ => by kernel_rfl) (congrArg (Value.int .i64) ((w_i64 (x := (2 : Int) + 1) (by omega) (by omega)).trans (by omega)))) ?_; clear hA ac; intro ac hA
 refine st_rd (v := Value.int .i64 3) hA (by kernel_rfl) (by kernel_rfl) (by kernel_rfl) hW.cls (Rd.pure fun _ => by kernel_rfl) ?_; clear hA ac; intro ac hA
 refine wpList_nil ?_
 refine thenN ?_
 rw [rounds_succ]
 refine wp_seq ?_
 refine wp_seq ?_
 refine wp_region_lit ?_
 refine st_rd (v := Value.int .i64 3) hA (by kernel_rfl) (by kernel_rfl) (by kernel_rfl) hW.cls (Rd.pure fun _ => by kernel_rfl) ?_; clear hA ac; intro ac hA
 refine st_rd (v := Value.int .i64 4) hA (by kernel_rfl) (by kernel_rfl) (by kernel_rfl) hW.cls (Rd.pure fun _ => by kernel_rfl) ?_; clear hA ac; intro ac hA
 refine st_rd (v := Value.bool true) hA (by kernel_rfl) (by kernel_rfl) (by kernel_rfl) hW.cls (Rd.pure fun _ => by kernel_rfl) ?_; clear hA ac; intro ac hA
 refine wpList_nil ?_
 refine thenN ?_
 refine wp_cond_true (hA.eval (by kernel_rfl)) ?_
 refine wp_skip ?_
 refine thenN ?_
 refine wp_seq ?_
 refine wp_block ?_
 refine wp_seq ?_
 refine wp_region_lit ?_
 refine st_rd (v := Value.slice (some ⟨b2, 0, none⟩) 4 4) hA (by kernel_rfl) (by kernel_rfl) (by kernel_rfl) hW.cls (Rd.pure fun _ => by kernel_rfl) ?_; clear hA ac; intro ac hA
 refine st_rd (v := Value.int .i64 3) hA (by kernel_rfl) (by kernel_rfl) (by kernel_rfl) hW.cls (Rd.pure fun _ => by kernel_rfl) ?_; clear hA ac; intro ac hA
 refine st_rd (v := Value.int .u64 ((((n : Int) / 256 : Int) / 256 : Int) / 256)) hA (by kernel_rfl) (by kernel_rfl) (by kernel_rfl) hW.cls (Rd.pure fun _ => by kernel_rfl) ?_; clear hA ac; intro ac hA
 refine st_rd (v := Value.int .u64 (((((n : Int) / 256 : Int) / 256 : Int) / 256 : Int) % 256)) hA (by kernel_rfl) (by kernel_rfl) (by kernel_rfl) hW.cls (Rd.pureE (v0 := Value.int .u64 (Int.tmod ((((n : Int) / 256 : Int) / 256 : Int) / 256 : Int) 256)) (fun _ => by kernel_rfl) (congrArg (Value.int .u64) (rem_ (x := (((n : Int) / 256 : Int) / 256 : Int) / 256) (by omega)))) ?_; clear hA ac; intro ac hA
 refine st_rd (v := Value.int .u8 (((((n : Int) / 256 : Int) / 256 : Int) / 256 : Int) % 256)) hA (by kernel_rfl) (by kernel_rfl) (by kernel_rfl) hW.cls (Rd.pureE (v0 := Value.int .u8 (IntKind.u8.wrap (((((n : Int) / 256 : Int) / 256 : Int) / 256 : Int) % 256))) (fun _ => by kernel_rfl) (congrArg (Value.int .u8) (w_u8 (x := ((((n : Int) / 256 : Int) / 256 : Int) / 256 : Int) % 256) (by omega) (by omega)))) ?_; clear hA ac; intro ac hA
 obtain ⟨y11, hy11⟩ : ∃ y, (List.set (List.set (List.set (List.replicate 4 (0 : Int)) 0 ((n : Int) % 256 : Int)) 1 (((n : Int) / 256 : Int) % 256 : Int)) 2 ((((n : Int) / 256 : Int) / 256 : Int) % 256 : Int))[3]? = some y := ⟨_, List.getElem?_eq_getElem (by first | omega | (simp; done) | (simp; omega))⟩
 refine st_rd (v := Value.pointer (some ⟨b2, 0 + 3 * 1, none⟩)) hA (by kernel_rfl) (by kernel_rfl) (by kernel_rfl) hW.cls (Rd.indexAddr (e := 5) (sz := 1) (b := b2) (off := 0) (n := 4) (c := 4) (k := 3) (by kernel_rfl) (by kernel_rfl) (by first | omega | (simp; done) | (simp; omega)) (fun _ => by kernel_rfl) (fun _ => by kernel_rfl)) ?_; clear hA ac; intro ac hA
 refine st hA (by kernel_rfl) (by kernel_rfl) (by kernel_rfl) (Runs.storeRow (E := 5) (sz := 1) (en := enB6) (b := b2) (off := 0) (k := 3) (n := 4) (c := 4) (v := Value.int .u8 (((((n : Int) / 256 : Int) / 256 : Int) / 256 : Int) % 256)) (((((n : Int) / 256 : Int) / 256 : Int) / 256 : Int) % 256 : Int) elt_B6 (by kernel_rfl) (by kernel_rfl) (by kernel_rfl) (by kernel_rfl) hW (i := 0) rfl (by first | omega | (simp; done) | (simp; omega)) (by first | rfl | (simp; done) | (simp; omega)) ?_); clear hA ac hW; intro w12 hW ac hA
 refine wpList_nil ?_
 refine thenN ?_
 refine wp_region_lit ?_
 refine st_rd (v := Value.int .u64 ((((n : Int) / 256 : Int) / 256 : Int) / 256)) hA (by kernel_rfl) (by kernel_rfl) (by kernel_rfl) hW.cls (Rd.pure fun _ => by kernel_rfl) ?_; clear hA ac; intro ac hA
 refine st_rd (v := Value.int .u64 (((((n : Int) / 256 : Int) / 256 : Int) / 256 : Int) / 256)) hA (by kernel_rfl) (by kernel_rfl) (by kernel_rfl) hW.cls (Rd.pureE (v0 := Value.int .u64 (IntKind.u64.wrap (Int.tdiv ((((n : Int) / 256 : Int) / 256 : Int) / 256 : Int) 256))) (fun _ => by kernel_rfl) (congrArg (Value.int .u64) ((congrArg IntKind.u64.wrap (quo_ (x := (((n : Int) / 256 : Int) / 256 : Int) / 256) (by omega))).trans (w_u64 (by omega) (by omega))))) ?_; clear hA ac; intro ac hA
 refine st_rd (v := Value.int .u64 (((((n : Int) / 256 : Int) / 256 : Int) / 256 : Int) / 256)) hA (by kernel_rfl) (by kernel_rfl) (by kernel_rfl) hW.cls (Rd.pure fun _ => by kernel_rfl) ?_; clear hA ac; intro ac hA
 refine wpList_nil ?_
 refine blkN ?_
 refine thenN ?_
 refine wp_region_lit ?_
 refine st_rd (v := Value.int .i64 3) hA (by kernel_rfl) (by kernel_rfl) (by kernel_rfl) hW.cls (Rd.pure fun _ => by kernel_rfl) ?_; clear hA ac; intro ac hA
 refine st_rd (v := Value.int .i64 4) hA (by kernel_rfl) (by kernel_rfl) (by kernel_rfl) hW.cls (Rd.pureE (v0 := Value.int .i64 (IntKind.i64.wrap ((3 : Int) + 1))) (fun _ => by kernel_rfl) (congrArg (Value.int .i64) ((w_i64 (x := (3 : Int) + 1) (by omega) (by omega)).trans (by omega)))) ?_; clear hA ac; intro ac hA
 refine st_rd (v := Value.int .i64 4) hA (by kernel_rfl) (by kernel_rfl) (by kernel_rfl) hW.cls (Rd.pure fun _ => by kernel_rfl) ?_; clear hA ac; intro ac hA
 refine wpList_nil ?_
 refine thenN ?_
 rw [rounds_succ]
 refine wp_seq ?_
 refine wp_seq ?_
 refine wp_region_lit ?_
 refine st_rd (v := Value.int .i64 4) hA (by kernel_rfl) (by kernel_rfl) (by kernel_rfl) hW.cls (Rd.pure fun _ => by kernel_rfl) ?_; clear hA ac; intro ac hA
 refine st_rd (v := Value.int .i64 4) hA (by kernel_rfl) (by kernel_rfl) (by kernel_rfl) hW.cls (Rd.pure fun _ => by kernel_rfl) ?_; clear hA ac; intro ac hA
 refine st_rd (v := Value.bool false) hA (by kernel_rfl) (by kernel_rfl) (by kernel_rfl) hW.cls (Rd.pure fun _ => by kernel_rfl) ?_; clear hA ac; intro ac hA
 refine wpList_nil ?_
 refine thenN ?_
 refine wp_cond_false (hA.eval (by kernel_rfl)) ?_
 refine wp_exit ?_
 refine thenX ?_
 refine thenX ?_
 refine blkX ?_
 refine thenN ?_
 refine wp_seq ?_
 refine wp_seq ?_
 refine wp_region_lit ?_
 refine st_rd (v := Value.int .u64 (((((n : Int) / 256 : Int) / 256 : Int) / 256 : Int) / 256)) hA (by kernel_rfl) (by kernel_rfl) (by kernel_rfl) hW.cls (Rd.pure fun _ => by kernel_rfl) ?_; clear hA ac; intro ac hA
 refine st_rd (v := Value.bool (decide ((((((n : Int) / 256 : Int) / 256 : Int) / 256 : Int) / 256 : Int) > (0 : Int)))) hA (by kernel_rfl) (by kernel_rfl) (by kernel_rfl) hW.cls (Rd.pure fun _ => by kernel_rfl) ?_; clear hA ac; intro ac hA
 refine wpList_nil ?_
 refine thenN ?_
 refine wp_cond_split (t := decide ((((((n : Int) / 256 : Int) / 256 : Int) / 256 : Int) / 256 : Int) > (0 : Int))) (hA.eval (by kernel_rfl)) (fun h13 => ?_) (fun h13 => ?_)
 · skip
   have h13 := of_decide_eq_true h13
   first
   | (exfalso; clear hA hW; omega)
   | (
     fail)
 · skip
   have h13 := of_decide_eq_false h13
   first
   | (exfalso; clear hA hW; omega)
   | (
     refine wp_skip ?_
     refine thenN ?_
     refine wp_seq ?_
     refine wp_region_lit ?_
     refine st_rd (v := Value.slice (some ⟨b2, 0, none⟩) 4 4) hA (by kernel_rfl) (by kernel_rfl) (by kernel_rfl) hW.cls (Rd.pure fun _ => by kernel_rfl) ?_; clear hA ac; intro ac hA
     refine st_rd (v := Value.slice (some ⟨b2, 0, none⟩) 4 4) hA (by kernel_rfl) (by kernel_rfl) (by kernel_rfl) hW.cls (Rd.pure fun _ => by kernel_rfl) ?_; clear hA ac; intro ac hA
     refine st_rd (v := Value.int .i64 0) hA (by kernel_rfl) (by kernel_rfl) (by kernel_rfl) hW.cls (Rd.pure fun _ => by kernel_rfl) ?_; clear hA ac; intro ac hA
     refine wpList_nil ?_
     refine thenN ?_
     refine wp_ret ?_
     refine ret2 (v1 := Value.slice (some ⟨b2, 0, none⟩) 4 4) (v2 := Value.int .i64 0) (by rfl) hA (Got.tmp hA (by kernel_rfl) (by kernel_rfl)) (Got.tmp hA (by kernel_rfl) (by kernel_rfl)) ?_
     clear hA
     exact ⟨List.set (List.set (List.set (List.set (List.replicate 4 (0 : Int)) 0 ((n : Int) % 256 : Int)) 1 (((n : Int) / 256 : Int) % 256 : Int)) 2 ((((n : Int) / 256 : Int) / 256 : Int) % 256 : Int)) 3 (((((n : Int) / 256 : Int) / 256 : Int) / 256 : Int) % 256 : Int), (some ⟨b2, 0, none⟩), 4, by first | rfl | (simp; done), by unfold fix4; simp; omega, (own_cap ((hW).get 0 rfl)), hW.madeRow 0 rfl⟩)

end Go.Proofs.Ytcokpdlmahlpnaa.L
