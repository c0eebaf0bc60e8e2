/- Contracts, walked by program over the engine's laws. -/
import Derived.Test.YtgeikokmhkfkgaaProg
import Derived.Test.YtgeikokmhkfkgaaT12
namespace Go.Proofs.Ytgeikokmhkfkgaa.L
open Go.RowKit


theorem held_nil_no {pre : List Two} {x : Two} (hc : Comes (HeldOf []) pre x) : False := by
  obtain ⟨xs, ⟨hp, _⟩, t, ht⟩ := hc
  have := hp.length_eq
  rw [← ht] at this
  simp at this
set_option maxRecDepth 100000 in
theorem e_none_nil  (w : World)  : Calls Try.prog 22 #[Value.pointer none] w (fun e w' => e = .returned (Value.bool true) ∧ w = w') := by
  refine enter_E 12 Try.func22 rfl rfl (by kernel_rfl) (L := [(0, Value.pointer none)]) (by kernel_rfl) ?_
  intro ac hA
  have hW := Ws.start w No
  refine wp_seq ?_
  refine wp_region_lit ?_
  refine st_rd (v := Value.bool false) hA (by kernel_rfl) (by kernel_rfl) (by kernel_rfl) hW.cls (Rd.pure fun _ => by kernel_rfl) ?_; clear hA ac; intro ac hA
  refine wpList_nil ?_
  refine thenN ?_
  refine wp_seq ?_
  refine wp_region_lit ?_
  refine st_rd (v := Value.pointer none) hA (by kernel_rfl) (by kernel_rfl) (by kernel_rfl) hW.cls (Rd.pure fun _ => by kernel_rfl) ?_; clear hA ac; intro ac hA
  refine st_rd (v := Value.bool true) hA (by kernel_rfl) (by kernel_rfl) (by kernel_rfl) hW.cls (Rd.pure fun _ => by kernel_rfl) ?_; clear hA ac; intro ac hA
  refine st_rd (v := Value.bool true) hA (by kernel_rfl) (by kernel_rfl) (by kernel_rfl) hW.cls (Rd.pure fun _ => by kernel_rfl) ?_; clear hA ac; intro ac hA
  refine st_skip hA (by kernel_rfl) (by kernel_rfl) ?_; clear hA ac; intro ac hA
  refine st_skip hA (by kernel_rfl) (by kernel_rfl) ?_; clear hA ac; intro ac hA
  refine st_skip hA (by kernel_rfl) (by kernel_rfl) ?_; clear hA ac; intro ac hA
  refine st_skip hA (by kernel_rfl) (by kernel_rfl) ?_; clear hA ac; intro ac hA
  refine st_skip hA (by kernel_rfl) (by kernel_rfl) ?_; clear hA ac; intro ac hA
  refine st_rd (v := Value.bool true) hA (by kernel_rfl) (by kernel_rfl) (by kernel_rfl) hW.cls (Rd.pure fun _ => by kernel_rfl) ?_; clear hA ac; intro ac hA
  refine st_rd (v := Value.bool true) hA (by kernel_rfl) (by kernel_rfl) (by kernel_rfl) hW.cls (Rd.pure fun _ => by kernel_rfl) ?_; clear hA ac; intro ac hA
  refine wpList_nil ?_
  refine thenN ?_
  refine wp_ret ?_
  refine ret1 (v := Value.bool true) (by rfl) hA (Got.tmp hA (by kernel_rfl) (by kernel_rfl)) ?_
  clear hA
  exact ⟨retv (by rfl), rfl⟩

set_option maxRecDepth 100000 in
theorem e_lock_nil (i : Int) (by_ : Int) (w : World)  : Calls Try.prog 10 #[Value.pointer none, Value.int .i64 i, Value.int .i64 by_] w (fun e w' => e = .returned (Value.int .i64 1) ∧ Fr No w w') := by
  refine enter_E 39 Try.func10 rfl rfl (by kernel_rfl) (L := [(0, Value.pointer none), (1, Value.int .i64 i), (2, Value.int .i64 by_)]) (by kernel_rfl) ?_
  intro ac hA
  have hW := Ws.start w No
  refine wp_seq ?_
  refine wp_region_lit ?_
  refine st_rd (v := Value.int .i64 0) hA (by kernel_rfl) (by kernel_rfl) (by kernel_rfl) hW.cls (Rd.pure fun _ => by kernel_rfl) ?_; clear hA ac; intro ac hA
  refine wpList_nil ?_
  refine thenN ?_
  refine wp_fwd (l := 0) rfl ?_
  refine wp_seq ?_
  refine wp_region_lit ?_
  refine st_rd (v := Value.int .i64 by_) hA (by kernel_rfl) (by kernel_rfl) (by kernel_rfl) hW.cls (Rd.pure fun _ => by kernel_rfl) ?_; clear hA ac; intro ac hA
  refine st_rd (v := Value.agg #[Value.int .i64 by_, Value.int .i64 65535]) hA (by kernel_rfl) (by kernel_rfl) (by kernel_rfl) hW.cls (Rd.pure fun _ => by kernel_rfl) ?_; clear hA ac; intro ac hA
  refine st_rd (v := Value.agg #[Value.int .i64 by_, Value.int .i64 65535]) hA (by kernel_rfl) (by kernel_rfl) (by kernel_rfl) hW.cls (Rd.pure fun _ => by kernel_rfl) ?_; clear hA ac; intro ac hA
  refine st hA (by kernel_rfl) (by kernel_rfl) (by kernel_rfl) (Runs.cells (fun b => Value.pointer (some ⟨b, 0, none⟩)) #[Value.int .i64 0, Value.int .i64 0] 64 (fun _ => by kernel_rfl) hW ?_); clear hA ac hW; intro b1 w2 hW hb1 hfw2 ac hA
  refine st hA (by kernel_rfl) (by kernel_rfl) (by kernel_rfl) (Runs.store (v := Value.agg #[Value.int .i64 by_, Value.int .i64 65535]) (b := b1) (j := 0) (n := 2) (cs' := #[Value.int .i64 by_, Value.int .i64 65535]) (H' := [Cel b1 #[Value.int .i64 by_, Value.int .i64 65535] 64]) (by kernel_rfl) (by kernel_rfl) (by kernel_rfl) (by kernel_rfl) (by kernel_rfl) hW 0 (by rfl) (Nat.le_of_ble_eq_true (by kernel_rfl)) (by kernel_rfl) (by rfl) ?_); clear hA ac hW; intro w3 hW ac hA
  refine wpList_nil ?_
  refine thenN ?_
  refine wp_seq ?_
  refine wp_seq ?_
  refine wp_region_lit ?_
  refine st_rd (v := Value.int .i64 1) hA (by kernel_rfl) (by kernel_rfl) (by kernel_rfl) hW.cls (Rd.pure fun _ => by kernel_rfl) ?_; clear hA ac; intro ac hA
  refine wpList_nil ?_
  refine thenN ?_
  refine wp_seq ?_
  refine wp_region_lit ?_
  refine st_rd (v := Value.pointer none) hA (by kernel_rfl) (by kernel_rfl) (by kernel_rfl) hW.cls (Rd.pure fun _ => by kernel_rfl) ?_; clear hA ac; intro ac hA
  refine st hA (by kernel_rfl) (by kernel_rfl) (by kernel_rfl) (Runs.callS (v := Value.bool true) (fun _ => by kernel_rfl) (e_none_nil w3) ?_); clear hA ac; intro  ac hA
  refine wpList_nil ?_
  refine thenN ?_
  refine wp_cond_true (hA.eval (by kernel_rfl)) ?_
  refine wp_goto ?_
  refine thenG ?_
  refine fwdG ?_
  refine wp_seq ?_
  refine wp_skip ?_
  refine thenN ?_
  refine wp_seq ?_
  refine wp_region_lit ?_
  refine st_rd (v := Value.int .i64 1) hA (by kernel_rfl) (by kernel_rfl) (by kernel_rfl) hW.cls (Rd.pure fun _ => by kernel_rfl) ?_; clear hA ac; intro ac hA
  refine st_rd (v := Value.int .i64 1) hA (by kernel_rfl) (by kernel_rfl) (by kernel_rfl) hW.cls (Rd.pure fun _ => by kernel_rfl) ?_; clear hA ac; intro ac hA
  refine wpList_nil ?_
  refine thenN ?_
  refine wp_ret ?_
  refine nogR ?_
  refine ret1 (v := Value.int .i64 1) (by rfl) hA (Got.tmp hA (by kernel_rfl) (by kernel_rfl)) ?_
  clear hA
  exact ⟨retv (by rfl), hW.fr⟩

set_option maxRecDepth 100000 in
theorem e_unlock_nil (i : Int) (w : World)  : Calls Try.prog 11 #[Value.pointer none, Value.int .i64 i] w (fun e w' => e = .returned (Value.tuple #[Value.int .i64 0, Value.int .i64 1]) ∧ Fr No w w') := by
  refine enter_E 31 Try.func11 rfl rfl (by kernel_rfl) (L := [(0, Value.pointer none), (1, Value.int .i64 i)]) (by kernel_rfl) ?_
  intro ac hA
  have hW := Ws.start w No
  refine wp_seq ?_
  refine wp_region_lit ?_
  refine st_rd (v := Value.int .i64 0) hA (by kernel_rfl) (by kernel_rfl) (by kernel_rfl) hW.cls (Rd.pure fun _ => by kernel_rfl) ?_; clear hA ac; intro ac hA
  refine st_rd (v := Value.int .i64 0) hA (by kernel_rfl) (by kernel_rfl) (by kernel_rfl) hW.cls (Rd.pure fun _ => by kernel_rfl) ?_; clear hA ac; intro ac hA
  refine wpList_nil ?_
  refine thenN ?_
  refine wp_fwd (l := 0) rfl ?_
  refine wp_seq ?_
  refine wp_region_lit ?_
  refine st_rd (v := Value.bool false) hA (by kernel_rfl) (by kernel_rfl) (by kernel_rfl) hW.cls (Rd.pure fun _ => by kernel_rfl) ?_; clear hA ac; intro ac hA
  refine wpList_nil ?_
  refine thenN ?_
  refine wp_seq ?_
  refine wp_seq ?_
  refine wp_region_lit ?_
  refine st_rd (v := Value.int .i64 1) hA (by kernel_rfl) (by kernel_rfl) (by kernel_rfl) hW.cls (Rd.pure fun _ => by kernel_rfl) ?_; clear hA ac; intro ac hA
  refine wpList_nil ?_
  refine thenN ?_
  refine wp_seq ?_
  refine wp_region_lit ?_
  refine st_rd (v := Value.pointer none) hA (by kernel_rfl) (by kernel_rfl) (by kernel_rfl) hW.cls (Rd.pure fun _ => by kernel_rfl) ?_; clear hA ac; intro ac hA
  refine st hA (by kernel_rfl) (by kernel_rfl) (by kernel_rfl) (Runs.callS (v := Value.bool true) (fun _ => by kernel_rfl) (e_none_nil w) ?_); clear hA ac; intro  ac hA
  refine wpList_nil ?_
  refine thenN ?_
  refine wp_cond_true (hA.eval (by kernel_rfl)) ?_
  refine wp_goto ?_
  refine thenG ?_
  refine fwdG ?_
  refine wp_seq ?_
  refine wp_skip ?_
  refine thenN ?_
  refine wp_seq ?_
  refine wp_region_lit ?_
  refine st_rd (v := Value.int .i64 1) hA (by kernel_rfl) (by kernel_rfl) (by kernel_rfl) hW.cls (Rd.pure fun _ => by kernel_rfl) ?_; clear hA ac; intro ac hA
  refine st_rd (v := Value.int .i64 0) hA (by kernel_rfl) (by kernel_rfl) (by kernel_rfl) hW.cls (Rd.pure fun _ => by kernel_rfl) ?_; clear hA ac; intro ac hA
  refine st_rd (v := Value.int .i64 1) hA (by kernel_rfl) (by kernel_rfl) (by kernel_rfl) hW.cls (Rd.pure fun _ => by kernel_rfl) ?_; clear hA ac; intro ac hA
  refine wpList_nil ?_
  refine thenN ?_
  refine wp_ret ?_
  refine nogR ?_
  refine ret2 (v1 := Value.int .i64 0) (v2 := Value.int .i64 1) (by rfl) hA (Got.tmp hA (by kernel_rfl) (by kernel_rfl)) (Got.tmp hA (by kernel_rfl) (by kernel_rfl)) ?_
  clear hA
  exact ⟨retv (by rfl), hW.fr⟩

set_option maxRecDepth 100000 in
theorem e_holder_nil (i : Int) (w : World)  : Calls Try.prog 12 #[Value.pointer none, Value.int .i64 i] w (fun e w' => e = .returned (Value.tuple #[Value.int .i64 0, Value.bool false]) ∧ Fr No w w') := by
  refine enter_E 16 Try.func12 rfl rfl (by kernel_rfl) (L := [(0, Value.pointer none), (1, Value.int .i64 i)]) (by kernel_rfl) ?_
  intro ac hA
  have hW := Ws.start w No
  refine wp_seq ?_
  refine wp_region_lit ?_
  refine st_rd (v := Value.int .i64 0) hA (by kernel_rfl) (by kernel_rfl) (by kernel_rfl) hW.cls (Rd.pure fun _ => by kernel_rfl) ?_; clear hA ac; intro ac hA
  refine st_rd (v := Value.bool false) hA (by kernel_rfl) (by kernel_rfl) (by kernel_rfl) hW.cls (Rd.pure fun _ => by kernel_rfl) ?_; clear hA ac; intro ac hA
  refine wpList_nil ?_
  refine thenN ?_
  refine wp_seq ?_
  refine wp_seq ?_
  refine wp_region_lit ?_
  refine st_rd (v := Value.pointer none) hA (by kernel_rfl) (by kernel_rfl) (by kernel_rfl) hW.cls (Rd.pure fun _ => by kernel_rfl) ?_; clear hA ac; intro ac hA
  refine st hA (by kernel_rfl) (by kernel_rfl) (by kernel_rfl) (Runs.callS (v := Value.bool true) (fun _ => by kernel_rfl) (e_none_nil w) ?_); clear hA ac; intro  ac hA
  refine wpList_nil ?_
  refine thenN ?_
  refine wp_cond_true (hA.eval (by kernel_rfl)) ?_
  refine wp_seq ?_
  refine wp_region_lit ?_
  refine st_rd (v := Value.int .i64 0) hA (by kernel_rfl) (by kernel_rfl) (by kernel_rfl) hW.cls (Rd.pure fun _ => by kernel_rfl) ?_; clear hA ac; intro ac hA
  refine st_rd (v := Value.bool false) hA (by kernel_rfl) (by kernel_rfl) (by kernel_rfl) hW.cls (Rd.pure fun _ => by kernel_rfl) ?_; clear hA ac; intro ac hA
  refine wpList_nil ?_
  refine thenN ?_
  refine wp_ret ?_
  refine thenR ?_
  refine ret2 (v1 := Value.int .i64 0) (v2 := Value.bool false) (by rfl) hA (Got.tmp hA (by kernel_rfl) (by kernel_rfl)) (Got.tmp hA (by kernel_rfl) (by kernel_rfl)) ?_
  clear hA
  exact ⟨retv (by rfl), hW.fr⟩

set_option maxRecDepth 100000 in
theorem e_len_nil  (w : World)  : Calls Try.prog 20 #[Value.pointer none] w (fun e w' => e = .returned (Value.int .i64 0) ∧ Fr No w w') := by
  refine enter_E 9 Try.func20 rfl rfl (by kernel_rfl) (L := [(0, Value.pointer none)]) (by kernel_rfl) ?_
  intro ac hA
  have hW := Ws.start w No
  refine wp_seq ?_
  refine wp_region_lit ?_
  refine st_rd (v := Value.int .i64 0) hA (by kernel_rfl) (by kernel_rfl) (by kernel_rfl) hW.cls (Rd.pure fun _ => by kernel_rfl) ?_; clear hA ac; intro ac hA
  refine wpList_nil ?_
  refine thenN ?_
  refine wp_seq ?_
  refine wp_seq ?_
  refine wp_region_lit ?_
  refine st_rd (v := Value.pointer none) hA (by kernel_rfl) (by kernel_rfl) (by kernel_rfl) hW.cls (Rd.pure fun _ => by kernel_rfl) ?_; clear hA ac; intro ac hA
  refine st hA (by kernel_rfl) (by kernel_rfl) (by kernel_rfl) (Runs.callS (v := Value.bool true) (fun _ => by kernel_rfl) (e_none_nil w) ?_); clear hA ac; intro  ac hA
  refine wpList_nil ?_
  refine thenN ?_
  refine wp_cond_true (hA.eval (by kernel_rfl)) ?_
  refine wp_seq ?_
  refine wp_region_lit ?_
  refine st_rd (v := Value.int .i64 0) hA (by kernel_rfl) (by kernel_rfl) (by kernel_rfl) hW.cls (Rd.pure fun _ => by kernel_rfl) ?_; clear hA ac; intro ac hA
  refine wpList_nil ?_
  refine thenN ?_
  refine wp_ret ?_
  refine thenR ?_
  refine ret1 (v := Value.int .i64 0) (by rfl) hA (Got.tmp hA (by kernel_rfl) (by kernel_rfl)) ?_
  clear hA
  exact ⟨retv (by rfl), hW.fr⟩

set_option maxRecDepth 100000 in
theorem e_copy_nil  (w : World)  : Calls Try.prog 16 #[Value.pointer none] w (fun e w' => e = .returned (Value.pointer none) ∧ Fr No w w') := by
  refine enter_E 16 Try.func16 rfl rfl (by kernel_rfl) (L := [(0, Value.pointer none)]) (by kernel_rfl) ?_
  intro ac hA
  have hW := Ws.start w No
  refine wp_seq ?_
  refine wp_region_lit ?_
  refine st_rd (v := Value.pointer none) hA (by kernel_rfl) (by kernel_rfl) (by kernel_rfl) hW.cls (Rd.pure fun _ => by kernel_rfl) ?_; clear hA ac; intro ac hA
  refine wpList_nil ?_
  refine thenN ?_
  refine wp_seq ?_
  refine wp_seq ?_
  refine wp_region_lit ?_
  refine st_rd (v := Value.pointer none) hA (by kernel_rfl) (by kernel_rfl) (by kernel_rfl) hW.cls (Rd.pure fun _ => by kernel_rfl) ?_; clear hA ac; intro ac hA
  refine st hA (by kernel_rfl) (by kernel_rfl) (by kernel_rfl) (Runs.callS (v := Value.bool true) (fun _ => by kernel_rfl) (e_none_nil w) ?_); clear hA ac; intro  ac hA
  refine wpList_nil ?_
  refine thenN ?_
  refine wp_cond_true (hA.eval (by kernel_rfl)) ?_
  refine wp_seq ?_
  refine wp_region_lit ?_
  refine st_rd (v := Value.pointer none) hA (by kernel_rfl) (by kernel_rfl) (by kernel_rfl) hW.cls (Rd.pure fun _ => by kernel_rfl) ?_; clear hA ac; intro ac hA
  refine wpList_nil ?_
  refine thenN ?_
  refine wp_ret ?_
  refine thenR ?_
  refine ret1 (v := Value.pointer none) (by rfl) hA (Got.tmp hA (by kernel_rfl) (by kernel_rfl)) ?_
  clear hA
  exact ⟨retv (by rfl), hW.fr⟩

set_option maxRecDepth 100000 in
theorem e_same_nil  (w : World)  : Calls Try.prog 18 #[Value.pointer none, Value.pointer none] w (fun e w' => e = .returned (Value.bool true) ∧ Fr No w w') := by
  refine enter_E 37 Try.func18 rfl rfl (by kernel_rfl) (L := [(0, Value.pointer none), (1, Value.pointer none)]) (by kernel_rfl) ?_
  intro ac hA
  have hW := Ws.start w No
  refine wp_seq ?_
  refine wp_region_lit ?_
  refine st_rd (v := Value.bool false) hA (by kernel_rfl) (by kernel_rfl) (by kernel_rfl) hW.cls (Rd.pure fun _ => by kernel_rfl) ?_; clear hA ac; intro ac hA
  refine wpList_nil ?_
  refine thenN ?_
  refine wp_seq ?_
  refine wp_seq ?_
  refine wp_region_lit ?_
  refine st_rd (v := Value.pointer none) hA (by kernel_rfl) (by kernel_rfl) (by kernel_rfl) hW.cls (Rd.pure fun _ => by kernel_rfl) ?_; clear hA ac; intro ac hA
  refine st hA (by kernel_rfl) (by kernel_rfl) (by kernel_rfl) (Runs.callS (v := Value.bool true) (fun _ => by kernel_rfl) (e_none_nil w) ?_); clear hA ac; intro  ac hA
  refine st_rd (v := Value.bool true) hA (by kernel_rfl) (by kernel_rfl) (by kernel_rfl) hW.cls (Rd.pure fun _ => by kernel_rfl) ?_; clear hA ac; intro ac hA
  refine st_skip hA (by kernel_rfl) (by kernel_rfl) ?_; clear hA ac; intro ac hA
  refine st_skip hA (by kernel_rfl) (by kernel_rfl) ?_; clear hA ac; intro ac hA
  refine st_rd (v := Value.bool true) hA (by kernel_rfl) (by kernel_rfl) (by kernel_rfl) hW.cls (Rd.pure fun _ => by kernel_rfl) ?_; clear hA ac; intro ac hA
  refine wpList_nil ?_
  refine thenN ?_
  refine wp_cond_true (hA.eval (by kernel_rfl)) ?_
  refine wp_seq ?_
  refine wp_region_lit ?_
  refine st_rd (v := Value.pointer none) hA (by kernel_rfl) (by kernel_rfl) (by kernel_rfl) hW.cls (Rd.pure fun _ => by kernel_rfl) ?_; clear hA ac; intro ac hA
  refine st hA (by kernel_rfl) (by kernel_rfl) (by kernel_rfl) (Runs.callS (v := Value.bool true) (fun _ => by kernel_rfl) (e_none_nil w) ?_); clear hA ac; intro  ac hA
  refine st_rd (v := Value.bool true) hA (by kernel_rfl) (by kernel_rfl) (by kernel_rfl) hW.cls (Rd.pure fun _ => by kernel_rfl) ?_; clear hA ac; intro ac hA
  refine st_rd (v := Value.pointer none) hA (by kernel_rfl) (by kernel_rfl) (by kernel_rfl) hW.cls (Rd.pure fun _ => by kernel_rfl) ?_; clear hA ac; intro ac hA
  refine st hA (by kernel_rfl) (by kernel_rfl) (by kernel_rfl) (Runs.callS (v := Value.bool true) (fun _ => by kernel_rfl) (e_none_nil w) ?_); clear hA ac; intro  ac hA
  refine st_rd (v := Value.bool true) hA (by kernel_rfl) (by kernel_rfl) (by kernel_rfl) hW.cls (Rd.pure fun _ => by kernel_rfl) ?_; clear hA ac; intro ac hA
  refine st_rd (v := Value.bool true) hA (by kernel_rfl) (by kernel_rfl) (by kernel_rfl) hW.cls (Rd.pure fun _ => by kernel_rfl) ?_; clear hA ac; intro ac hA
  refine wpList_nil ?_
  refine thenN ?_
  refine wp_ret ?_
  refine thenR ?_
  refine ret1 (v := Value.bool true) (by rfl) hA (Got.tmp hA (by kernel_rfl) (by kernel_rfl)) ?_
  clear hA
  exact ⟨retv (by rfl), hW.fr⟩

set_option maxRecDepth 100000 in
theorem e_same_onil (m : Nat) (b : Nat) (h : List (Int × Int)) (many : Int) (w : World) (ho_m : (MutR m b h many).p w) (hl_m : ∀ x_ ∈ (MutR m b h many).fp, x_ < w.heap.size) : Calls Try.prog 18 #[Value.pointer (some ⟨m, 0, none⟩), Value.pointer none] w (fun e w' => e = .returned (Value.bool false) ∧ Fr No w w') := by
  have _hu := ho_m; have _hv := hl_m; clear _hu _hv
  refine enter_E 37 Try.func18 rfl rfl (by kernel_rfl) (L := [(0, Value.pointer (some ⟨m, 0, none⟩)), (1, Value.pointer none)]) (by kernel_rfl) ?_
  intro ac hA
  have hW := Ws.start w No
  have hW := hW.objG (L := [Cel m #[Value.map (some b), Value.int .i64 many] 54, mapR b (fun a : Int => Value.int .i64 a) (fun a : Int => Value.int .i64 a) h]) ho_m hl_m
  clear ho_m hl_m
  refine wp_seq ?_
  refine wp_region_lit ?_
  refine st_rd (v := Value.bool false) hA (by kernel_rfl) (by kernel_rfl) (by kernel_rfl) hW.cls (Rd.pure fun _ => by kernel_rfl) ?_; clear hA ac; intro ac hA
  refine wpList_nil ?_
  refine thenN ?_
  refine wp_seq ?_
  refine wp_seq ?_
  refine wp_region_lit ?_
  refine st_rd (v := Value.pointer (some ⟨m, 0, none⟩)) hA (by kernel_rfl) (by kernel_rfl) (by kernel_rfl) hW.cls (Rd.pure fun _ => by kernel_rfl) ?_; clear hA ac; intro ac hA
  refine st hA (by kernel_rfl) (by kernel_rfl) (by kernel_rfl) (Runs.callS (v := Value.bool false) (fun _ => by kernel_rfl) (e_none m b (many : Int) w (show _ = _ from (hW).getG 0 rfl)) ?_); clear hA ac; intro  ac hA
  refine st_rd (v := Value.bool false) hA (by kernel_rfl) (by kernel_rfl) (by kernel_rfl) hW.cls (Rd.pure fun _ => by kernel_rfl) ?_; clear hA ac; intro ac hA
  refine st_rd (v := Value.pointer none) hA (by kernel_rfl) (by kernel_rfl) (by kernel_rfl) hW.cls (Rd.pure fun _ => by kernel_rfl) ?_; clear hA ac; intro ac hA
  refine st hA (by kernel_rfl) (by kernel_rfl) (by kernel_rfl) (Runs.callS (v := Value.bool true) (fun _ => by kernel_rfl) (e_none_nil w) ?_); clear hA ac; intro  ac hA
  refine st_rd (v := Value.bool true) hA (by kernel_rfl) (by kernel_rfl) (by kernel_rfl) hW.cls (Rd.pure fun _ => by kernel_rfl) ?_; clear hA ac; intro ac hA
  refine wpList_nil ?_
  refine thenN ?_
  refine wp_cond_true (hA.eval (by kernel_rfl)) ?_
  refine wp_seq ?_
  refine wp_region_lit ?_
  refine st_rd (v := Value.pointer (some ⟨m, 0, none⟩)) hA (by kernel_rfl) (by kernel_rfl) (by kernel_rfl) hW.cls (Rd.pure fun _ => by kernel_rfl) ?_; clear hA ac; intro ac hA
  refine st hA (by kernel_rfl) (by kernel_rfl) (by kernel_rfl) (Runs.callS (v := Value.bool false) (fun _ => by kernel_rfl) (e_none m b (many : Int) w (show _ = _ from (hW).getG 0 rfl)) ?_); clear hA ac; intro  ac hA
  refine st_rd (v := Value.bool false) hA (by kernel_rfl) (by kernel_rfl) (by kernel_rfl) hW.cls (Rd.pure fun _ => by kernel_rfl) ?_; clear hA ac; intro ac hA
  refine st_skip hA (by kernel_rfl) (by kernel_rfl) ?_; clear hA ac; intro ac hA
  refine st_skip hA (by kernel_rfl) (by kernel_rfl) ?_; clear hA ac; intro ac hA
  refine st_rd (v := Value.bool false) hA (by kernel_rfl) (by kernel_rfl) (by kernel_rfl) hW.cls (Rd.pure fun _ => by kernel_rfl) ?_; clear hA ac; intro ac hA
  refine st_rd (v := Value.bool false) hA (by kernel_rfl) (by kernel_rfl) (by kernel_rfl) hW.cls (Rd.pure fun _ => by kernel_rfl) ?_; clear hA ac; intro ac hA
  refine wpList_nil ?_
  refine thenN ?_
  refine wp_ret ?_
  refine thenR ?_
  refine ret1 (v := Value.bool false) (by rfl) hA (Got.tmp hA (by kernel_rfl) (by kernel_rfl)) ?_
  clear hA
  exact ⟨retv (by rfl), hW.fr⟩

set_option maxRecDepth 100000 in
theorem e_held_nil  (w : World)  : Calls Try.prog 19 #[Value.pointer none] w (fun e w' => ∃ (lb : Array Value) (g : Res), e = .returned (Value.func (.func 32) #[] lb) ∧ Iter Try.prog 32 lb (fun x_ : Two => #[Value.int .i64 x_.a, Value.int .i64 x_.b]) (HeldOf ([] : List (Int × Int))) [g] ∧ g.from_ [] w w' ∧ Fr No w w') := by
  refine enter_E 28 Try.func19 rfl rfl (by kernel_rfl) (L := [(0, Value.pointer none)]) (by kernel_rfl) ?_
  intro ac hA
  have hW := Ws.start w No
  refine wp_seq ?_
  refine wp_region_lit ?_
  refine st_rd (v := Value.nilFunc) hA (by kernel_rfl) (by kernel_rfl) (by kernel_rfl) hW.cls (Rd.pure fun _ => by kernel_rfl) ?_; clear hA ac; intro ac hA
  refine wpList_nil ?_
  refine thenN ?_
  refine wp_seq ?_
  refine wp_region_lit ?_
  refine st hA (by kernel_rfl) (by kernel_rfl) (by kernel_rfl) (Runs.cells (fun b => Value.pointer (some ⟨b, 0, none⟩)) #[Value.slice none 0 0] 71 (fun _ => by kernel_rfl) hW ?_); clear hA ac hW; intro b1 w2 hW hb1 hfw2 ac hA
  refine wpList_nil ?_
  refine thenN ?_
  refine wp_seq ?_
  refine wp_seq ?_
  refine wp_region_lit ?_
  refine st_rd (v := Value.pointer none) hA (by kernel_rfl) (by kernel_rfl) (by kernel_rfl) hW.cls (Rd.pure fun _ => by kernel_rfl) ?_; clear hA ac; intro ac hA
  refine st hA (by kernel_rfl) (by kernel_rfl) (by kernel_rfl) (Runs.callS (v := Value.bool true) (fun _ => by kernel_rfl) (e_none_nil w2) ?_); clear hA ac; intro  ac hA
  refine st_rd (v := Value.bool false) hA (by kernel_rfl) (by kernel_rfl) (by kernel_rfl) hW.cls (Rd.pure fun _ => by kernel_rfl) ?_; clear hA ac; intro ac hA
  refine wpList_nil ?_
  refine thenN ?_
  refine wp_cond_false (hA.eval (by kernel_rfl)) ?_
  refine wp_skip ?_
  refine thenN ?_
  refine wp_seq ?_
  have hW := hW.addNil 72 2 enTwo
  have hp_ : (([] : List Two).map Two.pair).Perm ([] : List (Int × Int)) := List.Perm.refl _; have hb : ∀ x ∈ ([] : List (Int × Int)), 0 ≤ x.1 ∧ x.1 ≤ 65535 := by simp
  refine wp_region_lit ?_
  refine st_rd (v := Value.slice none 0 0) hA (by kernel_rfl) (by kernel_rfl) (by kernel_rfl) hW.cls (Rd.load (b := b1) (i := 0) (by kernel_rfl) (fun _ hw => (hw.1).cel 1 rfl) (by kernel_rfl)) ?_; clear hA ac; intro ac hA
  refine st hA (by kernel_rfl) (by kernel_rfl) (by kernel_rfl) (Runs.call (fun _ => by kernel_rfl) (e_sorted (A := none) (c := 0) (l := ([] : List Two)) w2 (hW.get 0 rfl) (by have := hp_.length_eq; simp at this; first | omega | simp) (fun x hx => hb _ ((hp_.mem_iff (a := x.pair)).1 (List.mem_map.2 ⟨x, hx, rfl⟩)))) ?_)
  rintro _ w3 ⟨rfl, l4, hperm_, hsort_, hu_⟩; refine ⟨_, rfl, ?_⟩; have hlen_ := hperm_.length_eq; replace hW := hW.upd 0 rfl hu_ rfl; rw [← hlen_] at hW ⊢; clear hA ac; intro ac hA
  refine st hA (by kernel_rfl) (by kernel_rfl) (by kernel_rfl) (Runs.store (v := Value.slice none l4.length 0) (b := b1) (j := 0) (n := 1) (cs' := #[Value.slice none l4.length 0]) (H' := [rowR 72 2 enTwo (Value.slice none l4.length 0) l4, Cel b1 #[Value.slice none l4.length 0] 71]) (by kernel_rfl) (by kernel_rfl) (by kernel_rfl) (by kernel_rfl) (by kernel_rfl) hW 1 (by rfl) (Nat.le_of_ble_eq_true (by kernel_rfl)) (by kernel_rfl) (by rfl) ?_); clear hA ac hW; intro w5 hW ac hA
  refine wpList_nil ?_
  refine thenN ?_
  refine wp_seq ?_
  refine wp_region_lit ?_
  refine st_rd (v := Value.func (.func 32) #[] #[Value.pointer (some ⟨b1, 0, none⟩)]) hA (by kernel_rfl) (by kernel_rfl) (by kernel_rfl) hW.cls (Rd.pure fun _ => by kernel_rfl) ?_; clear hA ac; intro ac hA
  refine st_rd (v := Value.func (.func 32) #[] #[Value.pointer (some ⟨b1, 0, none⟩)]) hA (by kernel_rfl) (by kernel_rfl) (by kernel_rfl) hW.cls (Rd.pure fun _ => by kernel_rfl) ?_; clear hA ac; intro ac hA
  refine wpList_nil ?_
  refine thenN ?_
  refine wp_ret ?_
  refine ret1 (v := Value.func (.func 32) #[] #[Value.pointer (some ⟨b1, 0, none⟩)]) (by rfl) hA (Got.tmp hA (by kernel_rfl) (by kernel_rfl)) ?_
  clear hA
  exact ⟨_, _, rfl, iter_weak (iter_many (it_32 b1 _ _ l4 (own_cap (hW.get 0 rfl)) (by first | (have := hp_.length_eq; simp at this; omega) | (have h2_ := hperm_.length_eq; simp only [List.length_nil] at h2_; omega)))) ⟨(hperm_.map _).trans hp_, hsort_⟩, from_many (froms_cons (hW.outOwn 1 rfl (fun _ h => h)) (froms_cons (hW.outRow 0 rfl elt_Two.len (fun _ h => h)) froms_nil)), hW.fr⟩

set_option maxRecDepth 100000 in
theorem e_none_z (m : Nat) (w : World) (ho_m : w.heap[m]? = some (.cells #[Value.map none, Value.int .i64 0] 54 (0, 0))) : Calls Try.prog 22 #[Value.pointer (some ⟨m, 0, none⟩)] w (fun e w' => e = .returned (Value.bool true) ∧ w = w') := by
  have _hu := ho_m; clear _hu
  refine enter_E 12 Try.func22 rfl rfl (by kernel_rfl) (L := [(0, Value.pointer (some ⟨m, 0, none⟩))]) (by kernel_rfl) ?_
  intro ac hA
  have hW := Ws.start w No
  have hW := hW.celG ho_m
  refine wp_seq ?_
  refine wp_region_lit ?_
  refine st_rd (v := Value.bool false) hA (by kernel_rfl) (by kernel_rfl) (by kernel_rfl) hW.cls (Rd.pure fun _ => by kernel_rfl) ?_; clear hA ac; intro ac hA
  refine wpList_nil ?_
  refine thenN ?_
  refine wp_seq ?_
  refine wp_region_lit ?_
  refine st_rd (v := Value.pointer (some ⟨m, 0, none⟩)) hA (by kernel_rfl) (by kernel_rfl) (by kernel_rfl) hW.cls (Rd.pure fun _ => by kernel_rfl) ?_; clear hA ac; intro ac hA
  refine st_rd (v := Value.bool false) hA (by kernel_rfl) (by kernel_rfl) (by kernel_rfl) hW.cls (Rd.pure fun _ => by kernel_rfl) ?_; clear hA ac; intro ac hA
  refine st_rd (v := Value.bool false) hA (by kernel_rfl) (by kernel_rfl) (by kernel_rfl) hW.cls (Rd.pure fun _ => by kernel_rfl) ?_; clear hA ac; intro ac hA
  refine st_rd (v := Value.pointer (some ⟨m, 0, none⟩)) hA (by kernel_rfl) (by kernel_rfl) (by kernel_rfl) hW.cls (Rd.pure fun _ => by kernel_rfl) ?_; clear hA ac; intro ac hA
  refine st_rd (v := Value.pointer (some ⟨m, 0, none⟩)) hA (by kernel_rfl) (by kernel_rfl) (by kernel_rfl) hW.cls (Rd.pure fun _ => by kernel_rfl) ?_; clear hA ac; intro ac hA
  refine st_rd (v := Value.pointer (some ⟨m, 0, none⟩)) hA (by kernel_rfl) (by kernel_rfl) (by kernel_rfl) hW.cls (Rd.pure fun _ => by kernel_rfl) ?_; clear hA ac; intro ac hA
  refine st_rd (v := Value.map none) hA (by kernel_rfl) (by kernel_rfl) (by kernel_rfl) hW.cls (Rd.load (b := m) (i := 0) (by kernel_rfl) (fun _ hw => show _ = _ from (hw.1).getG 0 rfl) (by kernel_rfl)) ?_; clear hA ac; intro ac hA
  refine st_rd (v := Value.bool true) hA (by kernel_rfl) (by kernel_rfl) (by kernel_rfl) hW.cls (Rd.pure fun _ => by kernel_rfl) ?_; clear hA ac; intro ac hA
  refine st_rd (v := Value.bool true) hA (by kernel_rfl) (by kernel_rfl) (by kernel_rfl) hW.cls (Rd.pure fun _ => by kernel_rfl) ?_; clear hA ac; intro ac hA
  refine st_rd (v := Value.bool true) hA (by kernel_rfl) (by kernel_rfl) (by kernel_rfl) hW.cls (Rd.pure fun _ => by kernel_rfl) ?_; clear hA ac; intro ac hA
  refine wpList_nil ?_
  refine thenN ?_
  refine wp_ret ?_
  refine ret1 (v := Value.bool true) (by rfl) hA (Got.tmp hA (by kernel_rfl) (by kernel_rfl)) ?_
  clear hA
  exact ⟨retv (by rfl), rfl⟩

set_option maxRecDepth 100000 in
theorem e_lock_z (m : Nat) (i : Int) (by_ : Int) (w : World) (ho_m : w.heap[m]? = some (.cells #[Value.map none, Value.int .i64 0] 54 (0, 0))) : Calls Try.prog 10 #[Value.pointer (some ⟨m, 0, none⟩), Value.int .i64 i, Value.int .i64 by_] w (fun e w' => e = .returned (Value.int .i64 1) ∧ Fr No w w') := by
  have _hu := ho_m; clear _hu
  refine enter_E 39 Try.func10 rfl rfl (by kernel_rfl) (L := [(0, Value.pointer (some ⟨m, 0, none⟩)), (1, Value.int .i64 i), (2, Value.int .i64 by_)]) (by kernel_rfl) ?_
  intro ac hA
  have hW := Ws.start w No
  have hW := hW.celG ho_m
  refine wp_seq ?_
  refine wp_region_lit ?_
  refine st_rd (v := Value.int .i64 0) hA (by kernel_rfl) (by kernel_rfl) (by kernel_rfl) hW.cls (Rd.pure fun _ => by kernel_rfl) ?_; clear hA ac; intro ac hA
  refine wpList_nil ?_
  refine thenN ?_
  refine wp_fwd (l := 0) rfl ?_
  refine wp_seq ?_
  refine wp_region_lit ?_
  refine st_rd (v := Value.int .i64 by_) hA (by kernel_rfl) (by kernel_rfl) (by kernel_rfl) hW.cls (Rd.pure fun _ => by kernel_rfl) ?_; clear hA ac; intro ac hA
  refine st_rd (v := Value.agg #[Value.int .i64 by_, Value.int .i64 65535]) hA (by kernel_rfl) (by kernel_rfl) (by kernel_rfl) hW.cls (Rd.pure fun _ => by kernel_rfl) ?_; clear hA ac; intro ac hA
  refine st_rd (v := Value.agg #[Value.int .i64 by_, Value.int .i64 65535]) hA (by kernel_rfl) (by kernel_rfl) (by kernel_rfl) hW.cls (Rd.pure fun _ => by kernel_rfl) ?_; clear hA ac; intro ac hA
  refine st hA (by kernel_rfl) (by kernel_rfl) (by kernel_rfl) (Runs.cells (fun b => Value.pointer (some ⟨b, 0, none⟩)) #[Value.int .i64 0, Value.int .i64 0] 64 (fun _ => by kernel_rfl) hW ?_); clear hA ac hW; intro b1 w2 hW hb1 hfw2 ac hA
  refine st hA (by kernel_rfl) (by kernel_rfl) (by kernel_rfl) (Runs.store (v := Value.agg #[Value.int .i64 by_, Value.int .i64 65535]) (b := b1) (j := 0) (n := 2) (cs' := #[Value.int .i64 by_, Value.int .i64 65535]) (H' := [Cel b1 #[Value.int .i64 by_, Value.int .i64 65535] 64]) (by kernel_rfl) (by kernel_rfl) (by kernel_rfl) (by kernel_rfl) (by kernel_rfl) hW 0 (by rfl) (Nat.le_of_ble_eq_true (by kernel_rfl)) (by kernel_rfl) (by rfl) ?_); clear hA ac hW; intro w3 hW ac hA
  refine wpList_nil ?_
  refine thenN ?_
  refine wp_seq ?_
  refine wp_seq ?_
  refine wp_region_lit ?_
  refine st_rd (v := Value.int .i64 1) hA (by kernel_rfl) (by kernel_rfl) (by kernel_rfl) hW.cls (Rd.pure fun _ => by kernel_rfl) ?_; clear hA ac; intro ac hA
  refine wpList_nil ?_
  refine thenN ?_
  refine wp_seq ?_
  refine wp_region_lit ?_
  refine st_rd (v := Value.pointer (some ⟨m, 0, none⟩)) hA (by kernel_rfl) (by kernel_rfl) (by kernel_rfl) hW.cls (Rd.pure fun _ => by kernel_rfl) ?_; clear hA ac; intro ac hA
  refine st hA (by kernel_rfl) (by kernel_rfl) (by kernel_rfl) (Runs.callS (v := Value.bool true) (fun _ => by kernel_rfl) (e_none_z m w3 (show _ = _ from (hW).getG 0 rfl)) ?_); clear hA ac; intro  ac hA
  refine wpList_nil ?_
  refine thenN ?_
  refine wp_cond_true (hA.eval (by kernel_rfl)) ?_
  refine wp_goto ?_
  refine thenG ?_
  refine fwdG ?_
  refine wp_seq ?_
  refine wp_skip ?_
  refine thenN ?_
  refine wp_seq ?_
  refine wp_region_lit ?_
  refine st_rd (v := Value.int .i64 1) hA (by kernel_rfl) (by kernel_rfl) (by kernel_rfl) hW.cls (Rd.pure fun _ => by kernel_rfl) ?_; clear hA ac; intro ac hA
  refine st_rd (v := Value.int .i64 1) hA (by kernel_rfl) (by kernel_rfl) (by kernel_rfl) hW.cls (Rd.pure fun _ => by kernel_rfl) ?_; clear hA ac; intro ac hA
  refine wpList_nil ?_
  refine thenN ?_
  refine wp_ret ?_
  refine nogR ?_
  refine ret1 (v := Value.int .i64 1) (by rfl) hA (Got.tmp hA (by kernel_rfl) (by kernel_rfl)) ?_
  clear hA
  exact ⟨retv (by rfl), hW.fr⟩

set_option maxRecDepth 100000 in
theorem e_unlock_z (m : Nat) (i : Int) (w : World) (ho_m : w.heap[m]? = some (.cells #[Value.map none, Value.int .i64 0] 54 (0, 0))) : Calls Try.prog 11 #[Value.pointer (some ⟨m, 0, none⟩), Value.int .i64 i] w (fun e w' => e = .returned (Value.tuple #[Value.int .i64 0, Value.int .i64 1]) ∧ Fr No w w') := by
  have _hu := ho_m; clear _hu
  refine enter_E 31 Try.func11 rfl rfl (by kernel_rfl) (L := [(0, Value.pointer (some ⟨m, 0, none⟩)), (1, Value.int .i64 i)]) (by kernel_rfl) ?_
  intro ac hA
  have hW := Ws.start w No
  have hW := hW.celG ho_m
  refine wp_seq ?_
  refine wp_region_lit ?_
  refine st_rd (v := Value.int .i64 0) hA (by kernel_rfl) (by kernel_rfl) (by kernel_rfl) hW.cls (Rd.pure fun _ => by kernel_rfl) ?_; clear hA ac; intro ac hA
  refine st_rd (v := Value.int .i64 0) hA (by kernel_rfl) (by kernel_rfl) (by kernel_rfl) hW.cls (Rd.pure fun _ => by kernel_rfl) ?_; clear hA ac; intro ac hA
  refine wpList_nil ?_
  refine thenN ?_
  refine wp_fwd (l := 0) rfl ?_
  refine wp_seq ?_
  refine wp_region_lit ?_
  refine st_rd (v := Value.bool false) hA (by kernel_rfl) (by kernel_rfl) (by kernel_rfl) hW.cls (Rd.pure fun _ => by kernel_rfl) ?_; clear hA ac; intro ac hA
  refine wpList_nil ?_
  refine thenN ?_
  refine wp_seq ?_
  refine wp_seq ?_
  refine wp_region_lit ?_
  refine st_rd (v := Value.int .i64 1) hA (by kernel_rfl) (by kernel_rfl) (by kernel_rfl) hW.cls (Rd.pure fun _ => by kernel_rfl) ?_; clear hA ac; intro ac hA
  refine wpList_nil ?_
  refine thenN ?_
  refine wp_seq ?_
  refine wp_region_lit ?_
  refine st_rd (v := Value.pointer (some ⟨m, 0, none⟩)) hA (by kernel_rfl) (by kernel_rfl) (by kernel_rfl) hW.cls (Rd.pure fun _ => by kernel_rfl) ?_; clear hA ac; intro ac hA
  refine st hA (by kernel_rfl) (by kernel_rfl) (by kernel_rfl) (Runs.callS (v := Value.bool true) (fun _ => by kernel_rfl) (e_none_z m w (show _ = _ from (hW).getG 0 rfl)) ?_); clear hA ac; intro  ac hA
  refine wpList_nil ?_
  refine thenN ?_
  refine wp_cond_true (hA.eval (by kernel_rfl)) ?_
  refine wp_goto ?_
  refine thenG ?_
  refine fwdG ?_
  refine wp_seq ?_
  refine wp_skip ?_
  refine thenN ?_
  refine wp_seq ?_
  refine wp_region_lit ?_
  refine st_rd (v := Value.int .i64 1) hA (by kernel_rfl) (by kernel_rfl) (by kernel_rfl) hW.cls (Rd.pure fun _ => by kernel_rfl) ?_; clear hA ac; intro ac hA
  refine st_rd (v := Value.int .i64 0) hA (by kernel_rfl) (by kernel_rfl) (by kernel_rfl) hW.cls (Rd.pure fun _ => by kernel_rfl) ?_; clear hA ac; intro ac hA
  refine st_rd (v := Value.int .i64 1) hA (by kernel_rfl) (by kernel_rfl) (by kernel_rfl) hW.cls (Rd.pure fun _ => by kernel_rfl) ?_; clear hA ac; intro ac hA
  refine wpList_nil ?_
  refine thenN ?_
  refine wp_ret ?_
  refine nogR ?_
  refine ret2 (v1 := Value.int .i64 0) (v2 := Value.int .i64 1) (by rfl) hA (Got.tmp hA (by kernel_rfl) (by kernel_rfl)) (Got.tmp hA (by kernel_rfl) (by kernel_rfl)) ?_
  clear hA
  exact ⟨retv (by rfl), hW.fr⟩

set_option maxRecDepth 100000 in
theorem e_holder_z (m : Nat) (i : Int) (w : World) (ho_m : w.heap[m]? = some (.cells #[Value.map none, Value.int .i64 0] 54 (0, 0))) : Calls Try.prog 12 #[Value.pointer (some ⟨m, 0, none⟩), Value.int .i64 i] w (fun e w' => e = .returned (Value.tuple #[Value.int .i64 0, Value.bool false]) ∧ Fr No w w') := by
  have _hu := ho_m; clear _hu
  refine enter_E 16 Try.func12 rfl rfl (by kernel_rfl) (L := [(0, Value.pointer (some ⟨m, 0, none⟩)), (1, Value.int .i64 i)]) (by kernel_rfl) ?_
  intro ac hA
  have hW := Ws.start w No
  have hW := hW.celG ho_m
  refine wp_seq ?_
  refine wp_region_lit ?_
  refine st_rd (v := Value.int .i64 0) hA (by kernel_rfl) (by kernel_rfl) (by kernel_rfl) hW.cls (Rd.pure fun _ => by kernel_rfl) ?_; clear hA ac; intro ac hA
  refine st_rd (v := Value.bool false) hA (by kernel_rfl) (by kernel_rfl) (by kernel_rfl) hW.cls (Rd.pure fun _ => by kernel_rfl) ?_; clear hA ac; intro ac hA
  refine wpList_nil ?_
  refine thenN ?_
  refine wp_seq ?_
  refine wp_seq ?_
  refine wp_region_lit ?_
  refine st_rd (v := Value.pointer (some ⟨m, 0, none⟩)) hA (by kernel_rfl) (by kernel_rfl) (by kernel_rfl) hW.cls (Rd.pure fun _ => by kernel_rfl) ?_; clear hA ac; intro ac hA
  refine st hA (by kernel_rfl) (by kernel_rfl) (by kernel_rfl) (Runs.callS (v := Value.bool true) (fun _ => by kernel_rfl) (e_none_z m w (show _ = _ from (hW).getG 0 rfl)) ?_); clear hA ac; intro  ac hA
  refine wpList_nil ?_
  refine thenN ?_
  refine wp_cond_true (hA.eval (by kernel_rfl)) ?_
  refine wp_seq ?_
  refine wp_region_lit ?_
  refine st_rd (v := Value.int .i64 0) hA (by kernel_rfl) (by kernel_rfl) (by kernel_rfl) hW.cls (Rd.pure fun _ => by kernel_rfl) ?_; clear hA ac; intro ac hA
  refine st_rd (v := Value.bool false) hA (by kernel_rfl) (by kernel_rfl) (by kernel_rfl) hW.cls (Rd.pure fun _ => by kernel_rfl) ?_; clear hA ac; intro ac hA
  refine wpList_nil ?_
  refine thenN ?_
  refine wp_ret ?_
  refine thenR ?_
  refine ret2 (v1 := Value.int .i64 0) (v2 := Value.bool false) (by rfl) hA (Got.tmp hA (by kernel_rfl) (by kernel_rfl)) (Got.tmp hA (by kernel_rfl) (by kernel_rfl)) ?_
  clear hA
  exact ⟨retv (by rfl), hW.fr⟩

set_option maxRecDepth 100000 in
theorem e_len_z (m : Nat) (w : World) (ho_m : w.heap[m]? = some (.cells #[Value.map none, Value.int .i64 0] 54 (0, 0))) : Calls Try.prog 20 #[Value.pointer (some ⟨m, 0, none⟩)] w (fun e w' => e = .returned (Value.int .i64 0) ∧ Fr No w w') := by
  have _hu := ho_m; clear _hu
  refine enter_E 9 Try.func20 rfl rfl (by kernel_rfl) (L := [(0, Value.pointer (some ⟨m, 0, none⟩))]) (by kernel_rfl) ?_
  intro ac hA
  have hW := Ws.start w No
  have hW := hW.celG ho_m
  refine wp_seq ?_
  refine wp_region_lit ?_
  refine st_rd (v := Value.int .i64 0) hA (by kernel_rfl) (by kernel_rfl) (by kernel_rfl) hW.cls (Rd.pure fun _ => by kernel_rfl) ?_; clear hA ac; intro ac hA
  refine wpList_nil ?_
  refine thenN ?_
  refine wp_seq ?_
  refine wp_seq ?_
  refine wp_region_lit ?_
  refine st_rd (v := Value.pointer (some ⟨m, 0, none⟩)) hA (by kernel_rfl) (by kernel_rfl) (by kernel_rfl) hW.cls (Rd.pure fun _ => by kernel_rfl) ?_; clear hA ac; intro ac hA
  refine st hA (by kernel_rfl) (by kernel_rfl) (by kernel_rfl) (Runs.callS (v := Value.bool true) (fun _ => by kernel_rfl) (e_none_z m w (show _ = _ from (hW).getG 0 rfl)) ?_); clear hA ac; intro  ac hA
  refine wpList_nil ?_
  refine thenN ?_
  refine wp_cond_true (hA.eval (by kernel_rfl)) ?_
  refine wp_seq ?_
  refine wp_region_lit ?_
  refine st_rd (v := Value.int .i64 0) hA (by kernel_rfl) (by kernel_rfl) (by kernel_rfl) hW.cls (Rd.pure fun _ => by kernel_rfl) ?_; clear hA ac; intro ac hA
  refine wpList_nil ?_
  refine thenN ?_
  refine wp_ret ?_
  refine thenR ?_
  refine ret1 (v := Value.int .i64 0) (by rfl) hA (Got.tmp hA (by kernel_rfl) (by kernel_rfl)) ?_
  clear hA
  exact ⟨retv (by rfl), hW.fr⟩

set_option maxRecDepth 100000 in
theorem e_copy_z (m : Nat) (w : World) (ho_m : w.heap[m]? = some (.cells #[Value.map none, Value.int .i64 0] 54 (0, 0))) : Calls Try.prog 16 #[Value.pointer (some ⟨m, 0, none⟩)] w (fun e w' => e = .returned (Value.pointer none) ∧ Fr No w w') := by
  have _hu := ho_m; clear _hu
  refine enter_E 16 Try.func16 rfl rfl (by kernel_rfl) (L := [(0, Value.pointer (some ⟨m, 0, none⟩))]) (by kernel_rfl) ?_
  intro ac hA
  have hW := Ws.start w No
  have hW := hW.celG ho_m
  refine wp_seq ?_
  refine wp_region_lit ?_
  refine st_rd (v := Value.pointer none) hA (by kernel_rfl) (by kernel_rfl) (by kernel_rfl) hW.cls (Rd.pure fun _ => by kernel_rfl) ?_; clear hA ac; intro ac hA
  refine wpList_nil ?_
  refine thenN ?_
  refine wp_seq ?_
  refine wp_seq ?_
  refine wp_region_lit ?_
  refine st_rd (v := Value.pointer (some ⟨m, 0, none⟩)) hA (by kernel_rfl) (by kernel_rfl) (by kernel_rfl) hW.cls (Rd.pure fun _ => by kernel_rfl) ?_; clear hA ac; intro ac hA
  refine st hA (by kernel_rfl) (by kernel_rfl) (by kernel_rfl) (Runs.callS (v := Value.bool true) (fun _ => by kernel_rfl) (e_none_z m w (show _ = _ from (hW).getG 0 rfl)) ?_); clear hA ac; intro  ac hA
  refine wpList_nil ?_
  refine thenN ?_
  refine wp_cond_true (hA.eval (by kernel_rfl)) ?_
  refine wp_seq ?_
  refine wp_region_lit ?_
  refine st_rd (v := Value.pointer none) hA (by kernel_rfl) (by kernel_rfl) (by kernel_rfl) hW.cls (Rd.pure fun _ => by kernel_rfl) ?_; clear hA ac; intro ac hA
  refine wpList_nil ?_
  refine thenN ?_
  refine wp_ret ?_
  refine thenR ?_
  refine ret1 (v := Value.pointer none) (by rfl) hA (Got.tmp hA (by kernel_rfl) (by kernel_rfl)) ?_
  clear hA
  exact ⟨retv (by rfl), hW.fr⟩

set_option maxRecDepth 100000 in
theorem e_same_z (m : Nat) (w : World) (ho_m : w.heap[m]? = some (.cells #[Value.map none, Value.int .i64 0] 54 (0, 0))) : Calls Try.prog 18 #[Value.pointer (some ⟨m, 0, none⟩), Value.pointer none] w (fun e w' => e = .returned (Value.bool true) ∧ Fr No w w') := by
  have _hu := ho_m; clear _hu
  refine enter_E 37 Try.func18 rfl rfl (by kernel_rfl) (L := [(0, Value.pointer (some ⟨m, 0, none⟩)), (1, Value.pointer none)]) (by kernel_rfl) ?_
  intro ac hA
  have hW := Ws.start w No
  have hW := hW.celG ho_m
  refine wp_seq ?_
  refine wp_region_lit ?_
  refine st_rd (v := Value.bool false) hA (by kernel_rfl) (by kernel_rfl) (by kernel_rfl) hW.cls (Rd.pure fun _ => by kernel_rfl) ?_; clear hA ac; intro ac hA
  refine wpList_nil ?_
  refine thenN ?_
  refine wp_seq ?_
  refine wp_seq ?_
  refine wp_region_lit ?_
  refine st_rd (v := Value.pointer (some ⟨m, 0, none⟩)) hA (by kernel_rfl) (by kernel_rfl) (by kernel_rfl) hW.cls (Rd.pure fun _ => by kernel_rfl) ?_; clear hA ac; intro ac hA
  refine st hA (by kernel_rfl) (by kernel_rfl) (by kernel_rfl) (Runs.callS (v := Value.bool true) (fun _ => by kernel_rfl) (e_none_z m w (show _ = _ from (hW).getG 0 rfl)) ?_); clear hA ac; intro  ac hA
  refine st_rd (v := Value.bool true) hA (by kernel_rfl) (by kernel_rfl) (by kernel_rfl) hW.cls (Rd.pure fun _ => by kernel_rfl) ?_; clear hA ac; intro ac hA
  refine st_skip hA (by kernel_rfl) (by kernel_rfl) ?_; clear hA ac; intro ac hA
  refine st_skip hA (by kernel_rfl) (by kernel_rfl) ?_; clear hA ac; intro ac hA
  refine st_rd (v := Value.bool true) hA (by kernel_rfl) (by kernel_rfl) (by kernel_rfl) hW.cls (Rd.pure fun _ => by kernel_rfl) ?_; clear hA ac; intro ac hA
  refine wpList_nil ?_
  refine thenN ?_
  refine wp_cond_true (hA.eval (by kernel_rfl)) ?_
  refine wp_seq ?_
  refine wp_region_lit ?_
  refine st_rd (v := Value.pointer (some ⟨m, 0, none⟩)) hA (by kernel_rfl) (by kernel_rfl) (by kernel_rfl) hW.cls (Rd.pure fun _ => by kernel_rfl) ?_; clear hA ac; intro ac hA
  refine st hA (by kernel_rfl) (by kernel_rfl) (by kernel_rfl) (Runs.callS (v := Value.bool true) (fun _ => by kernel_rfl) (e_none_z m w (show _ = _ from (hW).getG 0 rfl)) ?_); clear hA ac; intro  ac hA
  refine st_rd (v := Value.bool true) hA (by kernel_rfl) (by kernel_rfl) (by kernel_rfl) hW.cls (Rd.pure fun _ => by kernel_rfl) ?_; clear hA ac; intro ac hA
  refine st_rd (v := Value.pointer none) hA (by kernel_rfl) (by kernel_rfl) (by kernel_rfl) hW.cls (Rd.pure fun _ => by kernel_rfl) ?_; clear hA ac; intro ac hA
  refine st hA (by kernel_rfl) (by kernel_rfl) (by kernel_rfl) (Runs.callS (v := Value.bool true) (fun _ => by kernel_rfl) (e_none_nil w) ?_); clear hA ac; intro  ac hA
  refine st_rd (v := Value.bool true) hA (by kernel_rfl) (by kernel_rfl) (by kernel_rfl) hW.cls (Rd.pure fun _ => by kernel_rfl) ?_; clear hA ac; intro ac hA
  refine st_rd (v := Value.bool true) hA (by kernel_rfl) (by kernel_rfl) (by kernel_rfl) hW.cls (Rd.pure fun _ => by kernel_rfl) ?_; clear hA ac; intro ac hA
  refine wpList_nil ?_
  refine thenN ?_
  refine wp_ret ?_
  refine thenR ?_
  refine ret1 (v := Value.bool true) (by rfl) hA (Got.tmp hA (by kernel_rfl) (by kernel_rfl)) ?_
  clear hA
  exact ⟨retv (by rfl), hW.fr⟩

set_option maxRecDepth 100000 in
theorem e_same_oz (m : Nat) (b : Nat) (h : List (Int × Int)) (many : Int) (n : Nat) (w : World) (ho_m : (MutR m b h many).p w) (hl_m : ∀ x_ ∈ (MutR m b h many).fp, x_ < w.heap.size) (ho_n : w.heap[n]? = some (.cells #[Value.map none, Value.int .i64 0] 54 (0, 0))) : Calls Try.prog 18 #[Value.pointer (some ⟨m, 0, none⟩), Value.pointer (some ⟨n, 0, none⟩)] w (fun e w' => e = .returned (Value.bool false) ∧ Fr No w w') := by
  have _hu := ho_n; clear _hu
  have _hu := ho_m; have _hv := hl_m; clear _hu _hv
  refine enter_E 37 Try.func18 rfl rfl (by kernel_rfl) (L := [(0, Value.pointer (some ⟨m, 0, none⟩)), (1, Value.pointer (some ⟨n, 0, none⟩))]) (by kernel_rfl) ?_
  intro ac hA
  have hW := Ws.start w No
  have hW := hW.celG ho_n
  have hW := hW.objG (L := [Cel m #[Value.map (some b), Value.int .i64 many] 54, mapR b (fun a : Int => Value.int .i64 a) (fun a : Int => Value.int .i64 a) h]) ho_m hl_m
  clear ho_m hl_m
  refine wp_seq ?_
  refine wp_region_lit ?_
  refine st_rd (v := Value.bool false) hA (by kernel_rfl) (by kernel_rfl) (by kernel_rfl) hW.cls (Rd.pure fun _ => by kernel_rfl) ?_; clear hA ac; intro ac hA
  refine wpList_nil ?_
  refine thenN ?_
  refine wp_seq ?_
  refine wp_seq ?_
  refine wp_region_lit ?_
  refine st_rd (v := Value.pointer (some ⟨m, 0, none⟩)) hA (by kernel_rfl) (by kernel_rfl) (by kernel_rfl) hW.cls (Rd.pure fun _ => by kernel_rfl) ?_; clear hA ac; intro ac hA
  refine st hA (by kernel_rfl) (by kernel_rfl) (by kernel_rfl) (Runs.callS (v := Value.bool false) (fun _ => by kernel_rfl) (e_none m b (many : Int) w (show _ = _ from (hW).getG 0 rfl)) ?_); clear hA ac; intro  ac hA
  refine st_rd (v := Value.bool false) hA (by kernel_rfl) (by kernel_rfl) (by kernel_rfl) hW.cls (Rd.pure fun _ => by kernel_rfl) ?_; clear hA ac; intro ac hA
  refine st_rd (v := Value.pointer (some ⟨n, 0, none⟩)) hA (by kernel_rfl) (by kernel_rfl) (by kernel_rfl) hW.cls (Rd.pure fun _ => by kernel_rfl) ?_; clear hA ac; intro ac hA
  refine st hA (by kernel_rfl) (by kernel_rfl) (by kernel_rfl) (Runs.callS (v := Value.bool true) (fun _ => by kernel_rfl) (e_none_z n w (show _ = _ from (hW).getG 2 rfl)) ?_); clear hA ac; intro  ac hA
  refine st_rd (v := Value.bool true) hA (by kernel_rfl) (by kernel_rfl) (by kernel_rfl) hW.cls (Rd.pure fun _ => by kernel_rfl) ?_; clear hA ac; intro ac hA
  refine wpList_nil ?_
  refine thenN ?_
  refine wp_cond_true (hA.eval (by kernel_rfl)) ?_
  refine wp_seq ?_
  refine wp_region_lit ?_
  refine st_rd (v := Value.pointer (some ⟨m, 0, none⟩)) hA (by kernel_rfl) (by kernel_rfl) (by kernel_rfl) hW.cls (Rd.pure fun _ => by kernel_rfl) ?_; clear hA ac; intro ac hA
  refine st hA (by kernel_rfl) (by kernel_rfl) (by kernel_rfl) (Runs.callS (v := Value.bool false) (fun _ => by kernel_rfl) (e_none m b (many : Int) w (show _ = _ from (hW).getG 0 rfl)) ?_); clear hA ac; intro  ac hA
  refine st_rd (v := Value.bool false) hA (by kernel_rfl) (by kernel_rfl) (by kernel_rfl) hW.cls (Rd.pure fun _ => by kernel_rfl) ?_; clear hA ac; intro ac hA
  refine st_skip hA (by kernel_rfl) (by kernel_rfl) ?_; clear hA ac; intro ac hA
  refine st_skip hA (by kernel_rfl) (by kernel_rfl) ?_; clear hA ac; intro ac hA
  refine st_rd (v := Value.bool false) hA (by kernel_rfl) (by kernel_rfl) (by kernel_rfl) hW.cls (Rd.pure fun _ => by kernel_rfl) ?_; clear hA ac; intro ac hA
  refine st_rd (v := Value.bool false) hA (by kernel_rfl) (by kernel_rfl) (by kernel_rfl) hW.cls (Rd.pure fun _ => by kernel_rfl) ?_; clear hA ac; intro ac hA
  refine wpList_nil ?_
  refine thenN ?_
  refine wp_ret ?_
  refine thenR ?_
  refine ret1 (v := Value.bool false) (by rfl) hA (Got.tmp hA (by kernel_rfl) (by kernel_rfl)) ?_
  clear hA
  exact ⟨retv (by rfl), hW.fr⟩

set_option maxRecDepth 100000 in
theorem e_held_z (m : Nat) (w : World) (ho_m : w.heap[m]? = some (.cells #[Value.map none, Value.int .i64 0] 54 (0, 0))) : Calls Try.prog 19 #[Value.pointer (some ⟨m, 0, none⟩)] w (fun e w' => ∃ (lb : Array Value) (g : Res), e = .returned (Value.func (.func 32) #[] lb) ∧ Iter Try.prog 32 lb (fun x_ : Two => #[Value.int .i64 x_.a, Value.int .i64 x_.b]) (HeldOf ([] : List (Int × Int))) [g] ∧ g.from_ [] w w' ∧ Fr No w w') := by
  have _hu := ho_m; clear _hu
  refine enter_E 28 Try.func19 rfl rfl (by kernel_rfl) (L := [(0, Value.pointer (some ⟨m, 0, none⟩))]) (by kernel_rfl) ?_
  intro ac hA
  have hW := Ws.start w No
  have hW := hW.celG ho_m
  refine wp_seq ?_
  refine wp_region_lit ?_
  refine st_rd (v := Value.nilFunc) hA (by kernel_rfl) (by kernel_rfl) (by kernel_rfl) hW.cls (Rd.pure fun _ => by kernel_rfl) ?_; clear hA ac; intro ac hA
  refine wpList_nil ?_
  refine thenN ?_
  refine wp_seq ?_
  refine wp_region_lit ?_
  refine st hA (by kernel_rfl) (by kernel_rfl) (by kernel_rfl) (Runs.cells (fun b => Value.pointer (some ⟨b, 0, none⟩)) #[Value.slice none 0 0] 71 (fun _ => by kernel_rfl) hW ?_); clear hA ac hW; intro b1 w2 hW hb1 hfw2 ac hA
  refine wpList_nil ?_
  refine thenN ?_
  refine wp_seq ?_
  refine wp_seq ?_
  refine wp_region_lit ?_
  refine st_rd (v := Value.pointer (some ⟨m, 0, none⟩)) hA (by kernel_rfl) (by kernel_rfl) (by kernel_rfl) hW.cls (Rd.pure fun _ => by kernel_rfl) ?_; clear hA ac; intro ac hA
  refine st hA (by kernel_rfl) (by kernel_rfl) (by kernel_rfl) (Runs.callS (v := Value.bool true) (fun _ => by kernel_rfl) (e_none_z m w2 (show _ = _ from (hW).getG 0 rfl)) ?_); clear hA ac; intro  ac hA
  refine st_rd (v := Value.bool false) hA (by kernel_rfl) (by kernel_rfl) (by kernel_rfl) hW.cls (Rd.pure fun _ => by kernel_rfl) ?_; clear hA ac; intro ac hA
  refine wpList_nil ?_
  refine thenN ?_
  refine wp_cond_false (hA.eval (by kernel_rfl)) ?_
  refine wp_skip ?_
  refine thenN ?_
  refine wp_seq ?_
  have hW := hW.addNil 72 2 enTwo
  have hp_ : (([] : List Two).map Two.pair).Perm ([] : List (Int × Int)) := List.Perm.refl _; have hb : ∀ x ∈ ([] : List (Int × Int)), 0 ≤ x.1 ∧ x.1 ≤ 65535 := by simp
  refine wp_region_lit ?_
  refine st_rd (v := Value.slice none 0 0) hA (by kernel_rfl) (by kernel_rfl) (by kernel_rfl) hW.cls (Rd.load (b := b1) (i := 0) (by kernel_rfl) (fun _ hw => (hw.1).cel 1 rfl) (by kernel_rfl)) ?_; clear hA ac; intro ac hA
  refine st hA (by kernel_rfl) (by kernel_rfl) (by kernel_rfl) (Runs.call (fun _ => by kernel_rfl) (e_sorted (A := none) (c := 0) (l := ([] : List Two)) w2 (hW.get 0 rfl) (by have := hp_.length_eq; simp at this; first | omega | simp) (fun x hx => hb _ ((hp_.mem_iff (a := x.pair)).1 (List.mem_map.2 ⟨x, hx, rfl⟩)))) ?_)
  rintro _ w3 ⟨rfl, l4, hperm_, hsort_, hu_⟩; refine ⟨_, rfl, ?_⟩; have hlen_ := hperm_.length_eq; replace hW := hW.upd 0 rfl hu_ rfl; rw [← hlen_] at hW ⊢; clear hA ac; intro ac hA
  refine st hA (by kernel_rfl) (by kernel_rfl) (by kernel_rfl) (Runs.store (v := Value.slice none l4.length 0) (b := b1) (j := 0) (n := 1) (cs' := #[Value.slice none l4.length 0]) (H' := [rowR 72 2 enTwo (Value.slice none l4.length 0) l4, Cel b1 #[Value.slice none l4.length 0] 71]) (by kernel_rfl) (by kernel_rfl) (by kernel_rfl) (by kernel_rfl) (by kernel_rfl) hW 1 (by rfl) (Nat.le_of_ble_eq_true (by kernel_rfl)) (by kernel_rfl) (by rfl) ?_); clear hA ac hW; intro w5 hW ac hA
  refine wpList_nil ?_
  refine thenN ?_
  refine wp_seq ?_
  refine wp_region_lit ?_
  refine st_rd (v := Value.func (.func 32) #[] #[Value.pointer (some ⟨b1, 0, none⟩)]) hA (by kernel_rfl) (by kernel_rfl) (by kernel_rfl) hW.cls (Rd.pure fun _ => by kernel_rfl) ?_; clear hA ac; intro ac hA
  refine st_rd (v := Value.func (.func 32) #[] #[Value.pointer (some ⟨b1, 0, none⟩)]) hA (by kernel_rfl) (by kernel_rfl) (by kernel_rfl) hW.cls (Rd.pure fun _ => by kernel_rfl) ?_; clear hA ac; intro ac hA
  refine wpList_nil ?_
  refine thenN ?_
  refine wp_ret ?_
  refine ret1 (v := Value.func (.func 32) #[] #[Value.pointer (some ⟨b1, 0, none⟩)]) (by rfl) hA (Got.tmp hA (by kernel_rfl) (by kernel_rfl)) ?_
  clear hA
  exact ⟨_, _, rfl, iter_weak (iter_many (it_32 b1 _ _ l4 (own_cap (hW.get 0 rfl)) (by first | (have := hp_.length_eq; simp at this; omega) | (have h2_ := hperm_.length_eq; simp only [List.length_nil] at h2_; omega)))) ⟨(hperm_.map _).trans hp_, hsort_⟩, from_many (froms_cons (hW.outOwn 1 rfl (fun _ h => h)) (froms_cons (hW.outRow 0 rfl elt_Two.len (fun _ h => h)) froms_nil)), hW.fr⟩

set_option maxRecDepth 100000 in
theorem e_noneLaw (x : Act13) (zero : Bool) (w : World)  : Calls Try.prog 6 #[x.v, Value.bool zero] w (fun e w' => e = .returned (Value.bool true) ∧ Fr No w w') := by
  refine enter_F 86 Try.func6 rfl rfl (by kernel_rfl) (L := [(0, x.v), (1, Value.bool zero)]) (by kernel_rfl) ?_
  intro ac hA
  have hW := Ws.start w No
  refine wpIn_seq ?_
  refine wpIn_region_lit ?_
  refine stF hA (by kernel_rfl) (by kernel_rfl) (by kernel_rfl) (by kernel_rfl) (RunsF.of (Runs.cells (fun b => Value.pointer (some ⟨b, 0, none⟩)) #[Value.int .i64 x.what, Value.int .i64 x.i, Value.int .i64 x.by_] 30 (fun _ => by kernel_rfl) hW ?_)); clear hA ac hW; intro b1 w2 hW hb1 hfw2 ac hA
  refine stF hA (by kernel_rfl) (by kernel_rfl) (by kernel_rfl) (by kernel_rfl) (RunsF.of (Runs.cells (fun b => Value.pointer (some ⟨b, 0, none⟩)) #[Value.bool false] 4 (fun _ => by kernel_rfl) hW ?_)); clear hA ac hW; intro b3 w4 hW hb3 hfw4 ac hA
  refine wpListIn_nil ?_
  refine thenN ?_
  refine wpIn_seq ?_
  refine wpIn_region_lit ?_
  refine st_rdF (v := Value.pointer none) hA (by kernel_rfl) (by kernel_rfl) (by kernel_rfl) (by kernel_rfl) hW.cls (Rd.pure fun _ => by kernel_rfl) ?_; clear hA ac; intro ac hA
  refine wpListIn_nil ?_
  refine thenN ?_
  refine wpIn_seq ?_
  refine wpIn_seq ?_
  refine wpIn_region_lit ?_
  refine st_rdF (v := Value.bool zero) hA (by kernel_rfl) (by kernel_rfl) (by kernel_rfl) (by kernel_rfl) hW.cls (Rd.pure fun _ => by kernel_rfl) ?_; clear hA ac; intro ac hA
  refine wpListIn_nil ?_
  refine thenN ?_
  refine wpIn_cond_split (t := zero) (hA.eval (by kernel_rfl)) (fun h5 => ?_) (fun h5 => ?_)
  · skip
    first
    | (exfalso; clear hA hW; omega)
    | (
        refine wpIn_region_lit ?_
        refine st_rdF (v := Value.agg #[Value.map none, Value.int .i64 0]) hA (by kernel_rfl) (by kernel_rfl) (by kernel_rfl) (by kernel_rfl) hW.cls (Rd.pure fun _ => by kernel_rfl) ?_; clear hA ac; intro ac hA
        refine stF hA (by kernel_rfl) (by kernel_rfl) (by kernel_rfl) (by kernel_rfl) (RunsF.of (Runs.cells (fun b => Value.pointer (some ⟨b, 0, none⟩)) #[Value.map none, Value.int .i64 0] 54 (fun _ => by kernel_rfl) hW ?_)); clear hA ac hW; intro b6 w7 hW hb6 hfw7 ac hA
        refine st_rdF (v := Value.pointer (some ⟨b6, 0, none⟩)) hA (by kernel_rfl) (by kernel_rfl) (by kernel_rfl) (by kernel_rfl) hW.cls (Rd.pure fun _ => by kernel_rfl) ?_; clear hA ac; intro ac hA
        refine wpListIn_nil ?_
        refine thenN ?_
        refine wpIn_seq ?_
        refine wpIn_region_lit ?_
        refine st_rdF (v := Value.pointer (some ⟨b6, 0, none⟩)) hA (by kernel_rfl) (by kernel_rfl) (by kernel_rfl) (by kernel_rfl) hW.cls (Rd.pure fun _ => by kernel_rfl) ?_; clear hA ac; intro ac hA
        refine st_rdF (v := Value.pointer (some ⟨b1, 1, none⟩)) hA (by kernel_rfl) (by kernel_rfl) (by kernel_rfl) (by kernel_rfl) hW.cls (Rd.pure fun _ => by kernel_rfl) ?_; clear hA ac; intro ac hA
        refine st_rdF (v := Value.int .i64 x.i) hA (by kernel_rfl) (by kernel_rfl) (by kernel_rfl) (by kernel_rfl) hW.cls (Rd.load (b := b1) (i := 1) (by kernel_rfl) (fun _ hw => (hw.1).cel 2 rfl) (by kernel_rfl)) ?_; clear hA ac; intro ac hA
        refine stF hA (by kernel_rfl) (by kernel_rfl) (by kernel_rfl) (by kernel_rfl) (RunsF.of (Runs.callN (v := Value.tuple #[Value.int .i64 0, Value.int .i64 1]) (fun _ => by kernel_rfl) hW (e_unlock_z b6 (x.i) w7 ((hW).cel 0 rfl)) ?_)); clear hA ac hW; intro w8 hW hfw8 ac hA
        refine st_rdF (v := Value.tuple #[Value.int .i64 0, Value.int .i64 1]) hA (by kernel_rfl) (by kernel_rfl) (by kernel_rfl) (by kernel_rfl) hW.cls (Rd.pure fun _ => by kernel_rfl) ?_; clear hA ac; intro ac hA
        refine st_rdF (v := Value.int .i64 0) hA (by kernel_rfl) (by kernel_rfl) (by kernel_rfl) (by kernel_rfl) hW.cls (Rd.pure fun _ => by kernel_rfl) ?_; clear hA ac; intro ac hA
        refine st_rdF (v := Value.int .i64 1) hA (by kernel_rfl) (by kernel_rfl) (by kernel_rfl) (by kernel_rfl) hW.cls (Rd.pure fun _ => by kernel_rfl) ?_; clear hA ac; intro ac hA
        refine st_rdF (v := Value.int .i64 0) hA (by kernel_rfl) (by kernel_rfl) (by kernel_rfl) (by kernel_rfl) hW.cls (Rd.pure fun _ => by kernel_rfl) ?_; clear hA ac; intro ac hA
        refine st_rdF (v := Value.int .i64 1) hA (by kernel_rfl) (by kernel_rfl) (by kernel_rfl) (by kernel_rfl) hW.cls (Rd.pure fun _ => by kernel_rfl) ?_; clear hA ac; intro ac hA
        refine wpListIn_nil ?_
        refine thenN ?_
        refine wpIn_seq ?_
        refine wpIn_region_lit ?_
        refine st_rdF (v := Value.pointer (some ⟨b6, 0, none⟩)) hA (by kernel_rfl) (by kernel_rfl) (by kernel_rfl) (by kernel_rfl) hW.cls (Rd.pure fun _ => by kernel_rfl) ?_; clear hA ac; intro ac hA
        refine st_rdF (v := Value.pointer (some ⟨b1, 1, none⟩)) hA (by kernel_rfl) (by kernel_rfl) (by kernel_rfl) (by kernel_rfl) hW.cls (Rd.pure fun _ => by kernel_rfl) ?_; clear hA ac; intro ac hA
        refine st_rdF (v := Value.int .i64 x.i) hA (by kernel_rfl) (by kernel_rfl) (by kernel_rfl) (by kernel_rfl) hW.cls (Rd.load (b := b1) (i := 1) (by kernel_rfl) (fun _ hw => (hw.1).cel 2 rfl) (by kernel_rfl)) ?_; clear hA ac; intro ac hA
        refine stF hA (by kernel_rfl) (by kernel_rfl) (by kernel_rfl) (by kernel_rfl) (RunsF.of (Runs.callN (v := Value.tuple #[Value.int .i64 0, Value.bool false]) (fun _ => by kernel_rfl) hW (e_holder_z b6 (x.i) w8 ((hW).cel 0 rfl)) ?_)); clear hA ac hW; intro w9 hW hfw9 ac hA
        refine st_rdF (v := Value.tuple #[Value.int .i64 0, Value.bool false]) hA (by kernel_rfl) (by kernel_rfl) (by kernel_rfl) (by kernel_rfl) hW.cls (Rd.pure fun _ => by kernel_rfl) ?_; clear hA ac; intro ac hA
        refine st_rdF (v := Value.int .i64 0) hA (by kernel_rfl) (by kernel_rfl) (by kernel_rfl) (by kernel_rfl) hW.cls (Rd.pure fun _ => by kernel_rfl) ?_; clear hA ac; intro ac hA
        refine st_rdF (v := Value.bool false) hA (by kernel_rfl) (by kernel_rfl) (by kernel_rfl) (by kernel_rfl) hW.cls (Rd.pure fun _ => by kernel_rfl) ?_; clear hA ac; intro ac hA
        refine st_rdF (v := Value.int .i64 0) hA (by kernel_rfl) (by kernel_rfl) (by kernel_rfl) (by kernel_rfl) hW.cls (Rd.pure fun _ => by kernel_rfl) ?_; clear hA ac; intro ac hA
        refine st_rdF (v := Value.bool false) hA (by kernel_rfl) (by kernel_rfl) (by kernel_rfl) (by kernel_rfl) hW.cls (Rd.pure fun _ => by kernel_rfl) ?_; clear hA ac; intro ac hA
        refine wpListIn_nil ?_
        refine thenN ?_
        refine wpIn_seq ?_
        refine wpIn_region_lit ?_
        refine st_rdF (v := Value.pointer (some ⟨b6, 0, none⟩)) hA (by kernel_rfl) (by kernel_rfl) (by kernel_rfl) (by kernel_rfl) hW.cls (Rd.pure fun _ => by kernel_rfl) ?_; clear hA ac; intro ac hA
        refine stF hA (by kernel_rfl) (by kernel_rfl) (by kernel_rfl) (by kernel_rfl) (RunsF.of (Runs.call (fun _ => by kernel_rfl) (e_held_z b6 w9 ((hW).cel 0 rfl)) ?_))
        rintro _ w10 ⟨lb11, g12, rfl, hIg12, hfg12, hfw10⟩; refine ⟨_, rfl, ?_⟩; have hW0 := hW; have hW := hW0.call hfw10; have hW := hW0.addFromAt hW hfg12 in_nil; clear hW0 hA ac; intro ac hA
        refine st_rdF (v := Value.func (.func 32) #[] lb11) hA (by kernel_rfl) (by kernel_rfl) (by kernel_rfl) (by kernel_rfl) hW.cls (Rd.pure fun _ => by kernel_rfl) ?_; clear hA ac; intro ac hA
        refine wpListIn_nil ?_
        refine thenN ?_
        refine wpIn_seq ?_
        refine wpIn_seq ?_
        refine wpIn_region_lit ?_
        refine st_rdF (v := Value.func (.func 32) #[] lb11) hA (by kernel_rfl) (by kernel_rfl) (by kernel_rfl) (by kernel_rfl) hW.cls (Rd.pure fun _ => by kernel_rfl) ?_; clear hA ac; intro ac hA
        refine st_rdF (v := Value.bool false) hA (by kernel_rfl) (by kernel_rfl) (by kernel_rfl) (by kernel_rfl) hW.cls (Rd.pure fun _ => by kernel_rfl) ?_; clear hA ac; intro ac hA
        refine wpListIn_nil ?_
        refine thenN ?_
        refine wpIn_cond_false (hA.eval (by kernel_rfl)) ?_
        refine wpIn_skip ?_
        refine thenN ?_
        refine wpIn_seq ?_
        refine wpIn_seq ?_
        refine wpIn_region_lit ?_
        refine st_rdF (v := Value.func (.func 32) #[] lb11) hA (by kernel_rfl) (by kernel_rfl) (by kernel_rfl) (by kernel_rfl) hW.cls (Rd.pure fun _ => by kernel_rfl) ?_; clear hA ac; intro ac hA
        refine wpListIn_nil ?_
        refine thenN ?_
        refine wpIn_block ?_
        refine wp_range (encs := (fun x_ : Two => #[Value.int .i64 x_.a, Value.int .i64 x_.b])) (Sx := (HeldOf ([] : List (Int × Int)))) hA (by kernel_rfl) (by kernel_rfl) (enters_of Try.func32 (by kernel_rfl) rfl) (by kernel_rfl) (fun _ => rfl) hIg12 (List.forall_mem_singleton.2 (List.mem_of_getElem? (i := 0) rfl)) (fun pre_ H_ => True ∧ H_ = []) (fun _ _ _ => False) (H := []) (K := [Cel b6 #[Value.map none, Value.int .i64 0] 54, Cel b3 #[Value.bool false] 4, Cel b1 #[Value.int .i64 x.what, Value.int .i64 x.i, Value.int .i64 x.by_] 30]) (hW.pick [0, 1, 2] (by decide) rfl) ⟨trivial, rfl⟩ ?_ ?_ ?_
        · skip
          clear hA ac hW; intro l_13 rd_13 bs_13 pre_ x_ Hk_ w14 T_13 ac hrd_13 hbs_13 hbr_13 hok_ hJ_ hA hW hB_13 hT_13
          obtain ⟨_, rfl⟩ := hJ_
          replace hA : Fm 86 [] [(0, x.v), (1, Value.bool zero), (2, Value.pointer (some ⟨b1, 0, none⟩)), (4, Value.pointer (some ⟨b3, 0, none⟩)), (5, Value.pointer (some ⟨b6, 0, none⟩)), (6, Value.int .i64 0), (7, Value.int .i64 1), (8, Value.int .i64 0), (9, Value.bool false), (10, Value.func (.func 32) #[] lb11), (13, Value.bool zero), (14, Value.agg #[Value.map none, Value.int .i64 0]), (15, Value.pointer (some ⟨b6, 0, none⟩)), (16, Value.tuple #[Value.int .i64 0, Value.int .i64 1]), (17, Value.pointer (some ⟨b6, 0, none⟩)), (18, Value.pointer (some ⟨b1, 1, none⟩)), (19, Value.int .i64 x.i), (20, Value.tuple #[Value.int .i64 0, Value.int .i64 1]), (21, Value.int .i64 0), (22, Value.int .i64 1), (23, Value.tuple #[Value.int .i64 0, Value.bool false]), (24, Value.pointer (some ⟨b6, 0, none⟩)), (25, Value.pointer (some ⟨b1, 1, none⟩)), (26, Value.int .i64 x.i), (27, Value.tuple #[Value.int .i64 0, Value.bool false]), (28, Value.int .i64 0), (29, Value.bool false), (30, Value.pointer (some ⟨b6, 0, none⟩)), (31, Value.func (.func 32) #[] lb11), (32, Value.func (.func 32) #[] lb11), (33, Value.bool false), (34, Value.func (.func 32) #[] lb11), (35, Value.int .i64 x_.a), (36, Value.int .i64 x_.b)] ac := hA.sub ⟨⟨by kernel_rfl, by kernel_rfl⟩, ⟨by kernel_rfl, by kernel_rfl⟩, ⟨by kernel_rfl, by kernel_rfl⟩, ⟨by kernel_rfl, by kernel_rfl⟩, ⟨by kernel_rfl, by kernel_rfl⟩, ⟨by kernel_rfl, by kernel_rfl⟩, ⟨by kernel_rfl, by kernel_rfl⟩, ⟨by kernel_rfl, by kernel_rfl⟩, ⟨by kernel_rfl, by kernel_rfl⟩, ⟨by kernel_rfl, by kernel_rfl⟩, ⟨by kernel_rfl, by kernel_rfl⟩, ⟨by kernel_rfl, by kernel_rfl⟩, ⟨by kernel_rfl, by kernel_rfl⟩, ⟨by kernel_rfl, by kernel_rfl⟩, ⟨by kernel_rfl, by kernel_rfl⟩, ⟨by kernel_rfl, by kernel_rfl⟩, ⟨by kernel_rfl, by kernel_rfl⟩, ⟨by kernel_rfl, by kernel_rfl⟩, ⟨by kernel_rfl, by kernel_rfl⟩, ⟨by kernel_rfl, by kernel_rfl⟩, ⟨by kernel_rfl, by kernel_rfl⟩, ⟨by kernel_rfl, by kernel_rfl⟩, ⟨by kernel_rfl, by kernel_rfl⟩, ⟨by kernel_rfl, by kernel_rfl⟩, ⟨by kernel_rfl, by kernel_rfl⟩, ⟨by kernel_rfl, by kernel_rfl⟩, ⟨by kernel_rfl, by kernel_rfl⟩, ⟨by kernel_rfl, by kernel_rfl⟩, ⟨by kernel_rfl, by kernel_rfl⟩, ⟨by kernel_rfl, by kernel_rfl⟩, ⟨by kernel_rfl, by kernel_rfl⟩, ⟨by kernel_rfl, by kernel_rfl⟩, ⟨by kernel_rfl, by kernel_rfl⟩, ⟨by kernel_rfl, by kernel_rfl⟩, trivial⟩
          exact (held_nil_no hok_).elim
        · skip
          clear hA ac hW; intro D15 xs_ Hk_ w16 ac hS_ hJ_ hA hW
          obtain ⟨_, rfl⟩ := hJ_
          replace hW : Ws w No [DefR D15, Cel b6 #[Value.map none, Value.int .i64 0] 54, Cel b3 #[Value.bool false] 4, Cel b1 #[Value.int .i64 x.what, Value.int .i64 x.i, Value.int .i64 x.by_] 30] [g12] w16 := hW
          refine blkN ?_
          refine thenN ?_
          refine wpIn_seq ?_
          refine wpIn_region_lit ?_
          refine stF hA (by kernel_rfl) (by kernel_rfl) (by kernel_rfl) (by kernel_rfl) (RunsF.of (Runs.call (fun _ => by kernel_rfl) (e_newY (0) w16 (by first | omega | (simp; done))) ?_))
          rintro _ w17 ⟨n18, n19, rfl, hu_⟩; refine ⟨_, rfl, ?_⟩; replace hW := hW.made hu_; clear hA ac; intro ac hA
          refine st_rdF (v := Value.tuple #[Value.pointer (some ⟨n18, 0, none⟩), Value.int .i64 0]) hA (by kernel_rfl) (by kernel_rfl) (by kernel_rfl) (by kernel_rfl) hW.cls (Rd.pure fun _ => by kernel_rfl) ?_; clear hA ac; intro ac hA
          refine st_rdF (v := Value.pointer (some ⟨n18, 0, none⟩)) hA (by kernel_rfl) (by kernel_rfl) (by kernel_rfl) (by kernel_rfl) hW.cls (Rd.pure fun _ => by kernel_rfl) ?_; clear hA ac; intro ac hA
          refine st_rdF (v := Value.int .i64 0) hA (by kernel_rfl) (by kernel_rfl) (by kernel_rfl) (by kernel_rfl) hW.cls (Rd.pure fun _ => by kernel_rfl) ?_; clear hA ac; intro ac hA
          refine st_rdF (v := Value.pointer (some ⟨n18, 0, none⟩)) hA (by kernel_rfl) (by kernel_rfl) (by kernel_rfl) (by kernel_rfl) hW.cls (Rd.pure fun _ => by kernel_rfl) ?_; clear hA ac; intro ac hA
          refine st_rdF (v := Value.int .i64 0) hA (by kernel_rfl) (by kernel_rfl) (by kernel_rfl) (by kernel_rfl) hW.cls (Rd.pure fun _ => by kernel_rfl) ?_; clear hA ac; intro ac hA
          refine wpListIn_nil ?_
          refine thenN ?_
          refine wpIn_seq ?_
          refine wpIn_region_lit ?_
          refine st_rdF (v := Value.pointer (some ⟨b6, 0, none⟩)) hA (by kernel_rfl) (by kernel_rfl) (by kernel_rfl) (by kernel_rfl) hW.cls (Rd.pure fun _ => by kernel_rfl) ?_; clear hA ac; intro ac hA
          refine st_rdF (v := Value.pointer (some ⟨b1, 1, none⟩)) hA (by kernel_rfl) (by kernel_rfl) (by kernel_rfl) (by kernel_rfl) hW.cls (Rd.pure fun _ => by kernel_rfl) ?_; clear hA ac; intro ac hA
          refine st_rdF (v := Value.int .i64 x.i) hA (by kernel_rfl) (by kernel_rfl) (by kernel_rfl) (by kernel_rfl) hW.cls (Rd.load (b := b1) (i := 1) (by kernel_rfl) (fun _ hw => (hw.1).cel 4 rfl) (by kernel_rfl)) ?_; clear hA ac; intro ac hA
          refine st_rdF (v := Value.pointer (some ⟨b1, 2, none⟩)) hA (by kernel_rfl) (by kernel_rfl) (by kernel_rfl) (by kernel_rfl) hW.cls (Rd.pure fun _ => by kernel_rfl) ?_; clear hA ac; intro ac hA
          refine st_rdF (v := Value.int .i64 x.by_) hA (by kernel_rfl) (by kernel_rfl) (by kernel_rfl) (by kernel_rfl) hW.cls (Rd.load (b := b1) (i := 2) (by kernel_rfl) (fun _ hw => (hw.1).cel 4 rfl) (by kernel_rfl)) ?_; clear hA ac; intro ac hA
          refine stF hA (by kernel_rfl) (by kernel_rfl) (by kernel_rfl) (by kernel_rfl) (RunsF.of (Runs.callN (v := Value.int .i64 1) (fun _ => by kernel_rfl) hW (e_lock_z b6 (x.i) (x.by_) w17 ((hW).cel 2 rfl)) ?_)); clear hA ac hW; intro w20 hW hfw20 ac hA
          refine stF hA (by kernel_rfl) (by kernel_rfl) (by kernel_rfl) (by kernel_rfl) (RunsF.of (Runs.callS (v := Value.int .i64 (1)) (fun _ => by kernel_rfl) (e_num13 (1) w20) ?_)); clear hA ac; intro  ac hA
          refine st_rdF (v := Value.bool (((1) : Int) == (1 : Int))) hA (by kernel_rfl) (by kernel_rfl) (by kernel_rfl) (by kernel_rfl) hW.cls (Rd.pure fun _ => by kernel_rfl) ?_; clear hA ac; intro ac hA
          refine st_rdF (v := Value.bool (((1) : Int) == (1 : Int))) hA (by kernel_rfl) (by kernel_rfl) (by kernel_rfl) (by kernel_rfl) hW.cls (Rd.pure fun _ => by kernel_rfl) ?_; clear hA ac; intro ac hA
          rcases Bool.eq_false_or_eq_true (((1) : Int) == (1 : Int)) with h21 | h21
          · skip
            rw [h21] at hA
            have h21 := eq_of_beq h21
            first
            | (exfalso; clear hA hW; omega)
            | (
                refine st_rdF (v := Value.int .i64 1) hA (by kernel_rfl) (by kernel_rfl) (by kernel_rfl) (by kernel_rfl) hW.cls (Rd.pure fun _ => by kernel_rfl) ?_; clear hA ac; intro ac hA
                refine stF hA (by kernel_rfl) (by kernel_rfl) (by kernel_rfl) (by kernel_rfl) (RunsF.of (Runs.callS (v := Value.int .i64 (1)) (fun _ => by kernel_rfl) (e_num13 (1) w20) ?_)); clear hA ac; intro  ac hA
                refine st_rdF (v := Value.bool (((1) : Int) == (1 : Int))) hA (by kernel_rfl) (by kernel_rfl) (by kernel_rfl) (by kernel_rfl) hW.cls (Rd.pure fun _ => by kernel_rfl) ?_; clear hA ac; intro ac hA
                refine st_rdF (v := Value.bool (((1) : Int) == (1 : Int))) hA (by kernel_rfl) (by kernel_rfl) (by kernel_rfl) (by kernel_rfl) hW.cls (Rd.pure fun _ => by kernel_rfl) ?_; clear hA ac; intro ac hA
                refine st_rdF (v := Value.bool (((1) : Int) == (1 : Int))) hA (by kernel_rfl) (by kernel_rfl) (by kernel_rfl) (by kernel_rfl) hW.cls (Rd.pure fun _ => by kernel_rfl) ?_; clear hA ac; intro ac hA
                rcases Bool.eq_false_or_eq_true (((1) : Int) == (1 : Int)) with h22 | h22
                · skip
                  rw [h22] at hA
                  have h22 := eq_of_beq h22
                  first
                  | (exfalso; clear hA hW; omega)
                  | (
                      refine st_rdF (v := Value.bool false) hA (by kernel_rfl) (by kernel_rfl) (by kernel_rfl) (by kernel_rfl) hW.cls (Rd.pure fun _ => by kernel_rfl) ?_; clear hA ac; intro ac hA
                      refine st_rdF (v := Value.bool true) hA (by kernel_rfl) (by kernel_rfl) (by kernel_rfl) (by kernel_rfl) hW.cls (Rd.pure fun _ => by kernel_rfl) ?_; clear hA ac; intro ac hA
                      refine st_rdF (v := Value.bool true) hA (by kernel_rfl) (by kernel_rfl) (by kernel_rfl) (by kernel_rfl) hW.cls (Rd.pure fun _ => by kernel_rfl) ?_; clear hA ac; intro ac hA
                      refine st_rdF (v := Value.bool true) hA (by kernel_rfl) (by kernel_rfl) (by kernel_rfl) (by kernel_rfl) hW.cls (Rd.pure fun _ => by kernel_rfl) ?_; clear hA ac; intro ac hA
                      refine st_rdF (v := Value.pointer (some ⟨b6, 0, none⟩)) hA (by kernel_rfl) (by kernel_rfl) (by kernel_rfl) (by kernel_rfl) hW.cls (Rd.pure fun _ => by kernel_rfl) ?_; clear hA ac; intro ac hA
                      refine stF hA (by kernel_rfl) (by kernel_rfl) (by kernel_rfl) (by kernel_rfl) (RunsF.of (Runs.callN (v := Value.int .i64 0) (fun _ => by kernel_rfl) hW (e_len_z b6 w20 ((hW).cel 2 rfl)) ?_)); clear hA ac hW; intro w23 hW hfw23 ac hA
                      refine st_rdF (v := Value.bool true) hA (by kernel_rfl) (by kernel_rfl) (by kernel_rfl) (by kernel_rfl) hW.cls (Rd.pure fun _ => by kernel_rfl) ?_; clear hA ac; intro ac hA
                      refine st_rdF (v := Value.bool true) hA (by kernel_rfl) (by kernel_rfl) (by kernel_rfl) (by kernel_rfl) hW.cls (Rd.pure fun _ => by kernel_rfl) ?_; clear hA ac; intro ac hA
                      refine st_rdF (v := Value.bool true) hA (by kernel_rfl) (by kernel_rfl) (by kernel_rfl) (by kernel_rfl) hW.cls (Rd.pure fun _ => by kernel_rfl) ?_; clear hA ac; intro ac hA
                      refine st_rdF (v := Value.pointer (some ⟨b6, 0, none⟩)) hA (by kernel_rfl) (by kernel_rfl) (by kernel_rfl) (by kernel_rfl) hW.cls (Rd.pure fun _ => by kernel_rfl) ?_; clear hA ac; intro ac hA
                      refine stF hA (by kernel_rfl) (by kernel_rfl) (by kernel_rfl) (by kernel_rfl) (RunsF.of (Runs.callN (v := Value.pointer none) (fun _ => by kernel_rfl) hW (e_copy_z b6 w23 ((hW).cel 2 rfl)) ?_)); clear hA ac hW; intro w24 hW hfw24 ac hA
                      refine st_rdF (v := Value.bool true) hA (by kernel_rfl) (by kernel_rfl) (by kernel_rfl) (by kernel_rfl) hW.cls (Rd.pure fun _ => by kernel_rfl) ?_; clear hA ac; intro ac hA
                      refine st_rdF (v := Value.bool true) hA (by kernel_rfl) (by kernel_rfl) (by kernel_rfl) (by kernel_rfl) hW.cls (Rd.pure fun _ => by kernel_rfl) ?_; clear hA ac; intro ac hA
                      refine st_rdF (v := Value.bool true) hA (by kernel_rfl) (by kernel_rfl) (by kernel_rfl) (by kernel_rfl) hW.cls (Rd.pure fun _ => by kernel_rfl) ?_; clear hA ac; intro ac hA
                      refine st_rdF (v := Value.pointer (some ⟨b6, 0, none⟩)) hA (by kernel_rfl) (by kernel_rfl) (by kernel_rfl) (by kernel_rfl) hW.cls (Rd.pure fun _ => by kernel_rfl) ?_; clear hA ac; intro ac hA
                      refine stF hA (by kernel_rfl) (by kernel_rfl) (by kernel_rfl) (by kernel_rfl) (RunsF.of (Runs.callN (v := Value.bool true) (fun _ => by kernel_rfl) hW (e_same_z b6 w24 ((hW).cel 2 rfl)) ?_)); clear hA ac hW; intro w25 hW hfw25 ac hA
                      refine st_rdF (v := Value.bool true) hA (by kernel_rfl) (by kernel_rfl) (by kernel_rfl) (by kernel_rfl) hW.cls (Rd.pure fun _ => by kernel_rfl) ?_; clear hA ac; intro ac hA
                      refine st_rdF (v := Value.bool true) hA (by kernel_rfl) (by kernel_rfl) (by kernel_rfl) (by kernel_rfl) hW.cls (Rd.pure fun _ => by kernel_rfl) ?_; clear hA ac; intro ac hA
                      refine st_rdF (v := Value.int .i64 0) hA (by kernel_rfl) (by kernel_rfl) (by kernel_rfl) (by kernel_rfl) hW.cls (Rd.pure fun _ => by kernel_rfl) ?_; clear hA ac; intro ac hA
                      refine stF hA (by kernel_rfl) (by kernel_rfl) (by kernel_rfl) (by kernel_rfl) (RunsF.of (Runs.callS (v := Value.int .i64 (0)) (fun _ => by kernel_rfl) (e_num13 (0) w25) ?_)); clear hA ac; intro  ac hA
                      refine st_rdF (v := Value.bool (((0) : Int) == (0 : Int))) hA (by kernel_rfl) (by kernel_rfl) (by kernel_rfl) (by kernel_rfl) hW.cls (Rd.pure fun _ => by kernel_rfl) ?_; clear hA ac; intro ac hA
                      refine st_rdF (v := Value.bool (((0) : Int) == (0 : Int))) hA (by kernel_rfl) (by kernel_rfl) (by kernel_rfl) (by kernel_rfl) hW.cls (Rd.pure fun _ => by kernel_rfl) ?_; clear hA ac; intro ac hA
                      refine st_rdF (v := Value.bool (((0) : Int) == (0 : Int))) hA (by kernel_rfl) (by kernel_rfl) (by kernel_rfl) (by kernel_rfl) hW.cls (Rd.pure fun _ => by kernel_rfl) ?_; clear hA ac; intro ac hA
                      rcases Bool.eq_false_or_eq_true (((0) : Int) == (0 : Int)) with h26 | h26
                      · skip
                        rw [h26] at hA
                        have h26 := eq_of_beq h26
                        first
                        | (exfalso; clear hA hW; omega)
                        | (
                            refine st_rdF (v := Value.pointer (some ⟨n18, 0, none⟩)) hA (by kernel_rfl) (by kernel_rfl) (by kernel_rfl) (by kernel_rfl) hW.cls (Rd.pure fun _ => by kernel_rfl) ?_; clear hA ac; intro ac hA
                            refine st_rdF (v := Value.pointer (some ⟨b6, 0, none⟩)) hA (by kernel_rfl) (by kernel_rfl) (by kernel_rfl) (by kernel_rfl) hW.cls (Rd.pure fun _ => by kernel_rfl) ?_; clear hA ac; intro ac hA
                            refine stF hA (by kernel_rfl) (by kernel_rfl) (by kernel_rfl) (by kernel_rfl) (RunsF.of (Runs.callN (v := Value.bool false) (fun _ => by kernel_rfl) hW (e_same_oz n18 n19 ([]) (0) b6 w25 ((hW).get 0 rfl) ((hW).lt _ (List.mem_of_getElem? (i := 0) rfl)) ((hW).cel 2 rfl)) ?_)); clear hA ac hW; intro w27 hW hfw27 ac hA
                            refine st_rdF (v := Value.bool true) hA (by kernel_rfl) (by kernel_rfl) (by kernel_rfl) (by kernel_rfl) hW.cls (Rd.pure fun _ => by kernel_rfl) ?_; clear hA ac; intro ac hA
                            refine st_rdF (v := Value.bool true) hA (by kernel_rfl) (by kernel_rfl) (by kernel_rfl) (by kernel_rfl) hW.cls (Rd.pure fun _ => by kernel_rfl) ?_; clear hA ac; intro ac hA
                            refine st_rdF (v := Value.bool true) hA (by kernel_rfl) (by kernel_rfl) (by kernel_rfl) (by kernel_rfl) hW.cls (Rd.pure fun _ => by kernel_rfl) ?_; clear hA ac; intro ac hA
                            refine stF hA (by kernel_rfl) (by kernel_rfl) (by kernel_rfl) (by kernel_rfl) (RunsF.of (Runs.callN (v := Value.bool true) (fun _ => by kernel_rfl) hW (e_works13 w27) ?_)); clear hA ac hW; intro w28 hW hfw28 ac hA
                            refine st_rdF (v := Value.bool true) hA (by kernel_rfl) (by kernel_rfl) (by kernel_rfl) (by kernel_rfl) hW.cls (Rd.pure fun _ => by kernel_rfl) ?_; clear hA ac; intro ac hA
                            refine stF hA (by kernel_rfl) (by kernel_rfl) (by kernel_rfl) (by kernel_rfl) (RunsF.of (Runs.store (v := Value.bool true) (b := b3) (j := 0) (n := 1) (cs' := #[Value.bool true]) (H' := [MutR n18 n19 ([]) (0), DefR D15, Cel b6 #[Value.map none, Value.int .i64 0] 54, Cel b3 #[Value.bool true] 4, Cel b1 #[Value.int .i64 x.what, Value.int .i64 x.i, Value.int .i64 x.by_] 30]) (by kernel_rfl) (by kernel_rfl) (by kernel_rfl) (by kernel_rfl) (by kernel_rfl) hW 3 (by rfl) (Nat.le_of_ble_eq_true (by kernel_rfl)) (by kernel_rfl) (by rfl) ?_)); clear hA ac hW; intro w29 hW ac hA
                            refine wpListIn_nil ?_
                            refine thenN ?_
                            refine wpIn_ret ?_
                            refine retF (.inl rfl) hA ?_
                            refine leaveD (H' := [MutR n18 n19 ([]) (0), Cel b6 #[Value.map none, Value.int .i64 0] 54, Cel b3 #[Value.bool true] 4, Cel b1 #[Value.int .i64 x.what, Value.int .i64 x.i, Value.int .i64 x.by_] 30]) hW 1 rfl rfl ?_; clear hW; intro w30 hW
                            refine leave1 (v := Value.bool true) (by rfl) (GotF.cell (b := b3) (i := 0) hA (by kernel_rfl) (by kernel_rfl) (hW.cel 2 rfl) (by kernel_rfl)) ?_
                            clear hA
                            exact ⟨retv (by rfl), hW.fr⟩)
                      · skip
                        rw [h26] at hA
                        have h26 := ne_of_beq_false h26
                        first
                        | (exfalso; clear hA hW; omega)
                        | (
                            refine st_skipF hA (by kernel_rfl) (by kernel_rfl) ?_; clear hA ac; intro ac hA
                            refine st_skipF hA (by kernel_rfl) (by kernel_rfl) ?_; clear hA ac; intro ac hA
                            refine st_skipF hA (by kernel_rfl) (by kernel_rfl) ?_; clear hA ac; intro ac hA
                            refine st_skipF hA (by kernel_rfl) (by kernel_rfl) ?_; clear hA ac; intro ac hA
                            refine st_rdF (v := Value.bool false) hA (by kernel_rfl) (by kernel_rfl) (by kernel_rfl) (by kernel_rfl) hW.cls (Rd.pure fun _ => by kernel_rfl) ?_; clear hA ac; intro ac hA
                            refine st_rdF (v := Value.bool false) hA (by kernel_rfl) (by kernel_rfl) (by kernel_rfl) (by kernel_rfl) hW.cls (Rd.pure fun _ => by kernel_rfl) ?_; clear hA ac; intro ac hA
                            refine st_skipF hA (by kernel_rfl) (by kernel_rfl) ?_; clear hA ac; intro ac hA
                            refine st_rdF (v := Value.bool false) hA (by kernel_rfl) (by kernel_rfl) (by kernel_rfl) (by kernel_rfl) hW.cls (Rd.pure fun _ => by kernel_rfl) ?_; clear hA ac; intro ac hA
                            refine stF hA (by kernel_rfl) (by kernel_rfl) (by kernel_rfl) (by kernel_rfl) (RunsF.of (Runs.store (v := Value.bool false) (b := b3) (j := 0) (n := 1) (cs' := #[Value.bool false]) (H' := [MutR n18 n19 ([]) (0), DefR D15, Cel b6 #[Value.map none, Value.int .i64 0] 54, Cel b3 #[Value.bool false] 4, Cel b1 #[Value.int .i64 x.what, Value.int .i64 x.i, Value.int .i64 x.by_] 30]) (by kernel_rfl) (by kernel_rfl) (by kernel_rfl) (by kernel_rfl) (by kernel_rfl) hW 3 (by rfl) (Nat.le_of_ble_eq_true (by kernel_rfl)) (by kernel_rfl) (by rfl) ?_)); clear hA ac hW; intro w31 hW ac hA
                            refine wpListIn_nil ?_
                            refine thenN ?_
                            refine wpIn_ret ?_
                            refine retF (.inl rfl) hA ?_
                            refine leaveD (H' := [MutR n18 n19 ([]) (0), Cel b6 #[Value.map none, Value.int .i64 0] 54, Cel b3 #[Value.bool false] 4, Cel b1 #[Value.int .i64 x.what, Value.int .i64 x.i, Value.int .i64 x.by_] 30]) hW 1 rfl rfl ?_; clear hW; intro w32 hW
                            refine leave1 (v := Value.bool false) (by rfl) (GotF.cell (b := b3) (i := 0) hA (by kernel_rfl) (by kernel_rfl) (hW.cel 2 rfl) (by kernel_rfl)) ?_
                            clear hA
                            exact ⟨retv (by rfl), hW.fr⟩))
                · skip
                  rw [h22] at hA
                  have h22 := ne_of_beq_false h22
                  first
                  | (exfalso; clear hA hW; omega)
                  | (
                      refine st_skipF hA (by kernel_rfl) (by kernel_rfl) ?_; clear hA ac; intro ac hA
                      refine st_skipF hA (by kernel_rfl) (by kernel_rfl) ?_; clear hA ac; intro ac hA
                      refine st_rdF (v := Value.bool false) hA (by kernel_rfl) (by kernel_rfl) (by kernel_rfl) (by kernel_rfl) hW.cls (Rd.pure fun _ => by kernel_rfl) ?_; clear hA ac; intro ac hA
                      refine st_rdF (v := Value.bool false) hA (by kernel_rfl) (by kernel_rfl) (by kernel_rfl) (by kernel_rfl) hW.cls (Rd.pure fun _ => by kernel_rfl) ?_; clear hA ac; intro ac hA
                      refine st_skipF hA (by kernel_rfl) (by kernel_rfl) ?_; clear hA ac; intro ac hA
                      refine st_skipF hA (by kernel_rfl) (by kernel_rfl) ?_; clear hA ac; intro ac hA
                      refine st_skipF hA (by kernel_rfl) (by kernel_rfl) ?_; clear hA ac; intro ac hA
                      refine st_rdF (v := Value.bool false) hA (by kernel_rfl) (by kernel_rfl) (by kernel_rfl) (by kernel_rfl) hW.cls (Rd.pure fun _ => by kernel_rfl) ?_; clear hA ac; intro ac hA
                      refine st_rdF (v := Value.bool false) hA (by kernel_rfl) (by kernel_rfl) (by kernel_rfl) (by kernel_rfl) hW.cls (Rd.pure fun _ => by kernel_rfl) ?_; clear hA ac; intro ac hA
                      refine st_skipF hA (by kernel_rfl) (by kernel_rfl) ?_; clear hA ac; intro ac hA
                      refine st_skipF hA (by kernel_rfl) (by kernel_rfl) ?_; clear hA ac; intro ac hA
                      refine st_skipF hA (by kernel_rfl) (by kernel_rfl) ?_; clear hA ac; intro ac hA
                      refine st_rdF (v := Value.bool false) hA (by kernel_rfl) (by kernel_rfl) (by kernel_rfl) (by kernel_rfl) hW.cls (Rd.pure fun _ => by kernel_rfl) ?_; clear hA ac; intro ac hA
                      refine st_rdF (v := Value.bool false) hA (by kernel_rfl) (by kernel_rfl) (by kernel_rfl) (by kernel_rfl) hW.cls (Rd.pure fun _ => by kernel_rfl) ?_; clear hA ac; intro ac hA
                      refine st_skipF hA (by kernel_rfl) (by kernel_rfl) ?_; clear hA ac; intro ac hA
                      refine st_skipF hA (by kernel_rfl) (by kernel_rfl) ?_; clear hA ac; intro ac hA
                      refine st_rdF (v := Value.bool false) hA (by kernel_rfl) (by kernel_rfl) (by kernel_rfl) (by kernel_rfl) hW.cls (Rd.pure fun _ => by kernel_rfl) ?_; clear hA ac; intro ac hA
                      refine st_rdF (v := Value.bool false) hA (by kernel_rfl) (by kernel_rfl) (by kernel_rfl) (by kernel_rfl) hW.cls (Rd.pure fun _ => by kernel_rfl) ?_; clear hA ac; intro ac hA
                      refine st_skipF hA (by kernel_rfl) (by kernel_rfl) ?_; clear hA ac; intro ac hA
                      refine st_skipF hA (by kernel_rfl) (by kernel_rfl) ?_; clear hA ac; intro ac hA
                      refine st_skipF hA (by kernel_rfl) (by kernel_rfl) ?_; clear hA ac; intro ac hA
                      refine st_rdF (v := Value.bool false) hA (by kernel_rfl) (by kernel_rfl) (by kernel_rfl) (by kernel_rfl) hW.cls (Rd.pure fun _ => by kernel_rfl) ?_; clear hA ac; intro ac hA
                      refine st_rdF (v := Value.bool false) hA (by kernel_rfl) (by kernel_rfl) (by kernel_rfl) (by kernel_rfl) hW.cls (Rd.pure fun _ => by kernel_rfl) ?_; clear hA ac; intro ac hA
                      refine st_skipF hA (by kernel_rfl) (by kernel_rfl) ?_; clear hA ac; intro ac hA
                      refine st_skipF hA (by kernel_rfl) (by kernel_rfl) ?_; clear hA ac; intro ac hA
                      refine st_skipF hA (by kernel_rfl) (by kernel_rfl) ?_; clear hA ac; intro ac hA
                      refine st_skipF hA (by kernel_rfl) (by kernel_rfl) ?_; clear hA ac; intro ac hA
                      refine st_rdF (v := Value.bool false) hA (by kernel_rfl) (by kernel_rfl) (by kernel_rfl) (by kernel_rfl) hW.cls (Rd.pure fun _ => by kernel_rfl) ?_; clear hA ac; intro ac hA
                      refine st_rdF (v := Value.bool false) hA (by kernel_rfl) (by kernel_rfl) (by kernel_rfl) (by kernel_rfl) hW.cls (Rd.pure fun _ => by kernel_rfl) ?_; clear hA ac; intro ac hA
                      refine st_skipF hA (by kernel_rfl) (by kernel_rfl) ?_; clear hA ac; intro ac hA
                      refine st_rdF (v := Value.bool false) hA (by kernel_rfl) (by kernel_rfl) (by kernel_rfl) (by kernel_rfl) hW.cls (Rd.pure fun _ => by kernel_rfl) ?_; clear hA ac; intro ac hA
                      refine stF hA (by kernel_rfl) (by kernel_rfl) (by kernel_rfl) (by kernel_rfl) (RunsF.of (Runs.store (v := Value.bool false) (b := b3) (j := 0) (n := 1) (cs' := #[Value.bool false]) (H' := [MutR n18 n19 ([]) (0), DefR D15, Cel b6 #[Value.map none, Value.int .i64 0] 54, Cel b3 #[Value.bool false] 4, Cel b1 #[Value.int .i64 x.what, Value.int .i64 x.i, Value.int .i64 x.by_] 30]) (by kernel_rfl) (by kernel_rfl) (by kernel_rfl) (by kernel_rfl) (by kernel_rfl) hW 3 (by rfl) (Nat.le_of_ble_eq_true (by kernel_rfl)) (by kernel_rfl) (by rfl) ?_)); clear hA ac hW; intro w33 hW ac hA
                      refine wpListIn_nil ?_
                      refine thenN ?_
                      refine wpIn_ret ?_
                      refine retF (.inl rfl) hA ?_
                      refine leaveD (H' := [MutR n18 n19 ([]) (0), Cel b6 #[Value.map none, Value.int .i64 0] 54, Cel b3 #[Value.bool false] 4, Cel b1 #[Value.int .i64 x.what, Value.int .i64 x.i, Value.int .i64 x.by_] 30]) hW 1 rfl rfl ?_; clear hW; intro w34 hW
                      refine leave1 (v := Value.bool false) (by rfl) (GotF.cell (b := b3) (i := 0) hA (by kernel_rfl) (by kernel_rfl) (hW.cel 2 rfl) (by kernel_rfl)) ?_
                      clear hA
                      exact ⟨retv (by rfl), hW.fr⟩))
          · skip
            rw [h21] at hA
            have h21 := ne_of_beq_false h21
            first
            | (exfalso; clear hA hW; omega)
            | (
                refine st_skipF hA (by kernel_rfl) (by kernel_rfl) ?_; clear hA ac; intro ac hA
                refine st_skipF hA (by kernel_rfl) (by kernel_rfl) ?_; clear hA ac; intro ac hA
                refine st_skipF hA (by kernel_rfl) (by kernel_rfl) ?_; clear hA ac; intro ac hA
                refine st_rdF (v := Value.bool false) hA (by kernel_rfl) (by kernel_rfl) (by kernel_rfl) (by kernel_rfl) hW.cls (Rd.pure fun _ => by kernel_rfl) ?_; clear hA ac; intro ac hA
                refine st_rdF (v := Value.bool false) hA (by kernel_rfl) (by kernel_rfl) (by kernel_rfl) (by kernel_rfl) hW.cls (Rd.pure fun _ => by kernel_rfl) ?_; clear hA ac; intro ac hA
                refine st_skipF hA (by kernel_rfl) (by kernel_rfl) ?_; clear hA ac; intro ac hA
                refine st_skipF hA (by kernel_rfl) (by kernel_rfl) ?_; clear hA ac; intro ac hA
                refine st_rdF (v := Value.bool false) hA (by kernel_rfl) (by kernel_rfl) (by kernel_rfl) (by kernel_rfl) hW.cls (Rd.pure fun _ => by kernel_rfl) ?_; clear hA ac; intro ac hA
                refine st_rdF (v := Value.bool false) hA (by kernel_rfl) (by kernel_rfl) (by kernel_rfl) (by kernel_rfl) hW.cls (Rd.pure fun _ => by kernel_rfl) ?_; clear hA ac; intro ac hA
                refine st_skipF hA (by kernel_rfl) (by kernel_rfl) ?_; clear hA ac; intro ac hA
                refine st_skipF hA (by kernel_rfl) (by kernel_rfl) ?_; clear hA ac; intro ac hA
                refine st_skipF hA (by kernel_rfl) (by kernel_rfl) ?_; clear hA ac; intro ac hA
                refine st_rdF (v := Value.bool false) hA (by kernel_rfl) (by kernel_rfl) (by kernel_rfl) (by kernel_rfl) hW.cls (Rd.pure fun _ => by kernel_rfl) ?_; clear hA ac; intro ac hA
                refine st_rdF (v := Value.bool false) hA (by kernel_rfl) (by kernel_rfl) (by kernel_rfl) (by kernel_rfl) hW.cls (Rd.pure fun _ => by kernel_rfl) ?_; clear hA ac; intro ac hA
                refine st_skipF hA (by kernel_rfl) (by kernel_rfl) ?_; clear hA ac; intro ac hA
                refine st_skipF hA (by kernel_rfl) (by kernel_rfl) ?_; clear hA ac; intro ac hA
                refine st_skipF hA (by kernel_rfl) (by kernel_rfl) ?_; clear hA ac; intro ac hA
                refine st_rdF (v := Value.bool false) hA (by kernel_rfl) (by kernel_rfl) (by kernel_rfl) (by kernel_rfl) hW.cls (Rd.pure fun _ => by kernel_rfl) ?_; clear hA ac; intro ac hA
                refine st_rdF (v := Value.bool false) hA (by kernel_rfl) (by kernel_rfl) (by kernel_rfl) (by kernel_rfl) hW.cls (Rd.pure fun _ => by kernel_rfl) ?_; clear hA ac; intro ac hA
                refine st_skipF hA (by kernel_rfl) (by kernel_rfl) ?_; clear hA ac; intro ac hA
                refine st_skipF hA (by kernel_rfl) (by kernel_rfl) ?_; clear hA ac; intro ac hA
                refine st_rdF (v := Value.bool false) hA (by kernel_rfl) (by kernel_rfl) (by kernel_rfl) (by kernel_rfl) hW.cls (Rd.pure fun _ => by kernel_rfl) ?_; clear hA ac; intro ac hA
                refine st_rdF (v := Value.bool false) hA (by kernel_rfl) (by kernel_rfl) (by kernel_rfl) (by kernel_rfl) hW.cls (Rd.pure fun _ => by kernel_rfl) ?_; clear hA ac; intro ac hA
                refine st_skipF hA (by kernel_rfl) (by kernel_rfl) ?_; clear hA ac; intro ac hA
                refine st_skipF hA (by kernel_rfl) (by kernel_rfl) ?_; clear hA ac; intro ac hA
                refine st_skipF hA (by kernel_rfl) (by kernel_rfl) ?_; clear hA ac; intro ac hA
                refine st_rdF (v := Value.bool false) hA (by kernel_rfl) (by kernel_rfl) (by kernel_rfl) (by kernel_rfl) hW.cls (Rd.pure fun _ => by kernel_rfl) ?_; clear hA ac; intro ac hA
                refine st_rdF (v := Value.bool false) hA (by kernel_rfl) (by kernel_rfl) (by kernel_rfl) (by kernel_rfl) hW.cls (Rd.pure fun _ => by kernel_rfl) ?_; clear hA ac; intro ac hA
                refine st_skipF hA (by kernel_rfl) (by kernel_rfl) ?_; clear hA ac; intro ac hA
                refine st_skipF hA (by kernel_rfl) (by kernel_rfl) ?_; clear hA ac; intro ac hA
                refine st_skipF hA (by kernel_rfl) (by kernel_rfl) ?_; clear hA ac; intro ac hA
                refine st_skipF hA (by kernel_rfl) (by kernel_rfl) ?_; clear hA ac; intro ac hA
                refine st_rdF (v := Value.bool false) hA (by kernel_rfl) (by kernel_rfl) (by kernel_rfl) (by kernel_rfl) hW.cls (Rd.pure fun _ => by kernel_rfl) ?_; clear hA ac; intro ac hA
                refine st_rdF (v := Value.bool false) hA (by kernel_rfl) (by kernel_rfl) (by kernel_rfl) (by kernel_rfl) hW.cls (Rd.pure fun _ => by kernel_rfl) ?_; clear hA ac; intro ac hA
                refine st_skipF hA (by kernel_rfl) (by kernel_rfl) ?_; clear hA ac; intro ac hA
                refine st_rdF (v := Value.bool false) hA (by kernel_rfl) (by kernel_rfl) (by kernel_rfl) (by kernel_rfl) hW.cls (Rd.pure fun _ => by kernel_rfl) ?_; clear hA ac; intro ac hA
                refine stF hA (by kernel_rfl) (by kernel_rfl) (by kernel_rfl) (by kernel_rfl) (RunsF.of (Runs.store (v := Value.bool false) (b := b3) (j := 0) (n := 1) (cs' := #[Value.bool false]) (H' := [MutR n18 n19 ([]) (0), DefR D15, Cel b6 #[Value.map none, Value.int .i64 0] 54, Cel b3 #[Value.bool false] 4, Cel b1 #[Value.int .i64 x.what, Value.int .i64 x.i, Value.int .i64 x.by_] 30]) (by kernel_rfl) (by kernel_rfl) (by kernel_rfl) (by kernel_rfl) (by kernel_rfl) hW 3 (by rfl) (Nat.le_of_ble_eq_true (by kernel_rfl)) (by kernel_rfl) (by rfl) ?_)); clear hA ac hW; intro w35 hW ac hA
                refine wpListIn_nil ?_
                refine thenN ?_
                refine wpIn_ret ?_
                refine retF (.inl rfl) hA ?_
                refine leaveD (H' := [MutR n18 n19 ([]) (0), Cel b6 #[Value.map none, Value.int .i64 0] 54, Cel b3 #[Value.bool false] 4, Cel b1 #[Value.int .i64 x.what, Value.int .i64 x.i, Value.int .i64 x.by_] 30]) hW 1 rfl rfl ?_; clear hW; intro w36 hW
                refine leave1 (v := Value.bool false) (by rfl) (GotF.cell (b := b3) (i := 0) hA (by kernel_rfl) (by kernel_rfl) (hW.cel 2 rfl) (by kernel_rfl)) ?_
                clear hA
                exact ⟨retv (by rfl), hW.fr⟩)
        · skip
          clear hA ac hW; intro D37 c_ pre_ Hk_ w38 ac hJ_ hA hW
          exact hJ_.elim)
  · skip
    first
    | (exfalso; clear hA hW; omega)
    | (
        refine wpIn_skip ?_
        refine thenN ?_
        refine wpIn_seq ?_
        refine wpIn_region_lit ?_
        refine st_rdF (v := Value.pointer none) hA (by kernel_rfl) (by kernel_rfl) (by kernel_rfl) (by kernel_rfl) hW.cls (Rd.pure fun _ => by kernel_rfl) ?_; clear hA ac; intro ac hA
        refine st_rdF (v := Value.pointer (some ⟨b1, 1, none⟩)) hA (by kernel_rfl) (by kernel_rfl) (by kernel_rfl) (by kernel_rfl) hW.cls (Rd.pure fun _ => by kernel_rfl) ?_; clear hA ac; intro ac hA
        refine st_rdF (v := Value.int .i64 x.i) hA (by kernel_rfl) (by kernel_rfl) (by kernel_rfl) (by kernel_rfl) hW.cls (Rd.load (b := b1) (i := 1) (by kernel_rfl) (fun _ hw => (hw.1).cel 1 rfl) (by kernel_rfl)) ?_; clear hA ac; intro ac hA
        refine stF hA (by kernel_rfl) (by kernel_rfl) (by kernel_rfl) (by kernel_rfl) (RunsF.of (Runs.callN (v := Value.tuple #[Value.int .i64 0, Value.int .i64 1]) (fun _ => by kernel_rfl) hW (e_unlock_nil (x.i) w4) ?_)); clear hA ac hW; intro w39 hW hfw39 ac hA
        refine st_rdF (v := Value.tuple #[Value.int .i64 0, Value.int .i64 1]) hA (by kernel_rfl) (by kernel_rfl) (by kernel_rfl) (by kernel_rfl) hW.cls (Rd.pure fun _ => by kernel_rfl) ?_; clear hA ac; intro ac hA
        refine st_rdF (v := Value.int .i64 0) hA (by kernel_rfl) (by kernel_rfl) (by kernel_rfl) (by kernel_rfl) hW.cls (Rd.pure fun _ => by kernel_rfl) ?_; clear hA ac; intro ac hA
        refine st_rdF (v := Value.int .i64 1) hA (by kernel_rfl) (by kernel_rfl) (by kernel_rfl) (by kernel_rfl) hW.cls (Rd.pure fun _ => by kernel_rfl) ?_; clear hA ac; intro ac hA
        refine st_rdF (v := Value.int .i64 0) hA (by kernel_rfl) (by kernel_rfl) (by kernel_rfl) (by kernel_rfl) hW.cls (Rd.pure fun _ => by kernel_rfl) ?_; clear hA ac; intro ac hA
        refine st_rdF (v := Value.int .i64 1) hA (by kernel_rfl) (by kernel_rfl) (by kernel_rfl) (by kernel_rfl) hW.cls (Rd.pure fun _ => by kernel_rfl) ?_; clear hA ac; intro ac hA
        refine wpListIn_nil ?_
        refine thenN ?_
        refine wpIn_seq ?_
        refine wpIn_region_lit ?_
        refine st_rdF (v := Value.pointer none) hA (by kernel_rfl) (by kernel_rfl) (by kernel_rfl) (by kernel_rfl) hW.cls (Rd.pure fun _ => by kernel_rfl) ?_; clear hA ac; intro ac hA
        refine st_rdF (v := Value.pointer (some ⟨b1, 1, none⟩)) hA (by kernel_rfl) (by kernel_rfl) (by kernel_rfl) (by kernel_rfl) hW.cls (Rd.pure fun _ => by kernel_rfl) ?_; clear hA ac; intro ac hA
        refine st_rdF (v := Value.int .i64 x.i) hA (by kernel_rfl) (by kernel_rfl) (by kernel_rfl) (by kernel_rfl) hW.cls (Rd.load (b := b1) (i := 1) (by kernel_rfl) (fun _ hw => (hw.1).cel 1 rfl) (by kernel_rfl)) ?_; clear hA ac; intro ac hA
        refine stF hA (by kernel_rfl) (by kernel_rfl) (by kernel_rfl) (by kernel_rfl) (RunsF.of (Runs.callN (v := Value.tuple #[Value.int .i64 0, Value.bool false]) (fun _ => by kernel_rfl) hW (e_holder_nil (x.i) w39) ?_)); clear hA ac hW; intro w40 hW hfw40 ac hA
        refine st_rdF (v := Value.tuple #[Value.int .i64 0, Value.bool false]) hA (by kernel_rfl) (by kernel_rfl) (by kernel_rfl) (by kernel_rfl) hW.cls (Rd.pure fun _ => by kernel_rfl) ?_; clear hA ac; intro ac hA
        refine st_rdF (v := Value.int .i64 0) hA (by kernel_rfl) (by kernel_rfl) (by kernel_rfl) (by kernel_rfl) hW.cls (Rd.pure fun _ => by kernel_rfl) ?_; clear hA ac; intro ac hA
        refine st_rdF (v := Value.bool false) hA (by kernel_rfl) (by kernel_rfl) (by kernel_rfl) (by kernel_rfl) hW.cls (Rd.pure fun _ => by kernel_rfl) ?_; clear hA ac; intro ac hA
        refine st_rdF (v := Value.int .i64 0) hA (by kernel_rfl) (by kernel_rfl) (by kernel_rfl) (by kernel_rfl) hW.cls (Rd.pure fun _ => by kernel_rfl) ?_; clear hA ac; intro ac hA
        refine st_rdF (v := Value.bool false) hA (by kernel_rfl) (by kernel_rfl) (by kernel_rfl) (by kernel_rfl) hW.cls (Rd.pure fun _ => by kernel_rfl) ?_; clear hA ac; intro ac hA
        refine wpListIn_nil ?_
        refine thenN ?_
        refine wpIn_seq ?_
        refine wpIn_region_lit ?_
        refine st_rdF (v := Value.pointer none) hA (by kernel_rfl) (by kernel_rfl) (by kernel_rfl) (by kernel_rfl) hW.cls (Rd.pure fun _ => by kernel_rfl) ?_; clear hA ac; intro ac hA
        refine stF hA (by kernel_rfl) (by kernel_rfl) (by kernel_rfl) (by kernel_rfl) (RunsF.of (Runs.call (fun _ => by kernel_rfl) (e_held_nil w40) ?_))
        rintro _ w41 ⟨lb42, g43, rfl, hIg43, hfg43, hfw41⟩; refine ⟨_, rfl, ?_⟩; have hW0 := hW; have hW := hW0.call hfw41; have hW := hW0.addFromAt hW hfg43 in_nil; clear hW0 hA ac; intro ac hA
        refine st_rdF (v := Value.func (.func 32) #[] lb42) hA (by kernel_rfl) (by kernel_rfl) (by kernel_rfl) (by kernel_rfl) hW.cls (Rd.pure fun _ => by kernel_rfl) ?_; clear hA ac; intro ac hA
        refine wpListIn_nil ?_
        refine thenN ?_
        refine wpIn_seq ?_
        refine wpIn_seq ?_
        refine wpIn_region_lit ?_
        refine st_rdF (v := Value.func (.func 32) #[] lb42) hA (by kernel_rfl) (by kernel_rfl) (by kernel_rfl) (by kernel_rfl) hW.cls (Rd.pure fun _ => by kernel_rfl) ?_; clear hA ac; intro ac hA
        refine st_rdF (v := Value.bool false) hA (by kernel_rfl) (by kernel_rfl) (by kernel_rfl) (by kernel_rfl) hW.cls (Rd.pure fun _ => by kernel_rfl) ?_; clear hA ac; intro ac hA
        refine wpListIn_nil ?_
        refine thenN ?_
        refine wpIn_cond_false (hA.eval (by kernel_rfl)) ?_
        refine wpIn_skip ?_
        refine thenN ?_
        refine wpIn_seq ?_
        refine wpIn_seq ?_
        refine wpIn_region_lit ?_
        refine st_rdF (v := Value.func (.func 32) #[] lb42) hA (by kernel_rfl) (by kernel_rfl) (by kernel_rfl) (by kernel_rfl) hW.cls (Rd.pure fun _ => by kernel_rfl) ?_; clear hA ac; intro ac hA
        refine wpListIn_nil ?_
        refine thenN ?_
        refine wpIn_block ?_
        refine wp_range (encs := (fun x_ : Two => #[Value.int .i64 x_.a, Value.int .i64 x_.b])) (Sx := (HeldOf ([] : List (Int × Int)))) hA (by kernel_rfl) (by kernel_rfl) (enters_of Try.func32 (by kernel_rfl) rfl) (by kernel_rfl) (fun _ => rfl) hIg43 (List.forall_mem_singleton.2 (List.mem_of_getElem? (i := 0) rfl)) (fun pre_ H_ => True ∧ H_ = []) (fun _ _ _ => False) (H := []) (K := [Cel b3 #[Value.bool false] 4, Cel b1 #[Value.int .i64 x.what, Value.int .i64 x.i, Value.int .i64 x.by_] 30]) (hW.pick [0, 1] (by decide) rfl) ⟨trivial, rfl⟩ ?_ ?_ ?_
        · skip
          clear hA ac hW; intro l_44 rd_44 bs_44 pre_ x_ Hk_ w45 T_44 ac hrd_44 hbs_44 hbr_44 hok_ hJ_ hA hW hB_44 hT_44
          obtain ⟨_, rfl⟩ := hJ_
          replace hA : Fm 86 [] [(0, x.v), (1, Value.bool zero), (2, Value.pointer (some ⟨b1, 0, none⟩)), (4, Value.pointer (some ⟨b3, 0, none⟩)), (5, Value.pointer none), (6, Value.int .i64 0), (7, Value.int .i64 1), (8, Value.int .i64 0), (9, Value.bool false), (10, Value.func (.func 32) #[] lb42), (13, Value.bool zero), (16, Value.tuple #[Value.int .i64 0, Value.int .i64 1]), (17, Value.pointer none), (18, Value.pointer (some ⟨b1, 1, none⟩)), (19, Value.int .i64 x.i), (20, Value.tuple #[Value.int .i64 0, Value.int .i64 1]), (21, Value.int .i64 0), (22, Value.int .i64 1), (23, Value.tuple #[Value.int .i64 0, Value.bool false]), (24, Value.pointer none), (25, Value.pointer (some ⟨b1, 1, none⟩)), (26, Value.int .i64 x.i), (27, Value.tuple #[Value.int .i64 0, Value.bool false]), (28, Value.int .i64 0), (29, Value.bool false), (30, Value.pointer none), (31, Value.func (.func 32) #[] lb42), (32, Value.func (.func 32) #[] lb42), (33, Value.bool false), (34, Value.func (.func 32) #[] lb42), (35, Value.int .i64 x_.a), (36, Value.int .i64 x_.b)] ac := hA.sub ⟨⟨by kernel_rfl, by kernel_rfl⟩, ⟨by kernel_rfl, by kernel_rfl⟩, ⟨by kernel_rfl, by kernel_rfl⟩, ⟨by kernel_rfl, by kernel_rfl⟩, ⟨by kernel_rfl, by kernel_rfl⟩, ⟨by kernel_rfl, by kernel_rfl⟩, ⟨by kernel_rfl, by kernel_rfl⟩, ⟨by kernel_rfl, by kernel_rfl⟩, ⟨by kernel_rfl, by kernel_rfl⟩, ⟨by kernel_rfl, by kernel_rfl⟩, ⟨by kernel_rfl, by kernel_rfl⟩, ⟨by kernel_rfl, by kernel_rfl⟩, ⟨by kernel_rfl, by kernel_rfl⟩, ⟨by kernel_rfl, by kernel_rfl⟩, ⟨by kernel_rfl, by kernel_rfl⟩, ⟨by kernel_rfl, by kernel_rfl⟩, ⟨by kernel_rfl, by kernel_rfl⟩, ⟨by kernel_rfl, by kernel_rfl⟩, ⟨by kernel_rfl, by kernel_rfl⟩, ⟨by kernel_rfl, by kernel_rfl⟩, ⟨by kernel_rfl, by kernel_rfl⟩, ⟨by kernel_rfl, by kernel_rfl⟩, ⟨by kernel_rfl, by kernel_rfl⟩, ⟨by kernel_rfl, by kernel_rfl⟩, ⟨by kernel_rfl, by kernel_rfl⟩, ⟨by kernel_rfl, by kernel_rfl⟩, ⟨by kernel_rfl, by kernel_rfl⟩, ⟨by kernel_rfl, by kernel_rfl⟩, ⟨by kernel_rfl, by kernel_rfl⟩, ⟨by kernel_rfl, by kernel_rfl⟩, ⟨by kernel_rfl, by kernel_rfl⟩, ⟨by kernel_rfl, by kernel_rfl⟩, trivial⟩
          exact (held_nil_no hok_).elim
        · skip
          clear hA ac hW; intro D46 xs_ Hk_ w47 ac hS_ hJ_ hA hW
          obtain ⟨_, rfl⟩ := hJ_
          replace hW : Ws w No [DefR D46, Cel b3 #[Value.bool false] 4, Cel b1 #[Value.int .i64 x.what, Value.int .i64 x.i, Value.int .i64 x.by_] 30] [g43] w47 := hW
          refine blkN ?_
          refine thenN ?_
          refine wpIn_seq ?_
          refine wpIn_region_lit ?_
          refine stF hA (by kernel_rfl) (by kernel_rfl) (by kernel_rfl) (by kernel_rfl) (RunsF.of (Runs.call (fun _ => by kernel_rfl) (e_newY (0) w47 (by first | omega | (simp; done))) ?_))
          rintro _ w48 ⟨n49, n50, rfl, hu_⟩; refine ⟨_, rfl, ?_⟩; replace hW := hW.made hu_; clear hA ac; intro ac hA
          refine st_rdF (v := Value.tuple #[Value.pointer (some ⟨n49, 0, none⟩), Value.int .i64 0]) hA (by kernel_rfl) (by kernel_rfl) (by kernel_rfl) (by kernel_rfl) hW.cls (Rd.pure fun _ => by kernel_rfl) ?_; clear hA ac; intro ac hA
          refine st_rdF (v := Value.pointer (some ⟨n49, 0, none⟩)) hA (by kernel_rfl) (by kernel_rfl) (by kernel_rfl) (by kernel_rfl) hW.cls (Rd.pure fun _ => by kernel_rfl) ?_; clear hA ac; intro ac hA
          refine st_rdF (v := Value.int .i64 0) hA (by kernel_rfl) (by kernel_rfl) (by kernel_rfl) (by kernel_rfl) hW.cls (Rd.pure fun _ => by kernel_rfl) ?_; clear hA ac; intro ac hA
          refine st_rdF (v := Value.pointer (some ⟨n49, 0, none⟩)) hA (by kernel_rfl) (by kernel_rfl) (by kernel_rfl) (by kernel_rfl) hW.cls (Rd.pure fun _ => by kernel_rfl) ?_; clear hA ac; intro ac hA
          refine st_rdF (v := Value.int .i64 0) hA (by kernel_rfl) (by kernel_rfl) (by kernel_rfl) (by kernel_rfl) hW.cls (Rd.pure fun _ => by kernel_rfl) ?_; clear hA ac; intro ac hA
          refine wpListIn_nil ?_
          refine thenN ?_
          refine wpIn_seq ?_
          refine wpIn_region_lit ?_
          refine st_rdF (v := Value.pointer none) hA (by kernel_rfl) (by kernel_rfl) (by kernel_rfl) (by kernel_rfl) hW.cls (Rd.pure fun _ => by kernel_rfl) ?_; clear hA ac; intro ac hA
          refine st_rdF (v := Value.pointer (some ⟨b1, 1, none⟩)) hA (by kernel_rfl) (by kernel_rfl) (by kernel_rfl) (by kernel_rfl) hW.cls (Rd.pure fun _ => by kernel_rfl) ?_; clear hA ac; intro ac hA
          refine st_rdF (v := Value.int .i64 x.i) hA (by kernel_rfl) (by kernel_rfl) (by kernel_rfl) (by kernel_rfl) hW.cls (Rd.load (b := b1) (i := 1) (by kernel_rfl) (fun _ hw => (hw.1).cel 3 rfl) (by kernel_rfl)) ?_; clear hA ac; intro ac hA
          refine st_rdF (v := Value.pointer (some ⟨b1, 2, none⟩)) hA (by kernel_rfl) (by kernel_rfl) (by kernel_rfl) (by kernel_rfl) hW.cls (Rd.pure fun _ => by kernel_rfl) ?_; clear hA ac; intro ac hA
          refine st_rdF (v := Value.int .i64 x.by_) hA (by kernel_rfl) (by kernel_rfl) (by kernel_rfl) (by kernel_rfl) hW.cls (Rd.load (b := b1) (i := 2) (by kernel_rfl) (fun _ hw => (hw.1).cel 3 rfl) (by kernel_rfl)) ?_; clear hA ac; intro ac hA
          refine stF hA (by kernel_rfl) (by kernel_rfl) (by kernel_rfl) (by kernel_rfl) (RunsF.of (Runs.callN (v := Value.int .i64 1) (fun _ => by kernel_rfl) hW (e_lock_nil (x.i) (x.by_) w48) ?_)); clear hA ac hW; intro w51 hW hfw51 ac hA
          refine stF hA (by kernel_rfl) (by kernel_rfl) (by kernel_rfl) (by kernel_rfl) (RunsF.of (Runs.callS (v := Value.int .i64 (1)) (fun _ => by kernel_rfl) (e_num13 (1) w51) ?_)); clear hA ac; intro  ac hA
          refine st_rdF (v := Value.bool (((1) : Int) == (1 : Int))) hA (by kernel_rfl) (by kernel_rfl) (by kernel_rfl) (by kernel_rfl) hW.cls (Rd.pure fun _ => by kernel_rfl) ?_; clear hA ac; intro ac hA
          refine st_rdF (v := Value.bool (((1) : Int) == (1 : Int))) hA (by kernel_rfl) (by kernel_rfl) (by kernel_rfl) (by kernel_rfl) hW.cls (Rd.pure fun _ => by kernel_rfl) ?_; clear hA ac; intro ac hA
          rcases Bool.eq_false_or_eq_true (((1) : Int) == (1 : Int)) with h52 | h52
          · skip
            rw [h52] at hA
            have h52 := eq_of_beq h52
            first
            | (exfalso; clear hA hW; omega)
            | (
                refine st_rdF (v := Value.int .i64 1) hA (by kernel_rfl) (by kernel_rfl) (by kernel_rfl) (by kernel_rfl) hW.cls (Rd.pure fun _ => by kernel_rfl) ?_; clear hA ac; intro ac hA
                refine stF hA (by kernel_rfl) (by kernel_rfl) (by kernel_rfl) (by kernel_rfl) (RunsF.of (Runs.callS (v := Value.int .i64 (1)) (fun _ => by kernel_rfl) (e_num13 (1) w51) ?_)); clear hA ac; intro  ac hA
                refine st_rdF (v := Value.bool (((1) : Int) == (1 : Int))) hA (by kernel_rfl) (by kernel_rfl) (by kernel_rfl) (by kernel_rfl) hW.cls (Rd.pure fun _ => by kernel_rfl) ?_; clear hA ac; intro ac hA
                refine st_rdF (v := Value.bool (((1) : Int) == (1 : Int))) hA (by kernel_rfl) (by kernel_rfl) (by kernel_rfl) (by kernel_rfl) hW.cls (Rd.pure fun _ => by kernel_rfl) ?_; clear hA ac; intro ac hA
                refine st_rdF (v := Value.bool (((1) : Int) == (1 : Int))) hA (by kernel_rfl) (by kernel_rfl) (by kernel_rfl) (by kernel_rfl) hW.cls (Rd.pure fun _ => by kernel_rfl) ?_; clear hA ac; intro ac hA
                rcases Bool.eq_false_or_eq_true (((1) : Int) == (1 : Int)) with h53 | h53
                · skip
                  rw [h53] at hA
                  have h53 := eq_of_beq h53
                  first
                  | (exfalso; clear hA hW; omega)
                  | (
                      refine st_rdF (v := Value.bool false) hA (by kernel_rfl) (by kernel_rfl) (by kernel_rfl) (by kernel_rfl) hW.cls (Rd.pure fun _ => by kernel_rfl) ?_; clear hA ac; intro ac hA
                      refine st_rdF (v := Value.bool true) hA (by kernel_rfl) (by kernel_rfl) (by kernel_rfl) (by kernel_rfl) hW.cls (Rd.pure fun _ => by kernel_rfl) ?_; clear hA ac; intro ac hA
                      refine st_rdF (v := Value.bool true) hA (by kernel_rfl) (by kernel_rfl) (by kernel_rfl) (by kernel_rfl) hW.cls (Rd.pure fun _ => by kernel_rfl) ?_; clear hA ac; intro ac hA
                      refine st_rdF (v := Value.bool true) hA (by kernel_rfl) (by kernel_rfl) (by kernel_rfl) (by kernel_rfl) hW.cls (Rd.pure fun _ => by kernel_rfl) ?_; clear hA ac; intro ac hA
                      refine st_rdF (v := Value.pointer none) hA (by kernel_rfl) (by kernel_rfl) (by kernel_rfl) (by kernel_rfl) hW.cls (Rd.pure fun _ => by kernel_rfl) ?_; clear hA ac; intro ac hA
                      refine stF hA (by kernel_rfl) (by kernel_rfl) (by kernel_rfl) (by kernel_rfl) (RunsF.of (Runs.callN (v := Value.int .i64 0) (fun _ => by kernel_rfl) hW (e_len_nil w51) ?_)); clear hA ac hW; intro w54 hW hfw54 ac hA
                      refine st_rdF (v := Value.bool true) hA (by kernel_rfl) (by kernel_rfl) (by kernel_rfl) (by kernel_rfl) hW.cls (Rd.pure fun _ => by kernel_rfl) ?_; clear hA ac; intro ac hA
                      refine st_rdF (v := Value.bool true) hA (by kernel_rfl) (by kernel_rfl) (by kernel_rfl) (by kernel_rfl) hW.cls (Rd.pure fun _ => by kernel_rfl) ?_; clear hA ac; intro ac hA
                      refine st_rdF (v := Value.bool true) hA (by kernel_rfl) (by kernel_rfl) (by kernel_rfl) (by kernel_rfl) hW.cls (Rd.pure fun _ => by kernel_rfl) ?_; clear hA ac; intro ac hA
                      refine st_rdF (v := Value.pointer none) hA (by kernel_rfl) (by kernel_rfl) (by kernel_rfl) (by kernel_rfl) hW.cls (Rd.pure fun _ => by kernel_rfl) ?_; clear hA ac; intro ac hA
                      refine stF hA (by kernel_rfl) (by kernel_rfl) (by kernel_rfl) (by kernel_rfl) (RunsF.of (Runs.callN (v := Value.pointer none) (fun _ => by kernel_rfl) hW (e_copy_nil w54) ?_)); clear hA ac hW; intro w55 hW hfw55 ac hA
                      refine st_rdF (v := Value.bool true) hA (by kernel_rfl) (by kernel_rfl) (by kernel_rfl) (by kernel_rfl) hW.cls (Rd.pure fun _ => by kernel_rfl) ?_; clear hA ac; intro ac hA
                      refine st_rdF (v := Value.bool true) hA (by kernel_rfl) (by kernel_rfl) (by kernel_rfl) (by kernel_rfl) hW.cls (Rd.pure fun _ => by kernel_rfl) ?_; clear hA ac; intro ac hA
                      refine st_rdF (v := Value.bool true) hA (by kernel_rfl) (by kernel_rfl) (by kernel_rfl) (by kernel_rfl) hW.cls (Rd.pure fun _ => by kernel_rfl) ?_; clear hA ac; intro ac hA
                      refine st_rdF (v := Value.pointer none) hA (by kernel_rfl) (by kernel_rfl) (by kernel_rfl) (by kernel_rfl) hW.cls (Rd.pure fun _ => by kernel_rfl) ?_; clear hA ac; intro ac hA
                      refine stF hA (by kernel_rfl) (by kernel_rfl) (by kernel_rfl) (by kernel_rfl) (RunsF.of (Runs.callN (v := Value.bool true) (fun _ => by kernel_rfl) hW (e_same_nil w55) ?_)); clear hA ac hW; intro w56 hW hfw56 ac hA
                      refine st_rdF (v := Value.bool true) hA (by kernel_rfl) (by kernel_rfl) (by kernel_rfl) (by kernel_rfl) hW.cls (Rd.pure fun _ => by kernel_rfl) ?_; clear hA ac; intro ac hA
                      refine st_rdF (v := Value.bool true) hA (by kernel_rfl) (by kernel_rfl) (by kernel_rfl) (by kernel_rfl) hW.cls (Rd.pure fun _ => by kernel_rfl) ?_; clear hA ac; intro ac hA
                      refine st_rdF (v := Value.int .i64 0) hA (by kernel_rfl) (by kernel_rfl) (by kernel_rfl) (by kernel_rfl) hW.cls (Rd.pure fun _ => by kernel_rfl) ?_; clear hA ac; intro ac hA
                      refine stF hA (by kernel_rfl) (by kernel_rfl) (by kernel_rfl) (by kernel_rfl) (RunsF.of (Runs.callS (v := Value.int .i64 (0)) (fun _ => by kernel_rfl) (e_num13 (0) w56) ?_)); clear hA ac; intro  ac hA
                      refine st_rdF (v := Value.bool (((0) : Int) == (0 : Int))) hA (by kernel_rfl) (by kernel_rfl) (by kernel_rfl) (by kernel_rfl) hW.cls (Rd.pure fun _ => by kernel_rfl) ?_; clear hA ac; intro ac hA
                      refine st_rdF (v := Value.bool (((0) : Int) == (0 : Int))) hA (by kernel_rfl) (by kernel_rfl) (by kernel_rfl) (by kernel_rfl) hW.cls (Rd.pure fun _ => by kernel_rfl) ?_; clear hA ac; intro ac hA
                      refine st_rdF (v := Value.bool (((0) : Int) == (0 : Int))) hA (by kernel_rfl) (by kernel_rfl) (by kernel_rfl) (by kernel_rfl) hW.cls (Rd.pure fun _ => by kernel_rfl) ?_; clear hA ac; intro ac hA
                      rcases Bool.eq_false_or_eq_true (((0) : Int) == (0 : Int)) with h57 | h57
                      · skip
                        rw [h57] at hA
                        have h57 := eq_of_beq h57
                        first
                        | (exfalso; clear hA hW; omega)
                        | (
                            refine st_rdF (v := Value.pointer (some ⟨n49, 0, none⟩)) hA (by kernel_rfl) (by kernel_rfl) (by kernel_rfl) (by kernel_rfl) hW.cls (Rd.pure fun _ => by kernel_rfl) ?_; clear hA ac; intro ac hA
                            refine st_rdF (v := Value.pointer none) hA (by kernel_rfl) (by kernel_rfl) (by kernel_rfl) (by kernel_rfl) hW.cls (Rd.pure fun _ => by kernel_rfl) ?_; clear hA ac; intro ac hA
                            refine stF hA (by kernel_rfl) (by kernel_rfl) (by kernel_rfl) (by kernel_rfl) (RunsF.of (Runs.callN (v := Value.bool false) (fun _ => by kernel_rfl) hW (e_same_onil n49 n50 ([]) (0) w56 ((hW).get 0 rfl) ((hW).lt _ (List.mem_of_getElem? (i := 0) rfl))) ?_)); clear hA ac hW; intro w58 hW hfw58 ac hA
                            refine st_rdF (v := Value.bool true) hA (by kernel_rfl) (by kernel_rfl) (by kernel_rfl) (by kernel_rfl) hW.cls (Rd.pure fun _ => by kernel_rfl) ?_; clear hA ac; intro ac hA
                            refine st_rdF (v := Value.bool true) hA (by kernel_rfl) (by kernel_rfl) (by kernel_rfl) (by kernel_rfl) hW.cls (Rd.pure fun _ => by kernel_rfl) ?_; clear hA ac; intro ac hA
                            refine st_rdF (v := Value.bool true) hA (by kernel_rfl) (by kernel_rfl) (by kernel_rfl) (by kernel_rfl) hW.cls (Rd.pure fun _ => by kernel_rfl) ?_; clear hA ac; intro ac hA
                            refine stF hA (by kernel_rfl) (by kernel_rfl) (by kernel_rfl) (by kernel_rfl) (RunsF.of (Runs.callN (v := Value.bool true) (fun _ => by kernel_rfl) hW (e_works13 w58) ?_)); clear hA ac hW; intro w59 hW hfw59 ac hA
                            refine st_rdF (v := Value.bool true) hA (by kernel_rfl) (by kernel_rfl) (by kernel_rfl) (by kernel_rfl) hW.cls (Rd.pure fun _ => by kernel_rfl) ?_; clear hA ac; intro ac hA
                            refine stF hA (by kernel_rfl) (by kernel_rfl) (by kernel_rfl) (by kernel_rfl) (RunsF.of (Runs.store (v := Value.bool true) (b := b3) (j := 0) (n := 1) (cs' := #[Value.bool true]) (H' := [MutR n49 n50 ([]) (0), DefR D46, Cel b3 #[Value.bool true] 4, Cel b1 #[Value.int .i64 x.what, Value.int .i64 x.i, Value.int .i64 x.by_] 30]) (by kernel_rfl) (by kernel_rfl) (by kernel_rfl) (by kernel_rfl) (by kernel_rfl) hW 2 (by rfl) (Nat.le_of_ble_eq_true (by kernel_rfl)) (by kernel_rfl) (by rfl) ?_)); clear hA ac hW; intro w60 hW ac hA
                            refine wpListIn_nil ?_
                            refine thenN ?_
                            refine wpIn_ret ?_
                            refine retF (.inl rfl) hA ?_
                            refine leaveD (H' := [MutR n49 n50 ([]) (0), Cel b3 #[Value.bool true] 4, Cel b1 #[Value.int .i64 x.what, Value.int .i64 x.i, Value.int .i64 x.by_] 30]) hW 1 rfl rfl ?_; clear hW; intro w61 hW
                            refine leave1 (v := Value.bool true) (by rfl) (GotF.cell (b := b3) (i := 0) hA (by kernel_rfl) (by kernel_rfl) (hW.cel 1 rfl) (by kernel_rfl)) ?_
                            clear hA
                            exact ⟨retv (by rfl), hW.fr⟩)
                      · skip
                        rw [h57] at hA
                        have h57 := ne_of_beq_false h57
                        first
                        | (exfalso; clear hA hW; omega)
                        | (
                            refine st_skipF hA (by kernel_rfl) (by kernel_rfl) ?_; clear hA ac; intro ac hA
                            refine st_skipF hA (by kernel_rfl) (by kernel_rfl) ?_; clear hA ac; intro ac hA
                            refine st_skipF hA (by kernel_rfl) (by kernel_rfl) ?_; clear hA ac; intro ac hA
                            refine st_skipF hA (by kernel_rfl) (by kernel_rfl) ?_; clear hA ac; intro ac hA
                            refine st_rdF (v := Value.bool false) hA (by kernel_rfl) (by kernel_rfl) (by kernel_rfl) (by kernel_rfl) hW.cls (Rd.pure fun _ => by kernel_rfl) ?_; clear hA ac; intro ac hA
                            refine st_rdF (v := Value.bool false) hA (by kernel_rfl) (by kernel_rfl) (by kernel_rfl) (by kernel_rfl) hW.cls (Rd.pure fun _ => by kernel_rfl) ?_; clear hA ac; intro ac hA
                            refine st_skipF hA (by kernel_rfl) (by kernel_rfl) ?_; clear hA ac; intro ac hA
                            refine st_rdF (v := Value.bool false) hA (by kernel_rfl) (by kernel_rfl) (by kernel_rfl) (by kernel_rfl) hW.cls (Rd.pure fun _ => by kernel_rfl) ?_; clear hA ac; intro ac hA
                            refine stF hA (by kernel_rfl) (by kernel_rfl) (by kernel_rfl) (by kernel_rfl) (RunsF.of (Runs.store (v := Value.bool false) (b := b3) (j := 0) (n := 1) (cs' := #[Value.bool false]) (H' := [MutR n49 n50 ([]) (0), DefR D46, Cel b3 #[Value.bool false] 4, Cel b1 #[Value.int .i64 x.what, Value.int .i64 x.i, Value.int .i64 x.by_] 30]) (by kernel_rfl) (by kernel_rfl) (by kernel_rfl) (by kernel_rfl) (by kernel_rfl) hW 2 (by rfl) (Nat.le_of_ble_eq_true (by kernel_rfl)) (by kernel_rfl) (by rfl) ?_)); clear hA ac hW; intro w62 hW ac hA
                            refine wpListIn_nil ?_
                            refine thenN ?_
                            refine wpIn_ret ?_
                            refine retF (.inl rfl) hA ?_
                            refine leaveD (H' := [MutR n49 n50 ([]) (0), Cel b3 #[Value.bool false] 4, Cel b1 #[Value.int .i64 x.what, Value.int .i64 x.i, Value.int .i64 x.by_] 30]) hW 1 rfl rfl ?_; clear hW; intro w63 hW
                            refine leave1 (v := Value.bool false) (by rfl) (GotF.cell (b := b3) (i := 0) hA (by kernel_rfl) (by kernel_rfl) (hW.cel 1 rfl) (by kernel_rfl)) ?_
                            clear hA
                            exact ⟨retv (by rfl), hW.fr⟩))
                · skip
                  rw [h53] at hA
                  have h53 := ne_of_beq_false h53
                  first
                  | (exfalso; clear hA hW; omega)
                  | (
                      refine st_skipF hA (by kernel_rfl) (by kernel_rfl) ?_; clear hA ac; intro ac hA
                      refine st_skipF hA (by kernel_rfl) (by kernel_rfl) ?_; clear hA ac; intro ac hA
                      refine st_rdF (v := Value.bool false) hA (by kernel_rfl) (by kernel_rfl) (by kernel_rfl) (by kernel_rfl) hW.cls (Rd.pure fun _ => by kernel_rfl) ?_; clear hA ac; intro ac hA
                      refine st_rdF (v := Value.bool false) hA (by kernel_rfl) (by kernel_rfl) (by kernel_rfl) (by kernel_rfl) hW.cls (Rd.pure fun _ => by kernel_rfl) ?_; clear hA ac; intro ac hA
                      refine st_skipF hA (by kernel_rfl) (by kernel_rfl) ?_; clear hA ac; intro ac hA
                      refine st_skipF hA (by kernel_rfl) (by kernel_rfl) ?_; clear hA ac; intro ac hA
                      refine st_skipF hA (by kernel_rfl) (by kernel_rfl) ?_; clear hA ac; intro ac hA
                      refine st_rdF (v := Value.bool false) hA (by kernel_rfl) (by kernel_rfl) (by kernel_rfl) (by kernel_rfl) hW.cls (Rd.pure fun _ => by kernel_rfl) ?_; clear hA ac; intro ac hA
                      refine st_rdF (v := Value.bool false) hA (by kernel_rfl) (by kernel_rfl) (by kernel_rfl) (by kernel_rfl) hW.cls (Rd.pure fun _ => by kernel_rfl) ?_; clear hA ac; intro ac hA
                      refine st_skipF hA (by kernel_rfl) (by kernel_rfl) ?_; clear hA ac; intro ac hA
                      refine st_skipF hA (by kernel_rfl) (by kernel_rfl) ?_; clear hA ac; intro ac hA
                      refine st_skipF hA (by kernel_rfl) (by kernel_rfl) ?_; clear hA ac; intro ac hA
                      refine st_rdF (v := Value.bool false) hA (by kernel_rfl) (by kernel_rfl) (by kernel_rfl) (by kernel_rfl) hW.cls (Rd.pure fun _ => by kernel_rfl) ?_; clear hA ac; intro ac hA
                      refine st_rdF (v := Value.bool false) hA (by kernel_rfl) (by kernel_rfl) (by kernel_rfl) (by kernel_rfl) hW.cls (Rd.pure fun _ => by kernel_rfl) ?_; clear hA ac; intro ac hA
                      refine st_skipF hA (by kernel_rfl) (by kernel_rfl) ?_; clear hA ac; intro ac hA
                      refine st_skipF hA (by kernel_rfl) (by kernel_rfl) ?_; clear hA ac; intro ac hA
                      refine st_rdF (v := Value.bool false) hA (by kernel_rfl) (by kernel_rfl) (by kernel_rfl) (by kernel_rfl) hW.cls (Rd.pure fun _ => by kernel_rfl) ?_; clear hA ac; intro ac hA
                      refine st_rdF (v := Value.bool false) hA (by kernel_rfl) (by kernel_rfl) (by kernel_rfl) (by kernel_rfl) hW.cls (Rd.pure fun _ => by kernel_rfl) ?_; clear hA ac; intro ac hA
                      refine st_skipF hA (by kernel_rfl) (by kernel_rfl) ?_; clear hA ac; intro ac hA
                      refine st_skipF hA (by kernel_rfl) (by kernel_rfl) ?_; clear hA ac; intro ac hA
                      refine st_skipF hA (by kernel_rfl) (by kernel_rfl) ?_; clear hA ac; intro ac hA
                      refine st_rdF (v := Value.bool false) hA (by kernel_rfl) (by kernel_rfl) (by kernel_rfl) (by kernel_rfl) hW.cls (Rd.pure fun _ => by kernel_rfl) ?_; clear hA ac; intro ac hA
                      refine st_rdF (v := Value.bool false) hA (by kernel_rfl) (by kernel_rfl) (by kernel_rfl) (by kernel_rfl) hW.cls (Rd.pure fun _ => by kernel_rfl) ?_; clear hA ac; intro ac hA
                      refine st_skipF hA (by kernel_rfl) (by kernel_rfl) ?_; clear hA ac; intro ac hA
                      refine st_skipF hA (by kernel_rfl) (by kernel_rfl) ?_; clear hA ac; intro ac hA
                      refine st_skipF hA (by kernel_rfl) (by kernel_rfl) ?_; clear hA ac; intro ac hA
                      refine st_skipF hA (by kernel_rfl) (by kernel_rfl) ?_; clear hA ac; intro ac hA
                      refine st_rdF (v := Value.bool false) hA (by kernel_rfl) (by kernel_rfl) (by kernel_rfl) (by kernel_rfl) hW.cls (Rd.pure fun _ => by kernel_rfl) ?_; clear hA ac; intro ac hA
                      refine st_rdF (v := Value.bool false) hA (by kernel_rfl) (by kernel_rfl) (by kernel_rfl) (by kernel_rfl) hW.cls (Rd.pure fun _ => by kernel_rfl) ?_; clear hA ac; intro ac hA
                      refine st_skipF hA (by kernel_rfl) (by kernel_rfl) ?_; clear hA ac; intro ac hA
                      refine st_rdF (v := Value.bool false) hA (by kernel_rfl) (by kernel_rfl) (by kernel_rfl) (by kernel_rfl) hW.cls (Rd.pure fun _ => by kernel_rfl) ?_; clear hA ac; intro ac hA
                      refine stF hA (by kernel_rfl) (by kernel_rfl) (by kernel_rfl) (by kernel_rfl) (RunsF.of (Runs.store (v := Value.bool false) (b := b3) (j := 0) (n := 1) (cs' := #[Value.bool false]) (H' := [MutR n49 n50 ([]) (0), DefR D46, Cel b3 #[Value.bool false] 4, Cel b1 #[Value.int .i64 x.what, Value.int .i64 x.i, Value.int .i64 x.by_] 30]) (by kernel_rfl) (by kernel_rfl) (by kernel_rfl) (by kernel_rfl) (by kernel_rfl) hW 2 (by rfl) (Nat.le_of_ble_eq_true (by kernel_rfl)) (by kernel_rfl) (by rfl) ?_)); clear hA ac hW; intro w64 hW ac hA
                      refine wpListIn_nil ?_
                      refine thenN ?_
                      refine wpIn_ret ?_
                      refine retF (.inl rfl) hA ?_
                      refine leaveD (H' := [MutR n49 n50 ([]) (0), Cel b3 #[Value.bool false] 4, Cel b1 #[Value.int .i64 x.what, Value.int .i64 x.i, Value.int .i64 x.by_] 30]) hW 1 rfl rfl ?_; clear hW; intro w65 hW
                      refine leave1 (v := Value.bool false) (by rfl) (GotF.cell (b := b3) (i := 0) hA (by kernel_rfl) (by kernel_rfl) (hW.cel 1 rfl) (by kernel_rfl)) ?_
                      clear hA
                      exact ⟨retv (by rfl), hW.fr⟩))
          · skip
            rw [h52] at hA
            have h52 := ne_of_beq_false h52
            first
            | (exfalso; clear hA hW; omega)
            | (
                refine st_skipF hA (by kernel_rfl) (by kernel_rfl) ?_; clear hA ac; intro ac hA
                refine st_skipF hA (by kernel_rfl) (by kernel_rfl) ?_; clear hA ac; intro ac hA
                refine st_skipF hA (by kernel_rfl) (by kernel_rfl) ?_; clear hA ac; intro ac hA
                refine st_rdF (v := Value.bool false) hA (by kernel_rfl) (by kernel_rfl) (by kernel_rfl) (by kernel_rfl) hW.cls (Rd.pure fun _ => by kernel_rfl) ?_; clear hA ac; intro ac hA
                refine st_rdF (v := Value.bool false) hA (by kernel_rfl) (by kernel_rfl) (by kernel_rfl) (by kernel_rfl) hW.cls (Rd.pure fun _ => by kernel_rfl) ?_; clear hA ac; intro ac hA
                refine st_skipF hA (by kernel_rfl) (by kernel_rfl) ?_; clear hA ac; intro ac hA
                refine st_skipF hA (by kernel_rfl) (by kernel_rfl) ?_; clear hA ac; intro ac hA
                refine st_rdF (v := Value.bool false) hA (by kernel_rfl) (by kernel_rfl) (by kernel_rfl) (by kernel_rfl) hW.cls (Rd.pure fun _ => by kernel_rfl) ?_; clear hA ac; intro ac hA
                refine st_rdF (v := Value.bool false) hA (by kernel_rfl) (by kernel_rfl) (by kernel_rfl) (by kernel_rfl) hW.cls (Rd.pure fun _ => by kernel_rfl) ?_; clear hA ac; intro ac hA
                refine st_skipF hA (by kernel_rfl) (by kernel_rfl) ?_; clear hA ac; intro ac hA
                refine st_skipF hA (by kernel_rfl) (by kernel_rfl) ?_; clear hA ac; intro ac hA
                refine st_skipF hA (by kernel_rfl) (by kernel_rfl) ?_; clear hA ac; intro ac hA
                refine st_rdF (v := Value.bool false) hA (by kernel_rfl) (by kernel_rfl) (by kernel_rfl) (by kernel_rfl) hW.cls (Rd.pure fun _ => by kernel_rfl) ?_; clear hA ac; intro ac hA
                refine st_rdF (v := Value.bool false) hA (by kernel_rfl) (by kernel_rfl) (by kernel_rfl) (by kernel_rfl) hW.cls (Rd.pure fun _ => by kernel_rfl) ?_; clear hA ac; intro ac hA
                refine st_skipF hA (by kernel_rfl) (by kernel_rfl) ?_; clear hA ac; intro ac hA
                refine st_skipF hA (by kernel_rfl) (by kernel_rfl) ?_; clear hA ac; intro ac hA
                refine st_skipF hA (by kernel_rfl) (by kernel_rfl) ?_; clear hA ac; intro ac hA
                refine st_rdF (v := Value.bool false) hA (by kernel_rfl) (by kernel_rfl) (by kernel_rfl) (by kernel_rfl) hW.cls (Rd.pure fun _ => by kernel_rfl) ?_; clear hA ac; intro ac hA
                refine st_rdF (v := Value.bool false) hA (by kernel_rfl) (by kernel_rfl) (by kernel_rfl) (by kernel_rfl) hW.cls (Rd.pure fun _ => by kernel_rfl) ?_; clear hA ac; intro ac hA
                refine st_skipF hA (by kernel_rfl) (by kernel_rfl) ?_; clear hA ac; intro ac hA
                refine st_skipF hA (by kernel_rfl) (by kernel_rfl) ?_; clear hA ac; intro ac hA
                refine st_rdF (v := Value.bool false) hA (by kernel_rfl) (by kernel_rfl) (by kernel_rfl) (by kernel_rfl) hW.cls (Rd.pure fun _ => by kernel_rfl) ?_; clear hA ac; intro ac hA
                refine st_rdF (v := Value.bool false) hA (by kernel_rfl) (by kernel_rfl) (by kernel_rfl) (by kernel_rfl) hW.cls (Rd.pure fun _ => by kernel_rfl) ?_; clear hA ac; intro ac hA
                refine st_skipF hA (by kernel_rfl) (by kernel_rfl) ?_; clear hA ac; intro ac hA
                refine st_skipF hA (by kernel_rfl) (by kernel_rfl) ?_; clear hA ac; intro ac hA
                refine st_skipF hA (by kernel_rfl) (by kernel_rfl) ?_; clear hA ac; intro ac hA
                refine st_rdF (v := Value.bool false) hA (by kernel_rfl) (by kernel_rfl) (by kernel_rfl) (by kernel_rfl) hW.cls (Rd.pure fun _ => by kernel_rfl) ?_; clear hA ac; intro ac hA
                refine st_rdF (v := Value.bool false) hA (by kernel_rfl) (by kernel_rfl) (by kernel_rfl) (by kernel_rfl) hW.cls (Rd.pure fun _ => by kernel_rfl) ?_; clear hA ac; intro ac hA
                refine st_skipF hA (by kernel_rfl) (by kernel_rfl) ?_; clear hA ac; intro ac hA
                refine st_skipF hA (by kernel_rfl) (by kernel_rfl) ?_; clear hA ac; intro ac hA
                refine st_skipF hA (by kernel_rfl) (by kernel_rfl) ?_; clear hA ac; intro ac hA
                refine st_skipF hA (by kernel_rfl) (by kernel_rfl) ?_; clear hA ac; intro ac hA
                refine st_rdF (v := Value.bool false) hA (by kernel_rfl) (by kernel_rfl) (by kernel_rfl) (by kernel_rfl) hW.cls (Rd.pure fun _ => by kernel_rfl) ?_; clear hA ac; intro ac hA
                refine st_rdF (v := Value.bool false) hA (by kernel_rfl) (by kernel_rfl) (by kernel_rfl) (by kernel_rfl) hW.cls (Rd.pure fun _ => by kernel_rfl) ?_; clear hA ac; intro ac hA
                refine st_skipF hA (by kernel_rfl) (by kernel_rfl) ?_; clear hA ac; intro ac hA
                refine st_rdF (v := Value.bool false) hA (by kernel_rfl) (by kernel_rfl) (by kernel_rfl) (by kernel_rfl) hW.cls (Rd.pure fun _ => by kernel_rfl) ?_; clear hA ac; intro ac hA
                refine stF hA (by kernel_rfl) (by kernel_rfl) (by kernel_rfl) (by kernel_rfl) (RunsF.of (Runs.store (v := Value.bool false) (b := b3) (j := 0) (n := 1) (cs' := #[Value.bool false]) (H' := [MutR n49 n50 ([]) (0), DefR D46, Cel b3 #[Value.bool false] 4, Cel b1 #[Value.int .i64 x.what, Value.int .i64 x.i, Value.int .i64 x.by_] 30]) (by kernel_rfl) (by kernel_rfl) (by kernel_rfl) (by kernel_rfl) (by kernel_rfl) hW 2 (by rfl) (Nat.le_of_ble_eq_true (by kernel_rfl)) (by kernel_rfl) (by rfl) ?_)); clear hA ac hW; intro w66 hW ac hA
                refine wpListIn_nil ?_
                refine thenN ?_
                refine wpIn_ret ?_
                refine retF (.inl rfl) hA ?_
                refine leaveD (H' := [MutR n49 n50 ([]) (0), Cel b3 #[Value.bool false] 4, Cel b1 #[Value.int .i64 x.what, Value.int .i64 x.i, Value.int .i64 x.by_] 30]) hW 1 rfl rfl ?_; clear hW; intro w67 hW
                refine leave1 (v := Value.bool false) (by rfl) (GotF.cell (b := b3) (i := 0) hA (by kernel_rfl) (by kernel_rfl) (hW.cel 1 rfl) (by kernel_rfl)) ?_
                clear hA
                exact ⟨retv (by rfl), hW.fr⟩)
        · skip
          clear hA ac hW; intro D68 c_ pre_ Hk_ w69 ac hJ_ hA hW
          exact hJ_.elim)

theorem none_walk (x : Act13) (zero : Bool) (w : World) (_ : wfAct13 x) : Calls Try.prog 6 #[x.v, .bool zero] w fun e w' => e = .returned (.bool true) ∧ Fr No w w' := e_noneLaw x zero w
end Go.Proofs.Ytgeikokmhkfkgaa.L
