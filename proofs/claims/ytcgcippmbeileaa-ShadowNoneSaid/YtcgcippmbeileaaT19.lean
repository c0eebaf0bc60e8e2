/- Contracts, walked by program over the engine's laws. -/
import Derived.Test.YtcgcippmbeileaaProg
import Derived.Test.YtcgcippmbeileaaT15
import Derived.Test.YtcgcippmbeileaaT14P
namespace Go.Proofs.Ytcgcippmbeileaa.L
open Go.RowKit

set_option maxRecDepth 100000 in
theorem e_snone_nil  (w : World)  : Calls Try.prog 22 #[Value.pointer none] w (fun e w' => e = .returned (Value.bool true) ∧ w = w') := by
 refine enter_E 12 Try.func22 rfl rfl (by kernel_rfl) (L := [(0, Value.pointer none)]) (by kernel_rfl) ?_
 intro ac hA
 have hW := Ws.start w No
 refine wp_seq ?_
 refine wp_region_lit ?_
 refine st_p (Value.bool false) hA ?_; clear hA ac; intro ac hA
 refine wpList_nil ?_
 refine thenN ?_
 refine wp_seq ?_
 refine wp_region_lit ?_
 refine st_p (Value.pointer none) hA ?_; clear hA ac; intro ac hA
 refine st_p (Value.bool true) hA ?_; clear hA ac; intro ac hA
 refine st_p (Value.bool true) hA ?_; clear hA ac; intro ac hA
 refine st_k hA ?_; clear hA ac; intro ac hA
 refine st_k hA ?_; clear hA ac; intro ac hA
 refine st_k hA ?_; clear hA ac; intro ac hA
 refine st_k hA ?_; clear hA ac; intro ac hA
 refine st_k hA ?_; clear hA ac; intro ac hA
 refine st_p (Value.bool true) hA ?_; clear hA ac; intro ac hA
 refine st_p (Value.bool true) hA ?_; clear hA ac; intro ac hA
 refine wpList_nil ?_
 refine thenN ?_
 refine wp_ret ?_
 refine ret1 (v := Value.bool true) (by rfl) hA (Got.tmp hA (by kernel_rfl) (by kernel_rfl)) ?_
 clear hA
 exact ⟨retv (by rfl), rfl⟩

set_option maxRecDepth 100000 in
theorem e_slay_nil (addr : Int) (x : Shade) (w : World)  : Calls Try.prog 9 #[Value.pointer none, Value.int .u32 addr, x.v] w (fun e w' => e = .returned (Value.tuple #[(⟨0, ⟨0, 0⟩, 0, ⟨0, 0⟩, 0⟩ : Shade).v, Value.int .i64 1]) ∧ Fr No w w') := by
 refine enter_E 48 Try.func9 rfl rfl (by kernel_rfl) (L := [(0, Value.pointer none), (1, Value.int .u32 addr), (2, x.v)]) (by kernel_rfl) ?_
 intro ac hA
 have hW := Ws.start w No
 refine wp_seq ?_
 refine wp_region_lit ?_
 refine st_s hA (Runs.cells (fun b => Value.pointer (some ⟨b, 0, none⟩)) #[Value.int .u64 x.wr, Value.int .i64 x.ws.f, Value.int .i64 x.ws.pc, Value.int .u64 x.rd, Value.int .i64 x.rs.f, Value.int .i64 x.rs.pc, Value.int .i64 x.vec] 31 (fun _ => by kernel_rfl) hW ?_); clear hA ac hW; intro b1 w2 hW hb1 hfw2 ac hA
 refine st_s hA (Runs.cells (fun b => Value.pointer (some ⟨b, 0, none⟩)) #[Value.int .u64 0, Value.int .i64 0, Value.int .i64 0, Value.int .u64 0, Value.int .i64 0, Value.int .i64 0, Value.int .i64 0] 31 (fun _ => by kernel_rfl) hW ?_); clear hA ac hW; intro b3 w4 hW hb3 hfw4 ac hA
 refine st_p (Value.int .i64 0) hA ?_; clear hA ac; intro ac hA
 refine wpList_nil ?_
 refine thenN ?_
 refine wp_fwd (l := 0) rfl ?_
 refine wp_seq ?_
 refine wp_seq ?_
 refine wp_region_lit ?_
 refine st_p (Value.int .i64 1) hA ?_; clear hA ac; intro ac hA
 refine wpList_nil ?_
 refine thenN ?_
 refine wp_seq ?_
 refine wp_region_lit ?_
 refine st_p (Value.pointer none) hA ?_; clear hA ac; intro ac hA
 refine st_s hA (Runs.callS (v := Value.bool true) (fun _ => by kernel_rfl) (e_snone_nil w4) ?_); clear hA ac; intro  ac hA
 refine wpList_nil ?_
 refine thenN ?_
 refine wp_cond_true (hA.eval (by kernel_rfl)) ?_
 refine wp_goto ?_
 refine thenG ?_
 refine fwdG ?_
 refine wp_seq ?_
 refine wp_skip ?_
 refine thenN ?_
 refine wp_seq ?_
 refine wp_region_lit ?_
 refine st_p (Value.agg #[Value.int .u64 0, Value.int .i64 0, Value.int .i64 0, Value.int .u64 0, Value.int .i64 0, Value.int .i64 0, Value.int .i64 0]) hA ?_; clear hA ac; intro ac hA
 refine st_p (Value.int .i64 1) hA ?_; clear hA ac; intro ac hA
 refine st_s hA (Runs.store (v := Value.agg #[Value.int .u64 0, Value.int .i64 0, Value.int .i64 0, Value.int .u64 0, Value.int .i64 0, Value.int .i64 0, Value.int .i64 0]) (b := b3) (j := 0) (n := 7) (cs' := #[Value.int .u64 0, Value.int .i64 0, Value.int .i64 0, Value.int .u64 0, Value.int .i64 0, Value.int .i64 0, Value.int .i64 0]) (H' := [Cel b3 #[Value.int .u64 0, Value.int .i64 0, Value.int .i64 0, Value.int .u64 0, Value.int .i64 0, Value.int .i64 0, Value.int .i64 0] 31, Cel b1 #[Value.int .u64 x.wr, Value.int .i64 x.ws.f, Value.int .i64 x.ws.pc, Value.int .u64 x.rd, Value.int .i64 x.rs.f, Value.int .i64 x.rs.pc, Value.int .i64 x.vec] 31]) (by kernel_rfl) (by kernel_rfl) (by kernel_rfl) (by kernel_rfl) (by kernel_rfl) hW 0 (by rfl) (Nat.le_of_ble_eq_true (by kernel_rfl)) (by kernel_rfl) (by rfl) ?_); clear hA ac hW; intro w5 hW ac hA
 refine st_p (Value.int .i64 1) hA ?_; clear hA ac; intro ac hA
 refine wpList_nil ?_
 refine thenN ?_
 refine wp_ret ?_
 refine nogR ?_
 refine ret2 (v1 := Value.agg #[Value.int .u64 0, Value.int .i64 0, Value.int .i64 0, Value.int .u64 0, Value.int .i64 0, Value.int .i64 0, Value.int .i64 0]) (v2 := Value.int .i64 1) (by rfl) hA (Got.cell (b := b3) (i := 0) hA (by kernel_rfl) (by kernel_rfl) (hW.cel 0 rfl) (by kernel_rfl)) (Got.tmp hA (by kernel_rfl) (by kernel_rfl)) ?_
 clear hA
 exact ⟨retv (by rfl), hW.fr⟩

set_option maxRecDepth 100000 in
theorem e_sat_nil (addr : Int) (w : World)  : Calls Try.prog 12 #[Value.pointer none, Value.int .u32 addr] w (fun e w' => e = .returned ((⟨0, ⟨0, 0⟩, 0, ⟨0, 0⟩, 0⟩ : Shade).v) ∧ Fr No w w') := by
 refine enter_E 25 Try.func12 rfl rfl (by kernel_rfl) (L := [(0, Value.pointer none), (1, Value.int .u32 addr)]) (by kernel_rfl) ?_
 intro ac hA
 have hW := Ws.start w No
 refine wp_seq ?_
 refine wp_region_lit ?_
 refine st_s hA (Runs.cells (fun b => Value.pointer (some ⟨b, 0, none⟩)) #[Value.int .u64 0, Value.int .i64 0, Value.int .i64 0, Value.int .u64 0, Value.int .i64 0, Value.int .i64 0, Value.int .i64 0] 31 (fun _ => by kernel_rfl) hW ?_); clear hA ac hW; intro b1 w2 hW hb1 hfw2 ac hA
 refine wpList_nil ?_
 refine thenN ?_
 refine wp_seq ?_
 refine wp_seq ?_
 refine wp_region_lit ?_
 refine st_p (Value.pointer none) hA ?_; clear hA ac; intro ac hA
 refine st_s hA (Runs.callS (v := Value.bool true) (fun _ => by kernel_rfl) (e_snone_nil w2) ?_); clear hA ac; intro  ac hA
 refine st_p (Value.bool true) hA ?_; clear hA ac; intro ac hA
 refine st_k hA ?_; clear hA ac; intro ac hA
 refine st_k hA ?_; clear hA ac; intro ac hA
 refine st_k hA ?_; clear hA ac; intro ac hA
 refine st_k hA ?_; clear hA ac; intro ac hA
 refine st_k hA ?_; clear hA ac; intro ac hA
 refine st_k hA ?_; clear hA ac; intro ac hA
 refine st_k hA ?_; clear hA ac; intro ac hA
 refine st_p (Value.bool true) hA ?_; clear hA ac; intro ac hA
 refine wpList_nil ?_
 refine thenN ?_
 refine wp_cond_true (hA.eval (by kernel_rfl)) ?_
 refine wp_seq ?_
 refine wp_region_lit ?_
 refine st_p (Value.agg #[Value.int .u64 0, Value.int .i64 0, Value.int .i64 0, Value.int .u64 0, Value.int .i64 0, Value.int .i64 0, Value.int .i64 0]) hA ?_; clear hA ac; intro ac hA
 refine st_s hA (Runs.store (v := Value.agg #[Value.int .u64 0, Value.int .i64 0, Value.int .i64 0, Value.int .u64 0, Value.int .i64 0, Value.int .i64 0, Value.int .i64 0]) (b := b1) (j := 0) (n := 7) (cs' := #[Value.int .u64 0, Value.int .i64 0, Value.int .i64 0, Value.int .u64 0, Value.int .i64 0, Value.int .i64 0, Value.int .i64 0]) (H' := [Cel b1 #[Value.int .u64 0, Value.int .i64 0, Value.int .i64 0, Value.int .u64 0, Value.int .i64 0, Value.int .i64 0, Value.int .i64 0] 31]) (by kernel_rfl) (by kernel_rfl) (by kernel_rfl) (by kernel_rfl) (by kernel_rfl) hW 0 (by rfl) (Nat.le_of_ble_eq_true (by kernel_rfl)) (by kernel_rfl) (by rfl) ?_); clear hA ac hW; intro w3 hW ac hA
 refine wpList_nil ?_
 refine thenN ?_
 refine wp_ret ?_
 refine thenR ?_
 refine ret1 (v := Value.agg #[Value.int .u64 0, Value.int .i64 0, Value.int .i64 0, Value.int .u64 0, Value.int .i64 0, Value.int .i64 0, Value.int .i64 0]) (by rfl) hA (Got.cell (b := b1) (i := 0) hA (by kernel_rfl) (by kernel_rfl) (hW.cel 0 rfl) (by kernel_rfl)) ?_
 clear hA
 exact ⟨retv (by rfl), hW.fr⟩

set_option maxRecDepth 100000 in
theorem e_spages_nil  (w : World)  : Calls Try.prog 10 #[Value.pointer none] w (fun e w' => e = .returned (Value.slice none 0 0) ∧ Fr No w w') := by
 refine enter_E 11 Try.func10 rfl rfl (by kernel_rfl) (L := [(0, Value.pointer none)]) (by kernel_rfl) ?_
 intro ac hA
 have hW := Ws.start w No
 refine wp_seq ?_
 refine wp_region_lit ?_
 refine st_p (Value.slice none 0 0) hA ?_; clear hA ac; intro ac hA
 refine wpList_nil ?_
 refine thenN ?_
 refine wp_seq ?_
 refine wp_seq ?_
 refine wp_region_lit ?_
 refine st_p (Value.pointer none) hA ?_; clear hA ac; intro ac hA
 refine st_s hA (Runs.callS (v := Value.bool true) (fun _ => by kernel_rfl) (e_snone_nil w) ?_); clear hA ac; intro  ac hA
 refine wpList_nil ?_
 refine thenN ?_
 refine wp_cond_true (hA.eval (by kernel_rfl)) ?_
 refine wp_seq ?_
 refine wp_region_lit ?_
 refine st_p (Value.slice none 0 0) hA ?_; clear hA ac; intro ac hA
 refine wpList_nil ?_
 refine thenN ?_
 refine wp_ret ?_
 refine thenR ?_
 refine ret1 (v := Value.slice none 0 0) (by rfl) hA (Got.tmp hA (by kernel_rfl) (by kernel_rfl)) ?_
 clear hA
 exact ⟨retv (by rfl), hW.fr⟩

set_option maxRecDepth 100000 in
theorem e_gathV_nil  (w : World)  : Calls Try.prog 39 #[Value.pointer none, Value.func (.func 40) #[] #[]] w (fun e w' => e = .returned (Value.slice none 0 0) ∧ Fr No w w') := by
 refine enter_E 51 Try.func39 rfl rfl (by kernel_rfl) (L := [(0, Value.pointer none), (1, Value.func (.func 40) #[] #[])]) (by kernel_rfl) ?_
 intro ac hA
 have hW := Ws.start w No
 refine wp_seq ?_
 refine wp_region_lit ?_
 refine st_p (Value.slice none 0 0) hA ?_; clear hA ac; intro ac hA
 refine wpList_nil ?_
 refine thenN ?_
 refine wp_seq ?_
 refine wp_seq ?_
 refine wp_region_lit ?_
 refine st_p (Value.pointer none) hA ?_; clear hA ac; intro ac hA
 refine st_s hA (Runs.callN (v := Value.slice none 0 0) (fun _ => by kernel_rfl) hW (e_spages_nil w) ?_); clear hA ac hW; intro w1 hW hfw1 ac hA
 refine st_p (Value.int .i64 0) hA ?_; clear hA ac; intro ac hA
 refine st_p (Value.int .i64 0) hA ?_; clear hA ac; intro ac hA
 refine wpList_nil ?_
 refine thenN ?_
 refine wp_block ?_
 refine wp_loop_rounds 1 ?_
 rw [rounds_succ]
 refine wp_seq ?_
 refine wp_region_lit ?_
 refine st_p (Value.bool false) hA ?_; clear hA ac; intro ac hA
 refine wpList_nil ?_
 refine thenN ?_
 refine wp_seq ?_
 refine wp_cond_false (hA.eval (by kernel_rfl)) ?_
 refine wp_exit ?_
 refine thenX ?_
 refine thenX ?_
 refine blkX ?_
 refine thenN ?_
 refine wp_seq ?_
 refine wp_region_lit ?_
 refine st_p (Value.slice none 0 0) hA ?_; clear hA ac; intro ac hA
 refine st_p (Value.slice none 0 0) hA ?_; clear hA ac; intro ac hA
 refine wpList_nil ?_
 refine thenN ?_
 refine wp_ret ?_
 refine ret1 (v := Value.slice none 0 0) (by rfl) hA (Got.tmp hA (by kernel_rfl) (by kernel_rfl)) ?_
 clear hA
 exact ⟨retv (by rfl), hW.fr⟩

set_option maxRecDepth 100000 in
theorem e_gathA_nil  (w : World)  : Calls Try.prog 35 #[Value.pointer none, Value.func (.func 36) #[] #[]] w (fun e w' => e = .returned (Value.slice none 0 0) ∧ Fr No w w') := by
 refine enter_E 51 Try.func35 rfl rfl (by kernel_rfl) (L := [(0, Value.pointer none), (1, Value.func (.func 36) #[] #[])]) (by kernel_rfl) ?_
 intro ac hA
 have hW := Ws.start w No
 refine wp_seq ?_
 refine wp_region_lit ?_
 refine st_p (Value.slice none 0 0) hA ?_; clear hA ac; intro ac hA
 refine wpList_nil ?_
 refine thenN ?_
 refine wp_seq ?_
 refine wp_seq ?_
 refine wp_region_lit ?_
 refine st_p (Value.pointer none) hA ?_; clear hA ac; intro ac hA
 refine st_s hA (Runs.callN (v := Value.slice none 0 0) (fun _ => by kernel_rfl) hW (e_spages_nil w) ?_); clear hA ac hW; intro w1 hW hfw1 ac hA
 refine st_p (Value.int .i64 0) hA ?_; clear hA ac; intro ac hA
 refine st_p (Value.int .i64 0) hA ?_; clear hA ac; intro ac hA
 refine wpList_nil ?_
 refine thenN ?_
 refine wp_block ?_
 refine wp_loop_rounds 1 ?_
 rw [rounds_succ]
 refine wp_seq ?_
 refine wp_region_lit ?_
 refine st_p (Value.bool false) hA ?_; clear hA ac; intro ac hA
 refine wpList_nil ?_
 refine thenN ?_
 refine wp_seq ?_
 refine wp_cond_false (hA.eval (by kernel_rfl)) ?_
 refine wp_exit ?_
 refine thenX ?_
 refine thenX ?_
 refine blkX ?_
 refine thenN ?_
 refine wp_seq ?_
 refine wp_region_lit ?_
 refine st_p (Value.slice none 0 0) hA ?_; clear hA ac; intro ac hA
 refine st_p (Value.slice none 0 0) hA ?_; clear hA ac; intro ac hA
 refine wpList_nil ?_
 refine thenN ?_
 refine wp_ret ?_
 refine ret1 (v := Value.slice none 0 0) (by rfl) hA (Got.tmp hA (by kernel_rfl) (by kernel_rfl)) ?_
 clear hA
 exact ⟨retv (by rfl), hW.fr⟩

set_option maxRecDepth 100000 in
theorem e_svec_nil  (w : World)  : Calls Try.prog 20 #[Value.pointer none] w (fun e w' => e = .returned (Value.slice none 0 0) ∧ Fr No w w') := by
 refine enter_E 5 Try.func20 rfl rfl (by kernel_rfl) (L := [(0, Value.pointer none)]) (by kernel_rfl) ?_
 intro ac hA
 have hW := Ws.start w No
 refine wp_seq ?_
 refine wp_region_lit ?_
 refine st_p (Value.slice none 0 0) hA ?_; clear hA ac; intro ac hA
 refine wpList_nil ?_
 refine thenN ?_
 refine wp_seq ?_
 refine wp_region_lit ?_
 refine st_p (Value.pointer none) hA ?_; clear hA ac; intro ac hA
 refine st_s hA (Runs.callN (v := Value.slice none 0 0) (fun _ => by kernel_rfl) hW (e_gathV_nil w) ?_); clear hA ac hW; intro w1 hW hfw1 ac hA
 refine st_p (Value.slice none 0 0) hA ?_; clear hA ac; intro ac hA
 refine wpList_nil ?_
 refine thenN ?_
 refine wp_ret ?_
 refine ret1 (v := Value.slice none 0 0) (by rfl) hA (Got.tmp hA (by kernel_rfl) (by kernel_rfl)) ?_
 clear hA
 exact ⟨retv (by rfl), hW.fr⟩

set_option maxRecDepth 100000 in
theorem e_scopy_nil  (w : World)  : Calls Try.prog 15 #[Value.pointer none] w (fun e w' => e = .returned (Value.pointer none) ∧ Fr No w w') := by
 refine enter_E 29 Try.func15 rfl rfl (by kernel_rfl) (L := [(0, Value.pointer none)]) (by kernel_rfl) ?_
 intro ac hA
 have hW := Ws.start w No
 refine wp_seq ?_
 refine wp_region_lit ?_
 refine st_p (Value.pointer none) hA ?_; clear hA ac; intro ac hA
 refine wpList_nil ?_
 refine thenN ?_
 refine wp_seq ?_
 refine wp_seq ?_
 refine wp_region_lit ?_
 refine st_p (Value.pointer none) hA ?_; clear hA ac; intro ac hA
 refine st_s hA (Runs.callS (v := Value.bool true) (fun _ => by kernel_rfl) (e_snone_nil w) ?_); clear hA ac; intro  ac hA
 refine wpList_nil ?_
 refine thenN ?_
 refine wp_cond_true (hA.eval (by kernel_rfl)) ?_
 refine wp_seq ?_
 refine wp_region_lit ?_
 refine st_p (Value.pointer none) hA ?_; clear hA ac; intro ac hA
 refine wpList_nil ?_
 refine thenN ?_
 refine wp_ret ?_
 refine thenR ?_
 refine ret1 (v := Value.pointer none) (by rfl) hA (Got.tmp hA (by kernel_rfl) (by kernel_rfl)) ?_
 clear hA
 exact ⟨retv (by rfl), hW.fr⟩

set_option maxRecDepth 100000 in
theorem e_ssame_nil  (w : World)  : Calls Try.prog 17 #[Value.pointer none, Value.pointer none] w (fun e w' => e = .returned (Value.bool true) ∧ Fr No w w') := by
 refine enter_E 26 Try.func17 rfl rfl (by kernel_rfl) (L := [(0, Value.pointer none), (1, Value.pointer none)]) (by kernel_rfl) ?_
 intro ac hA
 have hW := Ws.start w No
 refine wp_seq ?_
 refine wp_region_lit ?_
 refine st_p (Value.bool false) hA ?_; clear hA ac; intro ac hA
 refine wpList_nil ?_
 refine thenN ?_
 refine wp_seq ?_
 refine wp_seq ?_
 refine wp_region_lit ?_
 refine st_p (Value.pointer none) hA ?_; clear hA ac; intro ac hA
 refine st_s hA (Runs.callS (v := Value.bool true) (fun _ => by kernel_rfl) (e_snone_nil w) ?_); clear hA ac; intro  ac hA
 refine st_p (Value.bool true) hA ?_; clear hA ac; intro ac hA
 refine st_k hA ?_; clear hA ac; intro ac hA
 refine st_k hA ?_; clear hA ac; intro ac hA
 refine st_p (Value.bool true) hA ?_; clear hA ac; intro ac hA
 refine wpList_nil ?_
 refine thenN ?_
 refine wp_cond_true (hA.eval (by kernel_rfl)) ?_
 refine wp_seq ?_
 refine wp_region_lit ?_
 refine st_p (Value.pointer none) hA ?_; clear hA ac; intro ac hA
 refine st_s hA (Runs.callS (v := Value.bool true) (fun _ => by kernel_rfl) (e_snone_nil w) ?_); clear hA ac; intro  ac hA
 refine st_p (Value.bool true) hA ?_; clear hA ac; intro ac hA
 refine st_p (Value.pointer none) hA ?_; clear hA ac; intro ac hA
 refine st_s hA (Runs.callS (v := Value.bool true) (fun _ => by kernel_rfl) (e_snone_nil w) ?_); clear hA ac; intro  ac hA
 refine st_p (Value.bool true) hA ?_; clear hA ac; intro ac hA
 refine st_p (Value.bool true) hA ?_; clear hA ac; intro ac hA
 refine wpList_nil ?_
 refine thenN ?_
 refine wp_ret ?_
 refine thenR ?_
 refine ret1 (v := Value.bool true) (by rfl) hA (Got.tmp hA (by kernel_rfl) (by kernel_rfl)) ?_
 clear hA
 exact ⟨retv (by rfl), hW.fr⟩

set_option maxRecDepth 100000 in
theorem e_ssame_onil (m : Nat) (b : Nat) (V : VT22) (w : World) (ho_p : (ShR m b V).p w) (hl_p : ∀ x_ ∈ (ShR m b V).fp, x_ < w.heap.size) : Calls Try.prog 17 #[Value.pointer (some ⟨m, 0, none⟩), Value.pointer none] w (fun e w' => e = .returned (Value.bool false) ∧ Fr No w w') := by
 have _hu := ho_p; have _hv := hl_p; clear _hu _hv
 refine enter_E 26 Try.func17 rfl rfl (by kernel_rfl) (L := [(0, Value.pointer (some ⟨m, 0, none⟩)), (1, Value.pointer none)]) (by kernel_rfl) ?_
 intro ac hA
 have hW := Ws.start w No
 have hW := hW.objG (L := [Cel m #[Value.map (some b)] 55, mapR b (fun a : Int => Value.int .u32 a) (fun x_ : Nat => Value.pointer (some ⟨x_, 0, none⟩)) (outs V), SubR (fun (c_ : Nat → Shade) (b_ : Nat) => PsR 4096 enShade 67 c_ b_) V]) ho_p hl_p
 clear ho_p hl_p
 refine wp_seq ?_
 refine wp_region_lit ?_
 refine st_p (Value.bool false) hA ?_; clear hA ac; intro ac hA
 refine wpList_nil ?_
 refine thenN ?_
 refine wp_seq ?_
 refine wp_seq ?_
 refine wp_region_lit ?_
 refine st_p (Value.pointer (some ⟨m, 0, none⟩)) hA ?_; clear hA ac; intro ac hA
 refine st_s hA (Runs.callS (v := Value.bool false) (fun _ => by kernel_rfl) (e_snone m b w (show _ = _ from (hW).getG 0 rfl)) ?_); clear hA ac; intro  ac hA
 refine st_p (Value.bool false) hA ?_; clear hA ac; intro ac hA
 refine st_p (Value.pointer none) hA ?_; clear hA ac; intro ac hA
 refine st_s hA (Runs.callS (v := Value.bool true) (fun _ => by kernel_rfl) (e_snone_nil w) ?_); clear hA ac; intro  ac hA
 refine st_p (Value.bool true) hA ?_; clear hA ac; intro ac hA
 refine wpList_nil ?_
 refine thenN ?_
 refine wp_cond_true (hA.eval (by kernel_rfl)) ?_
 refine wp_seq ?_
 refine wp_region_lit ?_
 refine st_p (Value.pointer (some ⟨m, 0, none⟩)) hA ?_; clear hA ac; intro ac hA
 refine st_s hA (Runs.callS (v := Value.bool false) (fun _ => by kernel_rfl) (e_snone m b w (show _ = _ from (hW).getG 0 rfl)) ?_); clear hA ac; intro  ac hA
 refine st_p (Value.bool false) hA ?_; clear hA ac; intro ac hA
 refine st_k hA ?_; clear hA ac; intro ac hA
 refine st_k hA ?_; clear hA ac; intro ac hA
 refine st_p (Value.bool false) hA ?_; clear hA ac; intro ac hA
 refine st_p (Value.bool false) hA ?_; clear hA ac; intro ac hA
 refine wpList_nil ?_
 refine thenN ?_
 refine wp_ret ?_
 refine thenR ?_
 refine ret1 (v := Value.bool false) (by rfl) hA (Got.tmp hA (by kernel_rfl) (by kernel_rfl)) ?_
 clear hA
 exact ⟨retv (by rfl), hW.fr⟩

set_option maxRecDepth 100000 in
theorem e_sall_nil  (w : World)  : Calls Try.prog 18 #[Value.pointer none] w (fun e w' => ∃ (lb : Array Value) (g : Res), e = .returned (Value.func (.func 37) #[] lb) ∧ Iter Try.prog 37 lb (fun x_ : Cell22 => #[Value.int .u32 x_.addr, x_.x.v]) (· = ([] : List Cell22)) [g] ∧ g.from_ [] w w' ∧ Fr No w w') := by
 refine enter_E 7 Try.func18 rfl rfl (by kernel_rfl) (L := [(0, Value.pointer none)]) (by kernel_rfl) ?_
 intro ac hA
 have hW := Ws.start w No
 refine wp_seq ?_
 refine wp_region_lit ?_
 refine st_p (Value.nilFunc) hA ?_; clear hA ac; intro ac hA
 refine wpList_nil ?_
 refine thenN ?_
 refine wp_seq ?_
 refine wp_region_lit ?_
 refine st_p (Value.pointer none) hA ?_; clear hA ac; intro ac hA
 refine st_s hA (Runs.callN (v := Value.slice none 0 0) (fun _ => by kernel_rfl) hW (e_gathA_nil w) ?_); clear hA ac hW; intro w1 hW hfw1 ac hA
 refine st_s hA (Runs.cells (fun b => Value.pointer (some ⟨b, 0, none⟩)) #[Value.slice none 0 0] 78 (fun _ => by kernel_rfl) hW ?_); clear hA ac hW; intro b2 w3 hW hb2 hfw3 ac hA
 refine st_s hA (Runs.store (v := Value.slice none 0 0) (b := b2) (j := 0) (n := 1) (cs' := #[Value.slice none 0 0]) (H' := [Cel b2 #[Value.slice none 0 0] 78]) (by kernel_rfl) (by kernel_rfl) (by kernel_rfl) (by kernel_rfl) (by kernel_rfl) hW 0 (by rfl) (Nat.le_of_ble_eq_true (by kernel_rfl)) (by kernel_rfl) (by rfl) ?_); clear hA ac hW; intro w4 hW ac hA
 refine wpList_nil ?_
 refine thenN ?_
 refine wp_seq ?_
 refine wp_region_lit ?_
 refine st_p (Value.func (.func 37) #[] #[Value.pointer (some ⟨b2, 0, none⟩)]) hA ?_; clear hA ac; intro ac hA
 refine st_p (Value.func (.func 37) #[] #[Value.pointer (some ⟨b2, 0, none⟩)]) hA ?_; clear hA ac; intro ac hA
 refine wpList_nil ?_
 refine thenN ?_
 refine wp_ret ?_
 refine ret1 (v := Value.func (.func 37) #[] #[Value.pointer (some ⟨b2, 0, none⟩)]) (by rfl) hA (Got.tmp hA (by kernel_rfl) (by kernel_rfl)) ?_
 clear hA
 exact ⟨_, _, rfl, iter_many (it_37 b2 none 0 [] (by simp) (by simp)), from_many (froms_cons (hW.outOwn 0 rfl (fun _ h => h)) (froms_cons from_nil froms_nil)), hW.fr⟩

set_option maxRecDepth 100000 in
theorem e_snone_z (p : Nat) (w : World) (ho_p : w.heap[p]? = some (.cells #[Value.map none] 55 (0, 0))) : Calls Try.prog 22 #[Value.pointer (some ⟨p, 0, none⟩)] w (fun e w' => e = .returned (Value.bool true) ∧ w = w') := by
 have _hu := ho_p; clear _hu
 refine enter_E 12 Try.func22 rfl rfl (by kernel_rfl) (L := [(0, Value.pointer (some ⟨p, 0, none⟩))]) (by kernel_rfl) ?_
 intro ac hA
 have hW := Ws.start w No
 have hW := hW.celG ho_p
 refine wp_seq ?_
 refine wp_region_lit ?_
 refine st_p (Value.bool false) hA ?_; clear hA ac; intro ac hA
 refine wpList_nil ?_
 refine thenN ?_
 refine wp_seq ?_
 refine wp_region_lit ?_
 refine st_p (Value.pointer (some ⟨p, 0, none⟩)) hA ?_; clear hA ac; intro ac hA
 refine st_p (Value.bool false) hA ?_; clear hA ac; intro ac hA
 refine st_p (Value.bool false) hA ?_; clear hA ac; intro ac hA
 refine st_p (Value.pointer (some ⟨p, 0, none⟩)) hA ?_; clear hA ac; intro ac hA
 refine st_p (Value.pointer (some ⟨p, 0, none⟩)) hA ?_; clear hA ac; intro ac hA
 refine st_p (Value.pointer (some ⟨p, 0, none⟩)) hA ?_; clear hA ac; intro ac hA
 refine st_q (Value.map none) hA hW.cls (Rd.load (b := p) (i := 0) (by kernel_rfl) (fun _ hw => show _ = _ from (hw.1).getG 0 rfl) (by kernel_rfl)) ?_; clear hA ac; intro ac hA
 refine st_p (Value.bool true) hA ?_; clear hA ac; intro ac hA
 refine st_p (Value.bool true) hA ?_; clear hA ac; intro ac hA
 refine st_p (Value.bool true) hA ?_; clear hA ac; intro ac hA
 refine wpList_nil ?_
 refine thenN ?_
 refine wp_ret ?_
 refine ret1 (v := Value.bool true) (by rfl) hA (Got.tmp hA (by kernel_rfl) (by kernel_rfl)) ?_
 clear hA
 exact ⟨retv (by rfl), rfl⟩

set_option maxRecDepth 100000 in
theorem e_slay_z (p : Nat) (addr : Int) (x : Shade) (w : World) (ho_p : w.heap[p]? = some (.cells #[Value.map none] 55 (0, 0))) : Calls Try.prog 9 #[Value.pointer (some ⟨p, 0, none⟩), Value.int .u32 addr, x.v] w (fun e w' => e = .returned (Value.tuple #[(⟨0, ⟨0, 0⟩, 0, ⟨0, 0⟩, 0⟩ : Shade).v, Value.int .i64 1]) ∧ Fr No w w') := by
 have _hu := ho_p; clear _hu
 refine enter_E 48 Try.func9 rfl rfl (by kernel_rfl) (L := [(0, Value.pointer (some ⟨p, 0, none⟩)), (1, Value.int .u32 addr), (2, x.v)]) (by kernel_rfl) ?_
 intro ac hA
 have hW := Ws.start w No
 have hW := hW.celG ho_p
 refine wp_seq ?_
 refine wp_region_lit ?_
 refine st_s hA (Runs.cells (fun b => Value.pointer (some ⟨b, 0, none⟩)) #[Value.int .u64 x.wr, Value.int .i64 x.ws.f, Value.int .i64 x.ws.pc, Value.int .u64 x.rd, Value.int .i64 x.rs.f, Value.int .i64 x.rs.pc, Value.int .i64 x.vec] 31 (fun _ => by kernel_rfl) hW ?_); clear hA ac hW; intro b1 w2 hW hb1 hfw2 ac hA
 refine st_s hA (Runs.cells (fun b => Value.pointer (some ⟨b, 0, none⟩)) #[Value.int .u64 0, Value.int .i64 0, Value.int .i64 0, Value.int .u64 0, Value.int .i64 0, Value.int .i64 0, Value.int .i64 0] 31 (fun _ => by kernel_rfl) hW ?_); clear hA ac hW; intro b3 w4 hW hb3 hfw4 ac hA
 refine st_p (Value.int .i64 0) hA ?_; clear hA ac; intro ac hA
 refine wpList_nil ?_
 refine thenN ?_
 refine wp_fwd (l := 0) rfl ?_
 refine wp_seq ?_
 refine wp_seq ?_
 refine wp_region_lit ?_
 refine st_p (Value.int .i64 1) hA ?_; clear hA ac; intro ac hA
 refine wpList_nil ?_
 refine thenN ?_
 refine wp_seq ?_
 refine wp_region_lit ?_
 refine st_p (Value.pointer (some ⟨p, 0, none⟩)) hA ?_; clear hA ac; intro ac hA
 refine st_s hA (Runs.callS (v := Value.bool true) (fun _ => by kernel_rfl) (e_snone_z p w4 (show _ = _ from (hW).getG 0 rfl)) ?_); clear hA ac; intro  ac hA
 refine wpList_nil ?_
 refine thenN ?_
 refine wp_cond_true (hA.eval (by kernel_rfl)) ?_
 refine wp_goto ?_
 refine thenG ?_
 refine fwdG ?_
 refine wp_seq ?_
 refine wp_skip ?_
 refine thenN ?_
 refine wp_seq ?_
 refine wp_region_lit ?_
 refine st_p (Value.agg #[Value.int .u64 0, Value.int .i64 0, Value.int .i64 0, Value.int .u64 0, Value.int .i64 0, Value.int .i64 0, Value.int .i64 0]) hA ?_; clear hA ac; intro ac hA
 refine st_p (Value.int .i64 1) hA ?_; clear hA ac; intro ac hA
 refine st_s hA (Runs.store (v := Value.agg #[Value.int .u64 0, Value.int .i64 0, Value.int .i64 0, Value.int .u64 0, Value.int .i64 0, Value.int .i64 0, Value.int .i64 0]) (b := b3) (j := 0) (n := 7) (cs' := #[Value.int .u64 0, Value.int .i64 0, Value.int .i64 0, Value.int .u64 0, Value.int .i64 0, Value.int .i64 0, Value.int .i64 0]) (H' := [Cel b3 #[Value.int .u64 0, Value.int .i64 0, Value.int .i64 0, Value.int .u64 0, Value.int .i64 0, Value.int .i64 0, Value.int .i64 0] 31, Cel b1 #[Value.int .u64 x.wr, Value.int .i64 x.ws.f, Value.int .i64 x.ws.pc, Value.int .u64 x.rd, Value.int .i64 x.rs.f, Value.int .i64 x.rs.pc, Value.int .i64 x.vec] 31]) (by kernel_rfl) (by kernel_rfl) (by kernel_rfl) (by kernel_rfl) (by kernel_rfl) hW 0 (by rfl) (Nat.le_of_ble_eq_true (by kernel_rfl)) (by kernel_rfl) (by rfl) ?_); clear hA ac hW; intro w5 hW ac hA
 refine st_p (Value.int .i64 1) hA ?_; clear hA ac; intro ac hA
 refine wpList_nil ?_
 refine thenN ?_
 refine wp_ret ?_
 refine nogR ?_
 refine ret2 (v1 := Value.agg #[Value.int .u64 0, Value.int .i64 0, Value.int .i64 0, Value.int .u64 0, Value.int .i64 0, Value.int .i64 0, Value.int .i64 0]) (v2 := Value.int .i64 1) (by rfl) hA (Got.cell (b := b3) (i := 0) hA (by kernel_rfl) (by kernel_rfl) (hW.cel 0 rfl) (by kernel_rfl)) (Got.tmp hA (by kernel_rfl) (by kernel_rfl)) ?_
 clear hA
 exact ⟨retv (by rfl), hW.fr⟩

set_option maxRecDepth 100000 in
theorem e_sat_z (p : Nat) (addr : Int) (w : World) (ho_p : w.heap[p]? = some (.cells #[Value.map none] 55 (0, 0))) : Calls Try.prog 12 #[Value.pointer (some ⟨p, 0, none⟩), Value.int .u32 addr] w (fun e w' => e = .returned ((⟨0, ⟨0, 0⟩, 0, ⟨0, 0⟩, 0⟩ : Shade).v) ∧ Fr No w w') := by
 have _hu := ho_p; clear _hu
 refine enter_E 25 Try.func12 rfl rfl (by kernel_rfl) (L := [(0, Value.pointer (some ⟨p, 0, none⟩)), (1, Value.int .u32 addr)]) (by kernel_rfl) ?_
 intro ac hA
 have hW := Ws.start w No
 have hW := hW.celG ho_p
 refine wp_seq ?_
 refine wp_region_lit ?_
 refine st_s hA (Runs.cells (fun b => Value.pointer (some ⟨b, 0, none⟩)) #[Value.int .u64 0, Value.int .i64 0, Value.int .i64 0, Value.int .u64 0, Value.int .i64 0, Value.int .i64 0, Value.int .i64 0] 31 (fun _ => by kernel_rfl) hW ?_); clear hA ac hW; intro b1 w2 hW hb1 hfw2 ac hA
 refine wpList_nil ?_
 refine thenN ?_
 refine wp_seq ?_
 refine wp_seq ?_
 refine wp_region_lit ?_
 refine st_p (Value.pointer (some ⟨p, 0, none⟩)) hA ?_; clear hA ac; intro ac hA
 refine st_s hA (Runs.callS (v := Value.bool true) (fun _ => by kernel_rfl) (e_snone_z p w2 (show _ = _ from (hW).getG 0 rfl)) ?_); clear hA ac; intro  ac hA
 refine st_p (Value.bool true) hA ?_; clear hA ac; intro ac hA
 refine st_k hA ?_; clear hA ac; intro ac hA
 refine st_k hA ?_; clear hA ac; intro ac hA
 refine st_k hA ?_; clear hA ac; intro ac hA
 refine st_k hA ?_; clear hA ac; intro ac hA
 refine st_k hA ?_; clear hA ac; intro ac hA
 refine st_k hA ?_; clear hA ac; intro ac hA
 refine st_k hA ?_; clear hA ac; intro ac hA
 refine st_p (Value.bool true) hA ?_; clear hA ac; intro ac hA
 refine wpList_nil ?_
 refine thenN ?_
 refine wp_cond_true (hA.eval (by kernel_rfl)) ?_
 refine wp_seq ?_
 refine wp_region_lit ?_
 refine st_p (Value.agg #[Value.int .u64 0, Value.int .i64 0, Value.int .i64 0, Value.int .u64 0, Value.int .i64 0, Value.int .i64 0, Value.int .i64 0]) hA ?_; clear hA ac; intro ac hA
 refine st_s hA (Runs.store (v := Value.agg #[Value.int .u64 0, Value.int .i64 0, Value.int .i64 0, Value.int .u64 0, Value.int .i64 0, Value.int .i64 0, Value.int .i64 0]) (b := b1) (j := 0) (n := 7) (cs' := #[Value.int .u64 0, Value.int .i64 0, Value.int .i64 0, Value.int .u64 0, Value.int .i64 0, Value.int .i64 0, Value.int .i64 0]) (H' := [Cel b1 #[Value.int .u64 0, Value.int .i64 0, Value.int .i64 0, Value.int .u64 0, Value.int .i64 0, Value.int .i64 0, Value.int .i64 0] 31]) (by kernel_rfl) (by kernel_rfl) (by kernel_rfl) (by kernel_rfl) (by kernel_rfl) hW 0 (by rfl) (Nat.le_of_ble_eq_true (by kernel_rfl)) (by kernel_rfl) (by rfl) ?_); clear hA ac hW; intro w3 hW ac hA
 refine wpList_nil ?_
 refine thenN ?_
 refine wp_ret ?_
 refine thenR ?_
 refine ret1 (v := Value.agg #[Value.int .u64 0, Value.int .i64 0, Value.int .i64 0, Value.int .u64 0, Value.int .i64 0, Value.int .i64 0, Value.int .i64 0]) (by rfl) hA (Got.cell (b := b1) (i := 0) hA (by kernel_rfl) (by kernel_rfl) (hW.cel 0 rfl) (by kernel_rfl)) ?_
 clear hA
 exact ⟨retv (by rfl), hW.fr⟩

set_option maxRecDepth 100000 in
theorem e_spages_z (p : Nat) (w : World) (ho_p : w.heap[p]? = some (.cells #[Value.map none] 55 (0, 0))) : Calls Try.prog 10 #[Value.pointer (some ⟨p, 0, none⟩)] w (fun e w' => e = .returned (Value.slice none 0 0) ∧ Fr No w w') := by
 have _hu := ho_p; clear _hu
 refine enter_E 11 Try.func10 rfl rfl (by kernel_rfl) (L := [(0, Value.pointer (some ⟨p, 0, none⟩))]) (by kernel_rfl) ?_
 intro ac hA
 have hW := Ws.start w No
 have hW := hW.celG ho_p
 refine wp_seq ?_
 refine wp_region_lit ?_
 refine st_p (Value.slice none 0 0) hA ?_; clear hA ac; intro ac hA
 refine wpList_nil ?_
 refine thenN ?_
 refine wp_seq ?_
 refine wp_seq ?_
 refine wp_region_lit ?_
 refine st_p (Value.pointer (some ⟨p, 0, none⟩)) hA ?_; clear hA ac; intro ac hA
 refine st_s hA (Runs.callS (v := Value.bool true) (fun _ => by kernel_rfl) (e_snone_z p w (show _ = _ from (hW).getG 0 rfl)) ?_); clear hA ac; intro  ac hA
 refine wpList_nil ?_
 refine thenN ?_
 refine wp_cond_true (hA.eval (by kernel_rfl)) ?_
 refine wp_seq ?_
 refine wp_region_lit ?_
 refine st_p (Value.slice none 0 0) hA ?_; clear hA ac; intro ac hA
 refine wpList_nil ?_
 refine thenN ?_
 refine wp_ret ?_
 refine thenR ?_
 refine ret1 (v := Value.slice none 0 0) (by rfl) hA (Got.tmp hA (by kernel_rfl) (by kernel_rfl)) ?_
 clear hA
 exact ⟨retv (by rfl), hW.fr⟩

set_option maxRecDepth 100000 in
theorem e_gathV_z (s_ : Nat) (w : World) (ho_s_ : w.heap[s_]? = some (.cells #[Value.map none] 55 (0, 0))) : Calls Try.prog 39 #[Value.pointer (some ⟨s_, 0, none⟩), Value.func (.func 40) #[] #[]] w (fun e w' => e = .returned (Value.slice none 0 0) ∧ Fr No w w') := by
 have _hu := ho_s_; clear _hu
 refine enter_E 51 Try.func39 rfl rfl (by kernel_rfl) (L := [(0, Value.pointer (some ⟨s_, 0, none⟩)), (1, Value.func (.func 40) #[] #[])]) (by kernel_rfl) ?_
 intro ac hA
 have hW := Ws.start w No
 have hW := hW.celG ho_s_
 refine wp_seq ?_
 refine wp_region_lit ?_
 refine st_p (Value.slice none 0 0) hA ?_; clear hA ac; intro ac hA
 refine wpList_nil ?_
 refine thenN ?_
 refine wp_seq ?_
 refine wp_seq ?_
 refine wp_region_lit ?_
 refine st_p (Value.pointer (some ⟨s_, 0, none⟩)) hA ?_; clear hA ac; intro ac hA
 refine st_s hA (Runs.callN (v := Value.slice none 0 0) (fun _ => by kernel_rfl) hW (e_spages_z s_ w (show _ = _ from (hW).getG 0 rfl)) ?_); clear hA ac hW; intro w1 hW hfw1 ac hA
 refine st_p (Value.int .i64 0) hA ?_; clear hA ac; intro ac hA
 refine st_p (Value.int .i64 0) hA ?_; clear hA ac; intro ac hA
 refine wpList_nil ?_
 refine thenN ?_
 refine wp_block ?_
 refine wp_loop_rounds 1 ?_
 rw [rounds_succ]
 refine wp_seq ?_
 refine wp_region_lit ?_
 refine st_p (Value.bool false) hA ?_; clear hA ac; intro ac hA
 refine wpList_nil ?_
 refine thenN ?_
 refine wp_seq ?_
 refine wp_cond_false (hA.eval (by kernel_rfl)) ?_
 refine wp_exit ?_
 refine thenX ?_
 refine thenX ?_
 refine blkX ?_
 refine thenN ?_
 refine wp_seq ?_
 refine wp_region_lit ?_
 refine st_p (Value.slice none 0 0) hA ?_; clear hA ac; intro ac hA
 refine st_p (Value.slice none 0 0) hA ?_; clear hA ac; intro ac hA
 refine wpList_nil ?_
 refine thenN ?_
 refine wp_ret ?_
 refine ret1 (v := Value.slice none 0 0) (by rfl) hA (Got.tmp hA (by kernel_rfl) (by kernel_rfl)) ?_
 clear hA
 exact ⟨retv (by rfl), hW.fr⟩

set_option maxRecDepth 100000 in
theorem e_gathA_z (s_ : Nat) (w : World) (ho_s_ : w.heap[s_]? = some (.cells #[Value.map none] 55 (0, 0))) : Calls Try.prog 35 #[Value.pointer (some ⟨s_, 0, none⟩), Value.func (.func 36) #[] #[]] w (fun e w' => e = .returned (Value.slice none 0 0) ∧ Fr No w w') := by
 have _hu := ho_s_; clear _hu
 refine enter_E 51 Try.func35 rfl rfl (by kernel_rfl) (L := [(0, Value.pointer (some ⟨s_, 0, none⟩)), (1, Value.func (.func 36) #[] #[])]) (by kernel_rfl) ?_
 intro ac hA
 have hW := Ws.start w No
 have hW := hW.celG ho_s_
 refine wp_seq ?_
 refine wp_region_lit ?_
 refine st_p (Value.slice none 0 0) hA ?_; clear hA ac; intro ac hA
 refine wpList_nil ?_
 refine thenN ?_
 refine wp_seq ?_
 refine wp_seq ?_
 refine wp_region_lit ?_
 refine st_p (Value.pointer (some ⟨s_, 0, none⟩)) hA ?_; clear hA ac; intro ac hA
 refine st_s hA (Runs.callN (v := Value.slice none 0 0) (fun _ => by kernel_rfl) hW (e_spages_z s_ w (show _ = _ from (hW).getG 0 rfl)) ?_); clear hA ac hW; intro w1 hW hfw1 ac hA
 refine st_p (Value.int .i64 0) hA ?_; clear hA ac; intro ac hA
 refine st_p (Value.int .i64 0) hA ?_; clear hA ac; intro ac hA
 refine wpList_nil ?_
 refine thenN ?_
 refine wp_block ?_
 refine wp_loop_rounds 1 ?_
 rw [rounds_succ]
 refine wp_seq ?_
 refine wp_region_lit ?_
 refine st_p (Value.bool false) hA ?_; clear hA ac; intro ac hA
 refine wpList_nil ?_
 refine thenN ?_
 refine wp_seq ?_
 refine wp_cond_false (hA.eval (by kernel_rfl)) ?_
 refine wp_exit ?_
 refine thenX ?_
 refine thenX ?_
 refine blkX ?_
 refine thenN ?_
 refine wp_seq ?_
 refine wp_region_lit ?_
 refine st_p (Value.slice none 0 0) hA ?_; clear hA ac; intro ac hA
 refine st_p (Value.slice none 0 0) hA ?_; clear hA ac; intro ac hA
 refine wpList_nil ?_
 refine thenN ?_
 refine wp_ret ?_
 refine ret1 (v := Value.slice none 0 0) (by rfl) hA (Got.tmp hA (by kernel_rfl) (by kernel_rfl)) ?_
 clear hA
 exact ⟨retv (by rfl), hW.fr⟩

set_option maxRecDepth 100000 in
theorem e_svec_z (p : Nat) (w : World) (ho_p : w.heap[p]? = some (.cells #[Value.map none] 55 (0, 0))) : Calls Try.prog 20 #[Value.pointer (some ⟨p, 0, none⟩)] w (fun e w' => e = .returned (Value.slice none 0 0) ∧ Fr No w w') := by
 have _hu := ho_p; clear _hu
 refine enter_E 5 Try.func20 rfl rfl (by kernel_rfl) (L := [(0, Value.pointer (some ⟨p, 0, none⟩))]) (by kernel_rfl) ?_
 intro ac hA
 have hW := Ws.start w No
 have hW := hW.celG ho_p
 refine wp_seq ?_
 refine wp_region_lit ?_
 refine st_p (Value.slice none 0 0) hA ?_; clear hA ac; intro ac hA
 refine wpList_nil ?_
 refine thenN ?_
 refine wp_seq ?_
 refine wp_region_lit ?_
 refine st_p (Value.pointer (some ⟨p, 0, none⟩)) hA ?_; clear hA ac; intro ac hA
 refine st_s hA (Runs.callN (v := Value.slice none 0 0) (fun _ => by kernel_rfl) hW (e_gathV_z p w (show _ = _ from (hW).getG 0 rfl)) ?_); clear hA ac hW; intro w1 hW hfw1 ac hA
 refine st_p (Value.slice none 0 0) hA ?_; clear hA ac; intro ac hA
 refine wpList_nil ?_
 refine thenN ?_
 refine wp_ret ?_
 refine ret1 (v := Value.slice none 0 0) (by rfl) hA (Got.tmp hA (by kernel_rfl) (by kernel_rfl)) ?_
 clear hA
 exact ⟨retv (by rfl), hW.fr⟩

set_option maxRecDepth 100000 in
theorem e_scopy_z (p : Nat) (w : World) (ho_p : w.heap[p]? = some (.cells #[Value.map none] 55 (0, 0))) : Calls Try.prog 15 #[Value.pointer (some ⟨p, 0, none⟩)] w (fun e w' => e = .returned (Value.pointer none) ∧ Fr No w w') := by
 have _hu := ho_p; clear _hu
 refine enter_E 29 Try.func15 rfl rfl (by kernel_rfl) (L := [(0, Value.pointer (some ⟨p, 0, none⟩))]) (by kernel_rfl) ?_
 intro ac hA
 have hW := Ws.start w No
 have hW := hW.celG ho_p
 refine wp_seq ?_
 refine wp_region_lit ?_
 refine st_p (Value.pointer none) hA ?_; clear hA ac; intro ac hA
 refine wpList_nil ?_
 refine thenN ?_
 refine wp_seq ?_
 refine wp_seq ?_
 refine wp_region_lit ?_
 refine st_p (Value.pointer (some ⟨p, 0, none⟩)) hA ?_; clear hA ac; intro ac hA
 refine st_s hA (Runs.callS (v := Value.bool true) (fun _ => by kernel_rfl) (e_snone_z p w (show _ = _ from (hW).getG 0 rfl)) ?_); clear hA ac; intro  ac hA
 refine wpList_nil ?_
 refine thenN ?_
 refine wp_cond_true (hA.eval (by kernel_rfl)) ?_
 refine wp_seq ?_
 refine wp_region_lit ?_
 refine st_p (Value.pointer none) hA ?_; clear hA ac; intro ac hA
 refine wpList_nil ?_
 refine thenN ?_
 refine wp_ret ?_
 refine thenR ?_
 refine ret1 (v := Value.pointer none) (by rfl) hA (Got.tmp hA (by kernel_rfl) (by kernel_rfl)) ?_
 clear hA
 exact ⟨retv (by rfl), hW.fr⟩

set_option maxRecDepth 100000 in
theorem e_ssame_z (p : Nat) (w : World) (ho_p : w.heap[p]? = some (.cells #[Value.map none] 55 (0, 0))) : Calls Try.prog 17 #[Value.pointer (some ⟨p, 0, none⟩), Value.pointer none] w (fun e w' => e = .returned (Value.bool true) ∧ Fr No w w') := by
 have _hu := ho_p; clear _hu
 refine enter_E 26 Try.func17 rfl rfl (by kernel_rfl) (L := [(0, Value.pointer (some ⟨p, 0, none⟩)), (1, Value.pointer none)]) (by kernel_rfl) ?_
 intro ac hA
 have hW := Ws.start w No
 have hW := hW.celG ho_p
 refine wp_seq ?_
 refine wp_region_lit ?_
 refine st_p (Value.bool false) hA ?_; clear hA ac; intro ac hA
 refine wpList_nil ?_
 refine thenN ?_
 refine wp_seq ?_
 refine wp_seq ?_
 refine wp_region_lit ?_
 refine st_p (Value.pointer (some ⟨p, 0, none⟩)) hA ?_; clear hA ac; intro ac hA
 refine st_s hA (Runs.callS (v := Value.bool true) (fun _ => by kernel_rfl) (e_snone_z p w (show _ = _ from (hW).getG 0 rfl)) ?_); clear hA ac; intro  ac hA
 refine st_p (Value.bool true) hA ?_; clear hA ac; intro ac hA
 refine st_k hA ?_; clear hA ac; intro ac hA
 refine st_k hA ?_; clear hA ac; intro ac hA
 refine st_p (Value.bool true) hA ?_; clear hA ac; intro ac hA
 refine wpList_nil ?_
 refine thenN ?_
 refine wp_cond_true (hA.eval (by kernel_rfl)) ?_
 refine wp_seq ?_
 refine wp_region_lit ?_
 refine st_p (Value.pointer (some ⟨p, 0, none⟩)) hA ?_; clear hA ac; intro ac hA
 refine st_s hA (Runs.callS (v := Value.bool true) (fun _ => by kernel_rfl) (e_snone_z p w (show _ = _ from (hW).getG 0 rfl)) ?_); clear hA ac; intro  ac hA
 refine st_p (Value.bool true) hA ?_; clear hA ac; intro ac hA
 refine st_p (Value.pointer none) hA ?_; clear hA ac; intro ac hA
 refine st_s hA (Runs.callS (v := Value.bool true) (fun _ => by kernel_rfl) (e_snone_nil w) ?_); clear hA ac; intro  ac hA
 refine st_p (Value.bool true) hA ?_; clear hA ac; intro ac hA
 refine st_p (Value.bool true) hA ?_; clear hA ac; intro ac hA
 refine wpList_nil ?_
 refine thenN ?_
 refine wp_ret ?_
 refine thenR ?_
 refine ret1 (v := Value.bool true) (by rfl) hA (Got.tmp hA (by kernel_rfl) (by kernel_rfl)) ?_
 clear hA
 exact ⟨retv (by rfl), hW.fr⟩

set_option maxRecDepth 100000 in
theorem e_ssame_oz (m : Nat) (b : Nat) (V : VT22) (q : Nat) (w : World) (ho_p : (ShR m b V).p w) (hl_p : ∀ x_ ∈ (ShR m b V).fp, x_ < w.heap.size) (ho_q : w.heap[q]? = some (.cells #[Value.map none] 55 (0, 0))) : Calls Try.prog 17 #[Value.pointer (some ⟨m, 0, none⟩), Value.pointer (some ⟨q, 0, none⟩)] w (fun e w' => e = .returned (Value.bool false) ∧ Fr No w w') := by
 have _hu := ho_q; clear _hu
 have _hu := ho_p; have _hv := hl_p; clear _hu _hv
 refine enter_E 26 Try.func17 rfl rfl (by kernel_rfl) (L := [(0, Value.pointer (some ⟨m, 0, none⟩)), (1, Value.pointer (some ⟨q, 0, none⟩))]) (by kernel_rfl) ?_
 intro ac hA
 have hW := Ws.start w No
 have hW := hW.celG ho_q
 have hW := hW.objG (L := [Cel m #[Value.map (some b)] 55, mapR b (fun a : Int => Value.int .u32 a) (fun x_ : Nat => Value.pointer (some ⟨x_, 0, none⟩)) (outs V), SubR (fun (c_ : Nat → Shade) (b_ : Nat) => PsR 4096 enShade 67 c_ b_) V]) ho_p hl_p
 clear ho_p hl_p
 refine wp_seq ?_
 refine wp_region_lit ?_
 refine st_p (Value.bool false) hA ?_; clear hA ac; intro ac hA
 refine wpList_nil ?_
 refine thenN ?_
 refine wp_seq ?_
 refine wp_seq ?_
 refine wp_region_lit ?_
 refine st_p (Value.pointer (some ⟨m, 0, none⟩)) hA ?_; clear hA ac; intro ac hA
 refine st_s hA (Runs.callS (v := Value.bool false) (fun _ => by kernel_rfl) (e_snone m b w (show _ = _ from (hW).getG 0 rfl)) ?_); clear hA ac; intro  ac hA
 refine st_p (Value.bool false) hA ?_; clear hA ac; intro ac hA
 refine st_p (Value.pointer (some ⟨q, 0, none⟩)) hA ?_; clear hA ac; intro ac hA
 refine st_s hA (Runs.callS (v := Value.bool true) (fun _ => by kernel_rfl) (e_snone_z q w (show _ = _ from (hW).getG 3 rfl)) ?_); clear hA ac; intro  ac hA
 refine st_p (Value.bool true) hA ?_; clear hA ac; intro ac hA
 refine wpList_nil ?_
 refine thenN ?_
 refine wp_cond_true (hA.eval (by kernel_rfl)) ?_
 refine wp_seq ?_
 refine wp_region_lit ?_
 refine st_p (Value.pointer (some ⟨m, 0, none⟩)) hA ?_; clear hA ac; intro ac hA
 refine st_s hA (Runs.callS (v := Value.bool false) (fun _ => by kernel_rfl) (e_snone m b w (show _ = _ from (hW).getG 0 rfl)) ?_); clear hA ac; intro  ac hA
 refine st_p (Value.bool false) hA ?_; clear hA ac; intro ac hA
 refine st_k hA ?_; clear hA ac; intro ac hA
 refine st_k hA ?_; clear hA ac; intro ac hA
 refine st_p (Value.bool false) hA ?_; clear hA ac; intro ac hA
 refine st_p (Value.bool false) hA ?_; clear hA ac; intro ac hA
 refine wpList_nil ?_
 refine thenN ?_
 refine wp_ret ?_
 refine thenR ?_
 refine ret1 (v := Value.bool false) (by rfl) hA (Got.tmp hA (by kernel_rfl) (by kernel_rfl)) ?_
 clear hA
 exact ⟨retv (by rfl), hW.fr⟩

set_option maxRecDepth 100000 in
theorem e_sall_z (p : Nat) (w : World) (ho_p : w.heap[p]? = some (.cells #[Value.map none] 55 (0, 0))) : Calls Try.prog 18 #[Value.pointer (some ⟨p, 0, none⟩)] w (fun e w' => ∃ (lb : Array Value) (g : Res), e = .returned (Value.func (.func 37) #[] lb) ∧ Iter Try.prog 37 lb (fun x_ : Cell22 => #[Value.int .u32 x_.addr, x_.x.v]) (· = ([] : List Cell22)) [g] ∧ g.from_ [] w w' ∧ Fr No w w') := by
 have _hu := ho_p; clear _hu
 refine enter_E 7 Try.func18 rfl rfl (by kernel_rfl) (L := [(0, Value.pointer (some ⟨p, 0, none⟩))]) (by kernel_rfl) ?_
 intro ac hA
 have hW := Ws.start w No
 have hW := hW.celG ho_p
 refine wp_seq ?_
 refine wp_region_lit ?_
 refine st_p (Value.nilFunc) hA ?_; clear hA ac; intro ac hA
 refine wpList_nil ?_
 refine thenN ?_
 refine wp_seq ?_
 refine wp_region_lit ?_
 refine st_p (Value.pointer (some ⟨p, 0, none⟩)) hA ?_; clear hA ac; intro ac hA
 refine st_s hA (Runs.callN (v := Value.slice none 0 0) (fun _ => by kernel_rfl) hW (e_gathA_z p w (show _ = _ from (hW).getG 0 rfl)) ?_); clear hA ac hW; intro w1 hW hfw1 ac hA
 refine st_s hA (Runs.cells (fun b => Value.pointer (some ⟨b, 0, none⟩)) #[Value.slice none 0 0] 78 (fun _ => by kernel_rfl) hW ?_); clear hA ac hW; intro b2 w3 hW hb2 hfw3 ac hA
 refine st_s hA (Runs.store (v := Value.slice none 0 0) (b := b2) (j := 0) (n := 1) (cs' := #[Value.slice none 0 0]) (H' := [Cel b2 #[Value.slice none 0 0] 78]) (by kernel_rfl) (by kernel_rfl) (by kernel_rfl) (by kernel_rfl) (by kernel_rfl) hW 0 (by rfl) (Nat.le_of_ble_eq_true (by kernel_rfl)) (by kernel_rfl) (by rfl) ?_); clear hA ac hW; intro w4 hW ac hA
 refine wpList_nil ?_
 refine thenN ?_
 refine wp_seq ?_
 refine wp_region_lit ?_
 refine st_p (Value.func (.func 37) #[] #[Value.pointer (some ⟨b2, 0, none⟩)]) hA ?_; clear hA ac; intro ac hA
 refine st_p (Value.func (.func 37) #[] #[Value.pointer (some ⟨b2, 0, none⟩)]) hA ?_; clear hA ac; intro ac hA
 refine wpList_nil ?_
 refine thenN ?_
 refine wp_ret ?_
 refine ret1 (v := Value.func (.func 37) #[] #[Value.pointer (some ⟨b2, 0, none⟩)]) (by rfl) hA (Got.tmp hA (by kernel_rfl) (by kernel_rfl)) ?_
 clear hA
 exact ⟨_, _, rfl, iter_many (it_37 b2 none 0 [] (by simp) (by simp)), from_many (froms_cons (hW.outOwn 0 rfl (fun _ h => h)) (froms_cons from_nil froms_nil)), hW.fr⟩

set_option maxRecDepth 100000 in
theorem e_none22 (a : Act22) (zero : Bool) (w : World) (ha : (0 ≤ a.addr ∧ a.addr ≤ 4294967295) ∧ ((0 ≤ a.x.wr ∧ a.x.wr ≤ 18446744073709551615) ∧ (0 ≤ a.x.rd ∧ a.x.rd ≤ 18446744073709551615))) : Calls Try.prog 6 #[a.v, Value.bool zero] w (fun e w' => e = .returned (Value.bool true) ∧ Fr No w w') := by
 have _hu := ha; clear _hu
 refine enter_F 82 Try.func6 rfl rfl (by kernel_rfl) (L := [(0, a.v), (1, Value.bool zero)]) (by kernel_rfl) ?_
 intro ac hA
 have hW := Ws.start w No
 refine wpIn_seq ?_
 refine wpIn_region_lit ?_
 refine stF hA (by kernel_rfl) (by kernel_rfl) (by kernel_rfl) (by kernel_rfl) (RunsF.of (Runs.cells (fun b => Value.pointer (some ⟨b, 0, none⟩)) #[Value.int .u32 a.addr, Value.int .u64 a.x.wr, Value.int .i64 a.x.ws.f, Value.int .i64 a.x.ws.pc, Value.int .u64 a.x.rd, Value.int .i64 a.x.rs.f, Value.int .i64 a.x.rs.pc, Value.int .i64 a.x.vec] 37 (fun _ => by kernel_rfl) hW ?_)); clear hA ac hW; intro b1 w2 hW hb1 hfw2 ac hA
 refine stF hA (by kernel_rfl) (by kernel_rfl) (by kernel_rfl) (by kernel_rfl) (RunsF.of (Runs.cells (fun b => Value.pointer (some ⟨b, 0, none⟩)) #[Value.bool false] 4 (fun _ => by kernel_rfl) hW ?_)); clear hA ac hW; intro b3 w4 hW hb3 hfw4 ac hA
 refine wpListIn_nil ?_
 refine thenN ?_
 refine wpIn_seq ?_
 refine wpIn_region_lit ?_
 refine st_rdF (v := Value.pointer none) hA (by kernel_rfl) (by kernel_rfl) (by kernel_rfl) (by kernel_rfl) hW.cls (Rd.pure fun _ => by kernel_rfl) ?_; clear hA ac; intro ac hA
 refine wpListIn_nil ?_
 refine thenN ?_
 refine wpIn_seq ?_
 refine wpIn_seq ?_
 refine wpIn_region_lit ?_
 refine st_rdF (v := Value.bool zero) hA (by kernel_rfl) (by kernel_rfl) (by kernel_rfl) (by kernel_rfl) hW.cls (Rd.pure fun _ => by kernel_rfl) ?_; clear hA ac; intro ac hA
 refine wpListIn_nil ?_
 refine thenN ?_
 refine wpIn_cond_split (t := zero) (hA.eval (by kernel_rfl)) (fun h5 => ?_) (fun h5 => ?_)
 · skip
   first
   | (exfalso; clear hA hW; omega)
   | (exfalso; clear hA hW; exact h5 rfl; done)
   | (
     refine wpIn_region_lit ?_
     refine st_rdF (v := Value.agg #[Value.map none]) hA (by kernel_rfl) (by kernel_rfl) (by kernel_rfl) (by kernel_rfl) hW.cls (Rd.pure fun _ => by kernel_rfl) ?_; clear hA ac; intro ac hA
     refine stF hA (by kernel_rfl) (by kernel_rfl) (by kernel_rfl) (by kernel_rfl) (RunsF.of (Runs.cells (fun b => Value.pointer (some ⟨b, 0, none⟩)) #[Value.map none] 55 (fun _ => by kernel_rfl) hW ?_)); clear hA ac hW; intro b6 w7 hW hb6 hfw7 ac hA
     refine st_rdF (v := Value.pointer (some ⟨b6, 0, none⟩)) hA (by kernel_rfl) (by kernel_rfl) (by kernel_rfl) (by kernel_rfl) hW.cls (Rd.pure fun _ => by kernel_rfl) ?_; clear hA ac; intro ac hA
     refine wpListIn_nil ?_
     refine thenN ?_
     refine wpIn_seq ?_
     refine wpIn_region_lit ?_
     refine st_rdF (v := Value.pointer (some ⟨b6, 0, none⟩)) hA (by kernel_rfl) (by kernel_rfl) (by kernel_rfl) (by kernel_rfl) hW.cls (Rd.pure fun _ => by kernel_rfl) ?_; clear hA ac; intro ac hA
     refine st_rdF (v := Value.pointer (some ⟨b1, 0, none⟩)) hA (by kernel_rfl) (by kernel_rfl) (by kernel_rfl) (by kernel_rfl) hW.cls (Rd.pure fun _ => by kernel_rfl) ?_; clear hA ac; intro ac hA
     refine st_rdF (v := Value.int .u32 a.addr) hA (by kernel_rfl) (by kernel_rfl) (by kernel_rfl) (by kernel_rfl) hW.cls (Rd.load (b := b1) (i := 0) (by kernel_rfl) (fun _ hw => (hw.1).cel 2 rfl) (by kernel_rfl)) ?_; clear hA ac; intro ac hA
     refine st_rdF (v := Value.pointer (some ⟨b1, 1, none⟩)) hA (by kernel_rfl) (by kernel_rfl) (by kernel_rfl) (by kernel_rfl) hW.cls (Rd.pure fun _ => by kernel_rfl) ?_; clear hA ac; intro ac hA
     refine st_rdF (v := Value.agg #[Value.int .u64 a.x.wr, Value.int .i64 a.x.ws.f, Value.int .i64 a.x.ws.pc, Value.int .u64 a.x.rd, Value.int .i64 a.x.rs.f, Value.int .i64 a.x.rs.pc, Value.int .i64 a.x.vec]) hA (by kernel_rfl) (by kernel_rfl) (by kernel_rfl) (by kernel_rfl) hW.cls (Rd.load (b := b1) (i := 1) (by kernel_rfl) (fun _ hw => (hw.1).cel 2 rfl) (by kernel_rfl)) ?_; clear hA ac; intro ac hA
     refine stF hA (by kernel_rfl) (by kernel_rfl) (by kernel_rfl) (by kernel_rfl) (RunsF.of (Runs.callN (v := Value.tuple #[(⟨0, ⟨0, 0⟩, 0, ⟨0, 0⟩, 0⟩ : Shade).v, Value.int .i64 1]) (fun _ => by kernel_rfl) hW (e_slay_z b6 (a.addr) a.x w7 ((hW).cel 0 rfl)) ?_)); clear hA ac hW; intro w8 hW hfw8 ac hA
     refine st_rdF (v := Value.tuple #[(⟨0, ⟨0, 0⟩, 0, ⟨0, 0⟩, 0⟩ : Shade).v, Value.int .i64 1]) hA (by kernel_rfl) (by kernel_rfl) (by kernel_rfl) (by kernel_rfl) hW.cls (Rd.pure fun _ => by kernel_rfl) ?_; clear hA ac; intro ac hA
     refine st_rdF (v := (⟨0, ⟨0, 0⟩, 0, ⟨0, 0⟩, 0⟩ : Shade).v) hA (by kernel_rfl) (by kernel_rfl) (by kernel_rfl) (by kernel_rfl) hW.cls (Rd.pure fun _ => by kernel_rfl) ?_; clear hA ac; intro ac hA
     refine st_rdF (v := Value.int .i64 1) hA (by kernel_rfl) (by kernel_rfl) (by kernel_rfl) (by kernel_rfl) hW.cls (Rd.pure fun _ => by kernel_rfl) ?_; clear hA ac; intro ac hA
     refine stF hA (by kernel_rfl) (by kernel_rfl) (by kernel_rfl) (by kernel_rfl) (RunsF.of (Runs.cells (fun b => Value.pointer (some ⟨b, 0, none⟩)) #[Value.int .u64 0, Value.int .i64 0, Value.int .i64 0, Value.int .u64 0, Value.int .i64 0, Value.int .i64 0, Value.int .i64 0] 31 (fun _ => by kernel_rfl) hW ?_)); clear hA ac hW; intro b9 w10 hW hb9 hfw10 ac hA
     refine stF hA (by kernel_rfl) (by kernel_rfl) (by kernel_rfl) (by kernel_rfl) (RunsF.of (Runs.store (v := (⟨0, ⟨0, 0⟩, 0, ⟨0, 0⟩, 0⟩ : Shade).v) (b := b9) (j := 0) (n := 7) (cs' := #[Value.int .u64 (⟨0, ⟨0, 0⟩, 0, ⟨0, 0⟩, 0⟩ : Shade).wr, Value.int .i64 (⟨0, ⟨0, 0⟩, 0, ⟨0, 0⟩, 0⟩ : Shade).ws.f, Value.int .i64 (⟨0, ⟨0, 0⟩, 0, ⟨0, 0⟩, 0⟩ : Shade).ws.pc, Value.int .u64 (⟨0, ⟨0, 0⟩, 0, ⟨0, 0⟩, 0⟩ : Shade).rd, Value.int .i64 (⟨0, ⟨0, 0⟩, 0, ⟨0, 0⟩, 0⟩ : Shade).rs.f, Value.int .i64 (⟨0, ⟨0, 0⟩, 0, ⟨0, 0⟩, 0⟩ : Shade).rs.pc, Value.int .i64 (⟨0, ⟨0, 0⟩, 0, ⟨0, 0⟩, 0⟩ : Shade).vec]) (H' := [Cel b9 #[Value.int .u64 (⟨0, ⟨0, 0⟩, 0, ⟨0, 0⟩, 0⟩ : Shade).wr, Value.int .i64 (⟨0, ⟨0, 0⟩, 0, ⟨0, 0⟩, 0⟩ : Shade).ws.f, Value.int .i64 (⟨0, ⟨0, 0⟩, 0, ⟨0, 0⟩, 0⟩ : Shade).ws.pc, Value.int .u64 (⟨0, ⟨0, 0⟩, 0, ⟨0, 0⟩, 0⟩ : Shade).rd, Value.int .i64 (⟨0, ⟨0, 0⟩, 0, ⟨0, 0⟩, 0⟩ : Shade).rs.f, Value.int .i64 (⟨0, ⟨0, 0⟩, 0, ⟨0, 0⟩, 0⟩ : Shade).rs.pc, Value.int .i64 (⟨0, ⟨0, 0⟩, 0, ⟨0, 0⟩, 0⟩ : Shade).vec] 31, Cel b6 #[Value.map none] 55, Cel b3 #[Value.bool false] 4, Cel b1 #[Value.int .u32 a.addr, Value.int .u64 a.x.wr, Value.int .i64 a.x.ws.f, Value.int .i64 a.x.ws.pc, Value.int .u64 a.x.rd, Value.int .i64 a.x.rs.f, Value.int .i64 a.x.rs.pc, Value.int .i64 a.x.vec] 37]) (by kernel_rfl) (by kernel_rfl) (by kernel_rfl) (by kernel_rfl) (by kernel_rfl) hW 0 (by rfl) (Nat.le_of_ble_eq_true (by kernel_rfl)) (by kernel_rfl) (by rfl) ?_)); clear hA ac hW; intro w11 hW ac hA
     refine st_rdF (v := Value.int .i64 1) hA (by kernel_rfl) (by kernel_rfl) (by kernel_rfl) (by kernel_rfl) hW.cls (Rd.pure fun _ => by kernel_rfl) ?_; clear hA ac; intro ac hA
     refine wpListIn_nil ?_
     refine thenN ?_
     refine wpIn_seq ?_
     refine wpIn_region_lit ?_
     refine st_rdF (v := Value.pointer (some ⟨b6, 0, none⟩)) hA (by kernel_rfl) (by kernel_rfl) (by kernel_rfl) (by kernel_rfl) hW.cls (Rd.pure fun _ => by kernel_rfl) ?_; clear hA ac; intro ac hA
     refine stF hA (by kernel_rfl) (by kernel_rfl) (by kernel_rfl) (by kernel_rfl) (RunsF.of (Runs.call (fun _ => by kernel_rfl) (e_sall_z b6 w11 ((hW).cel 1 rfl)) ?_))
     rintro _ w12 ⟨lb13, g14, rfl, hIg14, hfg14, hfw12⟩; refine ⟨_, rfl, ?_⟩; have hW0 := hW; have hW := hW0.call hfw12; have hW := hW0.addFromAt hW hfg14 in_nil; clear hW0 hA ac; intro ac hA
     refine st_rdF (v := Value.func (.func 37) #[] lb13) hA (by kernel_rfl) (by kernel_rfl) (by kernel_rfl) (by kernel_rfl) hW.cls (Rd.pure fun _ => by kernel_rfl) ?_; clear hA ac; intro ac hA
     refine wpListIn_nil ?_
     refine thenN ?_
     refine wpIn_seq ?_
     refine wpIn_seq ?_
     refine wpIn_region_lit ?_
     refine st_rdF (v := Value.func (.func 37) #[] lb13) hA (by kernel_rfl) (by kernel_rfl) (by kernel_rfl) (by kernel_rfl) hW.cls (Rd.pure fun _ => by kernel_rfl) ?_; clear hA ac; intro ac hA
     refine st_rdF (v := Value.bool false) hA (by kernel_rfl) (by kernel_rfl) (by kernel_rfl) (by kernel_rfl) hW.cls (Rd.pure fun _ => by kernel_rfl) ?_; clear hA ac; intro ac hA
     refine wpListIn_nil ?_
     refine thenN ?_
     refine wpIn_cond_false (hA.eval (by kernel_rfl)) ?_
     refine wpIn_skip ?_
     refine thenN ?_
     refine wpIn_seq ?_
     refine wpIn_seq ?_
     refine wpIn_region_lit ?_
     refine st_rdF (v := Value.func (.func 37) #[] lb13) hA (by kernel_rfl) (by kernel_rfl) (by kernel_rfl) (by kernel_rfl) hW.cls (Rd.pure fun _ => by kernel_rfl) ?_; clear hA ac; intro ac hA
     refine wpListIn_nil ?_
     refine thenN ?_
     refine wpIn_block ?_
     refine wp_range (encs := (fun x_ : Cell22 => #[Value.int .u32 x_.addr, x_.x.v])) (Sx := (· = ([] : List Cell22))) hA (by kernel_rfl) (by kernel_rfl) (enters_of Try.func37 (by kernel_rfl) rfl) (by kernel_rfl) (fun _ => rfl) hIg14 (List.forall_mem_singleton.2 (List.mem_of_getElem? (i := 0) rfl)) (fun pre_ H_ => ∃ k : Nat, pre_ = ([] : List Cell22).take k ∧ k ≤ ([] : List Cell22).length ∧ H_ = []) (fun _ _ _ => False) (H := []) (K := [Cel b9 #[Value.int .u64 (⟨0, ⟨0, 0⟩, 0, ⟨0, 0⟩, 0⟩ : Shade).wr, Value.int .i64 (⟨0, ⟨0, 0⟩, 0, ⟨0, 0⟩, 0⟩ : Shade).ws.f, Value.int .i64 (⟨0, ⟨0, 0⟩, 0, ⟨0, 0⟩, 0⟩ : Shade).ws.pc, Value.int .u64 (⟨0, ⟨0, 0⟩, 0, ⟨0, 0⟩, 0⟩ : Shade).rd, Value.int .i64 (⟨0, ⟨0, 0⟩, 0, ⟨0, 0⟩, 0⟩ : Shade).rs.f, Value.int .i64 (⟨0, ⟨0, 0⟩, 0, ⟨0, 0⟩, 0⟩ : Shade).rs.pc, Value.int .i64 (⟨0, ⟨0, 0⟩, 0, ⟨0, 0⟩, 0⟩ : Shade).vec] 31, Cel b6 #[Value.map none] 55, Cel b3 #[Value.bool false] 4, Cel b1 #[Value.int .u32 a.addr, Value.int .u64 a.x.wr, Value.int .i64 a.x.ws.f, Value.int .i64 a.x.ws.pc, Value.int .u64 a.x.rd, Value.int .i64 a.x.rs.f, Value.int .i64 a.x.rs.pc, Value.int .i64 a.x.vec] 37]) (hW.pick [0, 1, 2, 3] (by decide) rfl) ⟨0, rfl, Nat.zero_le _, rfl⟩ ?_ ?_ ?_
     · skip
       clear hA ac hW; intro l_15 rd_15 bs_15 pre_ x_ Hk_ w16 T_15 ac hrd_15 hbs_15 hbr_15 hok_ hJ_ hA hW hB_15 hT_15
       obtain ⟨k, rfl, hk_, rfl⟩ := hJ_
       obtain ⟨y17, h_⟩ : ∃ y_, y_ = x_ := ⟨_, rfl⟩; subst h_; obtain ⟨hy17, hlty17, hsny17⟩ := comes_list hok_ hk_
       replace hA : Fm 82 [] [(0, a.v), (1, Value.bool zero), (2, Value.pointer (some ⟨b1, 0, none⟩)), (4, Value.pointer (some ⟨b3, 0, none⟩)), (5, Value.pointer (some ⟨b6, 0, none⟩)), (6, Value.pointer (some ⟨b9, 0, none⟩)), (7, Value.int .i64 1), (8, Value.func (.func 37) #[] lb13), (11, Value.bool zero), (12, Value.agg #[Value.map none]), (13, Value.pointer (some ⟨b6, 0, none⟩)), (14, Value.tuple #[(⟨0, ⟨0, 0⟩, 0, ⟨0, 0⟩, 0⟩ : Shade).v, Value.int .i64 1]), (15, Value.pointer (some ⟨b6, 0, none⟩)), (16, Value.pointer (some ⟨b1, 0, none⟩)), (17, Value.int .u32 a.addr), (18, Value.pointer (some ⟨b1, 1, none⟩)), (19, Value.agg #[Value.int .u64 a.x.wr, Value.int .i64 a.x.ws.f, Value.int .i64 a.x.ws.pc, Value.int .u64 a.x.rd, Value.int .i64 a.x.rs.f, Value.int .i64 a.x.rs.pc, Value.int .i64 a.x.vec]), (20, Value.tuple #[(⟨0, ⟨0, 0⟩, 0, ⟨0, 0⟩, 0⟩ : Shade).v, Value.int .i64 1]), (21, (⟨0, ⟨0, 0⟩, 0, ⟨0, 0⟩, 0⟩ : Shade).v), (22, Value.int .i64 1), (23, Value.pointer (some ⟨b6, 0, none⟩)), (24, Value.func (.func 37) #[] lb13), (25, Value.func (.func 37) #[] lb13), (26, Value.bool false), (27, Value.func (.func 37) #[] lb13), (28, Value.int .u32 y17.addr), (29, y17.x.v)] ac := hA.sub ⟨⟨by kernel_rfl, by kernel_rfl⟩, ⟨by kernel_rfl, by kernel_rfl⟩, ⟨by kernel_rfl, by kernel_rfl⟩, ⟨by kernel_rfl, by kernel_rfl⟩, ⟨by kernel_rfl, by kernel_rfl⟩, ⟨by kernel_rfl, by kernel_rfl⟩, ⟨by kernel_rfl, by kernel_rfl⟩, ⟨by kernel_rfl, by kernel_rfl⟩, ⟨by kernel_rfl, by kernel_rfl⟩, ⟨by kernel_rfl, by kernel_rfl⟩, ⟨by kernel_rfl, by kernel_rfl⟩, ⟨by kernel_rfl, by kernel_rfl⟩, ⟨by kernel_rfl, by kernel_rfl⟩, ⟨by kernel_rfl, by kernel_rfl⟩, ⟨by kernel_rfl, by kernel_rfl⟩, ⟨by kernel_rfl, by kernel_rfl⟩, ⟨by kernel_rfl, by kernel_rfl⟩, ⟨by kernel_rfl, by kernel_rfl⟩, ⟨by kernel_rfl, by kernel_rfl⟩, ⟨by kernel_rfl, by kernel_rfl⟩, ⟨by kernel_rfl, by kernel_rfl⟩, ⟨by kernel_rfl, by kernel_rfl⟩, ⟨by kernel_rfl, by kernel_rfl⟩, ⟨by kernel_rfl, by kernel_rfl⟩, ⟨by kernel_rfl, by kernel_rfl⟩, ⟨by kernel_rfl, by kernel_rfl⟩, ⟨by kernel_rfl, by kernel_rfl⟩, trivial⟩
       simp at hy17
     · skip
       clear hA ac hW; intro D18 xs_ Hk_ w19 ac hS_ hJ_ hA hW
       obtain ⟨k, hpre_, hk_, rfl⟩ := hJ_
       clear hpre_ hS_ hk_
       replace hW : Ws w No [DefR D18, Cel b9 #[Value.int .u64 (⟨0, ⟨0, 0⟩, 0, ⟨0, 0⟩, 0⟩ : Shade).wr, Value.int .i64 (⟨0, ⟨0, 0⟩, 0, ⟨0, 0⟩, 0⟩ : Shade).ws.f, Value.int .i64 (⟨0, ⟨0, 0⟩, 0, ⟨0, 0⟩, 0⟩ : Shade).ws.pc, Value.int .u64 (⟨0, ⟨0, 0⟩, 0, ⟨0, 0⟩, 0⟩ : Shade).rd, Value.int .i64 (⟨0, ⟨0, 0⟩, 0, ⟨0, 0⟩, 0⟩ : Shade).rs.f, Value.int .i64 (⟨0, ⟨0, 0⟩, 0, ⟨0, 0⟩, 0⟩ : Shade).rs.pc, Value.int .i64 (⟨0, ⟨0, 0⟩, 0, ⟨0, 0⟩, 0⟩ : Shade).vec] 31, Cel b6 #[Value.map none] 55, Cel b3 #[Value.bool false] 4, Cel b1 #[Value.int .u32 a.addr, Value.int .u64 a.x.wr, Value.int .i64 a.x.ws.f, Value.int .i64 a.x.ws.pc, Value.int .u64 a.x.rd, Value.int .i64 a.x.rs.f, Value.int .i64 a.x.rs.pc, Value.int .i64 a.x.vec] 37] [g14] w19 := hW
       refine blkN ?_
       refine thenN ?_
       refine wpIn_seq ?_
       refine wpIn_region_lit ?_
       refine stF hA (by kernel_rfl) (by kernel_rfl) (by kernel_rfl) (by kernel_rfl) (RunsF.of (Runs.call (fun _ => by kernel_rfl) (e_snew w19) ?_))
       rintro _ w20 ⟨n21, n22, rfl, hu_⟩; refine ⟨_, rfl, ?_⟩; replace hW := hW.made hu_; clear hA ac; intro ac hA
       have hq23 : Rel22 0 ([] : List Cell22) ([] : List (Int × Nat × (Nat → Shade))) := Rel22.start
       refine st_rdF (v := Value.pointer (some ⟨n21, 0, none⟩)) hA (by kernel_rfl) (by kernel_rfl) (by kernel_rfl) (by kernel_rfl) hW.cls (Rd.pure fun _ => by kernel_rfl) ?_; clear hA ac; intro ac hA
       refine wpListIn_nil ?_
       refine thenN ?_
       refine wpIn_seq ?_
       refine wpIn_region_lit ?_
       refine st_rdF (v := Value.pointer (some ⟨n21, 0, none⟩)) hA (by kernel_rfl) (by kernel_rfl) (by kernel_rfl) (by kernel_rfl) hW.cls (Rd.pure fun _ => by kernel_rfl) ?_; clear hA ac; intro ac hA
       refine stF hA (by kernel_rfl) (by kernel_rfl) (by kernel_rfl) (by kernel_rfl) (RunsF.of (Runs.call (fun _ => by kernel_rfl) (e_sall n21 n22 ([] : List (Int × Nat × (Nat → Shade))) w20 ((hW).get 0 rfl) ((hW).lt _ (List.mem_of_getElem? (i := 0) rfl)) (by first | assumption | omega | exact ha.1 | (simp; done) | (constructor <;> (simp; done))) (by first | assumption | omega | exact ha.1 | (simp; done) | (constructor <;> (simp; done)))) ?_))
       rintro _ w24 ⟨lb25, g26, rfl, hIg26, hfg26, hfw24⟩; refine ⟨_, rfl, ?_⟩; have hW0 := hW; have hW := hW0.call hfw24; have hW := hW0.addFromAt hW hfg26 in_nil; clear hW0 hA ac; intro ac hA
       refine st_rdF (v := Value.func (.func 37) #[] lb25) hA (by kernel_rfl) (by kernel_rfl) (by kernel_rfl) (by kernel_rfl) hW.cls (Rd.pure fun _ => by kernel_rfl) ?_; clear hA ac; intro ac hA
       refine wpListIn_nil ?_
       refine thenN ?_
       refine wpIn_seq ?_
       refine wpIn_region_lit ?_
       refine st_rdF (v := Value.pointer (some ⟨n21, 0, none⟩)) hA (by kernel_rfl) (by kernel_rfl) (by kernel_rfl) (by kernel_rfl) hW.cls (Rd.pure fun _ => by kernel_rfl) ?_; clear hA ac; intro ac hA
       refine st_rdF (v := Value.pointer (some ⟨b1, 0, none⟩)) hA (by kernel_rfl) (by kernel_rfl) (by kernel_rfl) (by kernel_rfl) hW.cls (Rd.pure fun _ => by kernel_rfl) ?_; clear hA ac; intro ac hA
       refine st_rdF (v := Value.int .u32 a.addr) hA (by kernel_rfl) (by kernel_rfl) (by kernel_rfl) (by kernel_rfl) hW.cls (Rd.load (b := b1) (i := 0) (by kernel_rfl) (fun _ hw => (hw.1).cel 5 rfl) (by kernel_rfl)) ?_; clear hA ac; intro ac hA
       refine st_rdF (v := Value.agg #[Value.int .u64 0, Value.int .i64 0, Value.int .i64 0, Value.int .u64 0, Value.int .i64 0, Value.int .i64 0, Value.int .i64 9]) hA (by kernel_rfl) (by kernel_rfl) (by kernel_rfl) (by kernel_rfl) hW.cls (Rd.pure fun _ => by kernel_rfl) ?_; clear hA ac; intro ac hA
       refine stF hA (by kernel_rfl) (by kernel_rfl) (by kernel_rfl) (by kernel_rfl) (RunsF.of (Runs.call (fun _ => by kernel_rfl) (e_lay n21 n22 ([] : List (Int × Nat × (Nat → Shade))) (a.addr) (⟨0, (⟨0, 0⟩ : Site), 0, (⟨0, 0⟩ : Site), 9⟩ : Shade) w24 ((hW).get 0 rfl) ((hW).lt _ (List.mem_of_getElem? (i := 0) rfl)) (by first | assumption | omega | exact ha.1 | (simp; done) | (constructor <;> (simp; done))) (by first | assumption | omega | exact ha.1 | (simp; done) | (constructor <;> (simp; done)))) ?_))
       rintro _ w27 ⟨u28, u29, u30, rfl, hw27_hE, hw27_hL, hu_⟩; refine ⟨_, rfl, ?_⟩; replace hW := hW.upd (H' := [ShR n21 n22 u28, DefR D18, Cel b9 #[Value.int .u64 (⟨0, ⟨0, 0⟩, 0, ⟨0, 0⟩, 0⟩ : Shade).wr, Value.int .i64 (⟨0, ⟨0, 0⟩, 0, ⟨0, 0⟩, 0⟩ : Shade).ws.f, Value.int .i64 (⟨0, ⟨0, 0⟩, 0, ⟨0, 0⟩, 0⟩ : Shade).ws.pc, Value.int .u64 (⟨0, ⟨0, 0⟩, 0, ⟨0, 0⟩, 0⟩ : Shade).rd, Value.int .i64 (⟨0, ⟨0, 0⟩, 0, ⟨0, 0⟩, 0⟩ : Shade).rs.f, Value.int .i64 (⟨0, ⟨0, 0⟩, 0, ⟨0, 0⟩, 0⟩ : Shade).rs.pc, Value.int .i64 (⟨0, ⟨0, 0⟩, 0, ⟨0, 0⟩, 0⟩ : Shade).vec] 31, Cel b6 #[Value.map none] 55, Cel b3 #[Value.bool false] 4, Cel b1 #[Value.int .u32 a.addr, Value.int .u64 a.x.wr, Value.int .i64 a.x.ws.f, Value.int .i64 a.x.ws.pc, Value.int .u64 a.x.rd, Value.int .i64 a.x.rs.f, Value.int .i64 a.x.rs.pc, Value.int .i64 a.x.vec] 37]) 0 rfl hu_ rfl; clear hA ac; intro ac hA
       refine wpListIn_nil ?_
       refine thenN ?_
       refine wpIn_seq ?_
       refine wpIn_seq ?_
       refine wpIn_region_lit ?_
       refine st_rdF (v := Value.func (.func 37) #[] lb25) hA (by kernel_rfl) (by kernel_rfl) (by kernel_rfl) (by kernel_rfl) hW.cls (Rd.pure fun _ => by kernel_rfl) ?_; clear hA ac; intro ac hA
       refine st_rdF (v := Value.bool false) hA (by kernel_rfl) (by kernel_rfl) (by kernel_rfl) (by kernel_rfl) hW.cls (Rd.pure fun _ => by kernel_rfl) ?_; clear hA ac; intro ac hA
       refine wpListIn_nil ?_
       refine thenN ?_
       refine wpIn_cond_false (hA.eval (by kernel_rfl)) ?_
       refine wpIn_skip ?_
       refine thenN ?_
       refine wpIn_seq ?_
       refine wpIn_seq ?_
       refine wpIn_region_lit ?_
       refine st_rdF (v := Value.func (.func 37) #[] lb25) hA (by kernel_rfl) (by kernel_rfl) (by kernel_rfl) (by kernel_rfl) hW.cls (Rd.pure fun _ => by kernel_rfl) ?_; clear hA ac; intro ac hA
       refine wpListIn_nil ?_
       refine thenN ?_
       refine wpIn_block ?_
       refine wp_range (encs := (fun x_ : Cell22 => #[Value.int .u32 x_.addr, x_.x.v])) (Sx := (fun l_ : List Cell22 => ∃ ks : List Int, ks.Perm (keys (vals ([] : List (Int × Nat × (Nat → Shade))))) ∧ (ks.Pairwise fun x y => x ≤ y) ∧ l_ = gathOf pAll (vals ([] : List (Int × Nat × (Nat → Shade)))) ks)) hA (by kernel_rfl) (by kernel_rfl) (enters_of Try.func37 (by kernel_rfl) rfl) (by kernel_rfl) (fun _ => rfl) hIg26 (List.forall_mem_singleton.2 (List.mem_of_getElem? (i := 0) rfl)) (fun pre_ H_ => True ∧ H_ = [ShR n21 n22 u28]) (fun _ _ _ => False) (H := [ShR n21 n22 u28]) (K := [DefR D18, Cel b9 #[Value.int .u64 (⟨0, ⟨0, 0⟩, 0, ⟨0, 0⟩, 0⟩ : Shade).wr, Value.int .i64 (⟨0, ⟨0, 0⟩, 0, ⟨0, 0⟩, 0⟩ : Shade).ws.f, Value.int .i64 (⟨0, ⟨0, 0⟩, 0, ⟨0, 0⟩, 0⟩ : Shade).ws.pc, Value.int .u64 (⟨0, ⟨0, 0⟩, 0, ⟨0, 0⟩, 0⟩ : Shade).rd, Value.int .i64 (⟨0, ⟨0, 0⟩, 0, ⟨0, 0⟩, 0⟩ : Shade).rs.f, Value.int .i64 (⟨0, ⟨0, 0⟩, 0, ⟨0, 0⟩, 0⟩ : Shade).rs.pc, Value.int .i64 (⟨0, ⟨0, 0⟩, 0, ⟨0, 0⟩, 0⟩ : Shade).vec] 31, Cel b6 #[Value.map none] 55, Cel b3 #[Value.bool false] 4, Cel b1 #[Value.int .u32 a.addr, Value.int .u64 a.x.wr, Value.int .i64 a.x.ws.f, Value.int .i64 a.x.ws.pc, Value.int .u64 a.x.rd, Value.int .i64 a.x.rs.f, Value.int .i64 a.x.rs.pc, Value.int .i64 a.x.vec] 37]) (hW.pick [0, 1, 2, 3, 4, 5] (by decide) rfl) ⟨trivial, rfl⟩ ?_ ?_ ?_
       · skip
         clear hA ac hW; intro l_31 rd_31 bs_31 pre_ x_ Hk_ w32 T_31 ac hrd_31 hbs_31 hbr_31 hok_ hJ_ hA hW hB_31 hT_31
         obtain ⟨_, rfl⟩ := hJ_
         obtain ⟨y33, h_⟩ : ∃ y_, y_ = x_ := ⟨_, rfl⟩; subst h_
         replace hA : Fm 82 [] [(0, a.v), (1, Value.bool zero), (2, Value.pointer (some ⟨b1, 0, none⟩)), (4, Value.pointer (some ⟨b3, 0, none⟩)), (5, Value.pointer (some ⟨b6, 0, none⟩)), (6, Value.pointer (some ⟨b9, 0, none⟩)), (7, Value.int .i64 1), (8, Value.func (.func 37) #[] lb13), (9, Value.pointer (some ⟨n21, 0, none⟩)), (10, Value.func (.func 37) #[] lb25), (11, Value.bool zero), (12, Value.agg #[Value.map none]), (13, Value.pointer (some ⟨b6, 0, none⟩)), (14, Value.tuple #[(⟨0, ⟨0, 0⟩, 0, ⟨0, 0⟩, 0⟩ : Shade).v, Value.int .i64 1]), (15, Value.pointer (some ⟨b6, 0, none⟩)), (16, Value.pointer (some ⟨b1, 0, none⟩)), (17, Value.int .u32 a.addr), (18, Value.pointer (some ⟨b1, 1, none⟩)), (19, Value.agg #[Value.int .u64 a.x.wr, Value.int .i64 a.x.ws.f, Value.int .i64 a.x.ws.pc, Value.int .u64 a.x.rd, Value.int .i64 a.x.rs.f, Value.int .i64 a.x.rs.pc, Value.int .i64 a.x.vec]), (20, Value.tuple #[(⟨0, ⟨0, 0⟩, 0, ⟨0, 0⟩, 0⟩ : Shade).v, Value.int .i64 1]), (21, (⟨0, ⟨0, 0⟩, 0, ⟨0, 0⟩, 0⟩ : Shade).v), (22, Value.int .i64 1), (23, Value.pointer (some ⟨b6, 0, none⟩)), (24, Value.func (.func 37) #[] lb13), (25, Value.func (.func 37) #[] lb13), (26, Value.bool false), (27, Value.func (.func 37) #[] lb13), (30, Value.pointer (some ⟨n21, 0, none⟩)), (31, Value.pointer (some ⟨n21, 0, none⟩)), (32, Value.func (.func 37) #[] lb25), (33, Value.pointer (some ⟨n21, 0, none⟩)), (34, Value.pointer (some ⟨b1, 0, none⟩)), (35, Value.int .u32 a.addr), (36, Value.agg #[Value.int .u64 0, Value.int .i64 0, Value.int .i64 0, Value.int .u64 0, Value.int .i64 0, Value.int .i64 0, Value.int .i64 9]), (37, Value.tuple #[u29.v, Value.int .i64 u30]), (38, Value.func (.func 37) #[] lb25), (39, Value.bool false), (40, Value.func (.func 37) #[] lb25), (41, Value.int .u32 y33.addr), (42, y33.x.v)] ac := hA.sub ⟨⟨by kernel_rfl, by kernel_rfl⟩, ⟨by kernel_rfl, by kernel_rfl⟩, ⟨by kernel_rfl, by kernel_rfl⟩, ⟨by kernel_rfl, by kernel_rfl⟩, ⟨by kernel_rfl, by kernel_rfl⟩, ⟨by kernel_rfl, by kernel_rfl⟩, ⟨by kernel_rfl, by kernel_rfl⟩, ⟨by kernel_rfl, by kernel_rfl⟩, ⟨by kernel_rfl, by kernel_rfl⟩, ⟨by kernel_rfl, by kernel_rfl⟩, ⟨by kernel_rfl, by kernel_rfl⟩, ⟨by kernel_rfl, by kernel_rfl⟩, ⟨by kernel_rfl, by kernel_rfl⟩, ⟨by kernel_rfl, by kernel_rfl⟩, ⟨by kernel_rfl, by kernel_rfl⟩, ⟨by kernel_rfl, by kernel_rfl⟩, ⟨by kernel_rfl, by kernel_rfl⟩, ⟨by kernel_rfl, by kernel_rfl⟩, ⟨by kernel_rfl, by kernel_rfl⟩, ⟨by kernel_rfl, by kernel_rfl⟩, ⟨by kernel_rfl, by kernel_rfl⟩, ⟨by kernel_rfl, by kernel_rfl⟩, ⟨by kernel_rfl, by kernel_rfl⟩, ⟨by kernel_rfl, by kernel_rfl⟩, ⟨by kernel_rfl, by kernel_rfl⟩, ⟨by kernel_rfl, by kernel_rfl⟩, ⟨by kernel_rfl, by kernel_rfl⟩, ⟨by kernel_rfl, by kernel_rfl⟩, ⟨by kernel_rfl, by kernel_rfl⟩, ⟨by kernel_rfl, by kernel_rfl⟩, ⟨by kernel_rfl, by kernel_rfl⟩, ⟨by kernel_rfl, by kernel_rfl⟩, ⟨by kernel_rfl, by kernel_rfl⟩, ⟨by kernel_rfl, by kernel_rfl⟩, ⟨by kernel_rfl, by kernel_rfl⟩, ⟨by kernel_rfl, by kernel_rfl⟩, ⟨by kernel_rfl, by kernel_rfl⟩, ⟨by kernel_rfl, by kernel_rfl⟩, ⟨by kernel_rfl, by kernel_rfl⟩, ⟨by kernel_rfl, by kernel_rfl⟩, trivial⟩
         obtain ⟨xs_, ⟨ks_, h1_, h2_, h3_⟩, t_, ht_⟩ := hok_; have h4_ : ks_ = [] := (by simpa [keys, vals] using h1_); subst h4_; rw [h3_] at ht_; simp [gathOf] at ht_
       · skip
         clear hA ac hW; intro D34 xs_ Hk_ w35 ac hS_ hJ_ hA hW
         obtain ⟨_, rfl⟩ := hJ_
         replace hW : Ws w No [ShR n21 n22 u28, DefR D34, DefR D18, Cel b9 #[Value.int .u64 (⟨0, ⟨0, 0⟩, 0, ⟨0, 0⟩, 0⟩ : Shade).wr, Value.int .i64 (⟨0, ⟨0, 0⟩, 0, ⟨0, 0⟩, 0⟩ : Shade).ws.f, Value.int .i64 (⟨0, ⟨0, 0⟩, 0, ⟨0, 0⟩, 0⟩ : Shade).ws.pc, Value.int .u64 (⟨0, ⟨0, 0⟩, 0, ⟨0, 0⟩, 0⟩ : Shade).rd, Value.int .i64 (⟨0, ⟨0, 0⟩, 0, ⟨0, 0⟩, 0⟩ : Shade).rs.f, Value.int .i64 (⟨0, ⟨0, 0⟩, 0, ⟨0, 0⟩, 0⟩ : Shade).rs.pc, Value.int .i64 (⟨0, ⟨0, 0⟩, 0, ⟨0, 0⟩, 0⟩ : Shade).vec] 31, Cel b6 #[Value.map none] 55, Cel b3 #[Value.bool false] 4, Cel b1 #[Value.int .u32 a.addr, Value.int .u64 a.x.wr, Value.int .i64 a.x.ws.f, Value.int .i64 a.x.ws.pc, Value.int .u64 a.x.rd, Value.int .i64 a.x.rs.f, Value.int .i64 a.x.rs.pc, Value.int .i64 a.x.vec] 37] [g26, g14] w35 := hW
         refine blkN ?_
         refine thenN ?_
         refine wpIn_seq ?_
         refine wpIn_region_lit ?_
         refine st_rdF (v := Value.int .i64 1) hA (by kernel_rfl) (by kernel_rfl) (by kernel_rfl) (by kernel_rfl) hW.cls (Rd.pure fun _ => by kernel_rfl) ?_; clear hA ac; intro ac hA
         refine stF hA (by kernel_rfl) (by kernel_rfl) (by kernel_rfl) (by kernel_rfl) (RunsF.of (Runs.callS (v := Value.int .i64 1) (fun _ => by kernel_rfl) (e_num22 (1) w35) ?_)); clear hA ac; intro  ac hA
         refine st_rdF (v := Value.bool true) hA (by kernel_rfl) (by kernel_rfl) (by kernel_rfl) (by kernel_rfl) hW.cls (Rd.pure fun _ => by kernel_rfl) ?_; clear hA ac; intro ac hA
         refine st_rdF (v := Value.bool true) hA (by kernel_rfl) (by kernel_rfl) (by kernel_rfl) (by kernel_rfl) hW.cls (Rd.pure fun _ => by kernel_rfl) ?_; clear hA ac; intro ac hA
         refine st_rdF (v := Value.pointer (some ⟨b6, 0, none⟩)) hA (by kernel_rfl) (by kernel_rfl) (by kernel_rfl) (by kernel_rfl) hW.cls (Rd.pure fun _ => by kernel_rfl) ?_; clear hA ac; intro ac hA
         refine st_rdF (v := Value.pointer (some ⟨b1, 0, none⟩)) hA (by kernel_rfl) (by kernel_rfl) (by kernel_rfl) (by kernel_rfl) hW.cls (Rd.pure fun _ => by kernel_rfl) ?_; clear hA ac; intro ac hA
         refine st_rdF (v := Value.int .u32 a.addr) hA (by kernel_rfl) (by kernel_rfl) (by kernel_rfl) (by kernel_rfl) hW.cls (Rd.load (b := b1) (i := 0) (by kernel_rfl) (fun _ hw => (hw.1).cel 6 rfl) (by kernel_rfl)) ?_; clear hA ac; intro ac hA
         refine stF hA (by kernel_rfl) (by kernel_rfl) (by kernel_rfl) (by kernel_rfl) (RunsF.of (Runs.callN (v := (⟨0, ⟨0, 0⟩, 0, ⟨0, 0⟩, 0⟩ : Shade).v) (fun _ => by kernel_rfl) hW (e_sat_z b6 (a.addr) w35 ((hW).cel 4 rfl)) ?_)); clear hA ac hW; intro w36 hW hfw36 ac hA
         refine st_rdF (v := Value.agg #[Value.int .u64 0, Value.int .i64 0, Value.int .i64 0, Value.int .u64 0, Value.int .i64 0, Value.int .i64 0, Value.int .i64 0]) hA (by kernel_rfl) (by kernel_rfl) (by kernel_rfl) (by kernel_rfl) hW.cls (Rd.pure fun _ => by kernel_rfl) ?_; clear hA ac; intro ac hA
         refine st_rdF (v := Value.bool (decide ((⟨0, ⟨0, 0⟩, 0, ⟨0, 0⟩, 0⟩ : Shade) = (⟨0, (⟨0, 0⟩ : Site), 0, (⟨0, 0⟩ : Site), 0⟩ : Shade)))) hA (by kernel_rfl) (by kernel_rfl) (by kernel_rfl) (by kernel_rfl) hW.cls (Rd.eqS (u := (⟨0, ⟨0, 0⟩, 0, ⟨0, 0⟩, 0⟩ : Shade).v) (v := (⟨0, (⟨0, 0⟩ : Site), 0, (⟨0, 0⟩ : Site), 0⟩ : Shade).v) (by kernel_rfl) (by kernel_rfl) rfl rfl (by kernel_rfl) (fun w => eq_Shade w (⟨0, ⟨0, 0⟩, 0, ⟨0, 0⟩, 0⟩ : Shade) (⟨0, (⟨0, 0⟩ : Site), 0, (⟨0, 0⟩ : Site), 0⟩ : Shade))) ?_; clear hA ac; intro ac hA
         refine st_rdF (v := Value.bool (decide ((⟨0, ⟨0, 0⟩, 0, ⟨0, 0⟩, 0⟩ : Shade) = (⟨0, (⟨0, 0⟩ : Site), 0, (⟨0, 0⟩ : Site), 0⟩ : Shade)))) hA (by kernel_rfl) (by kernel_rfl) (by kernel_rfl) (by kernel_rfl) hW.cls (Rd.pure fun _ => by kernel_rfl) ?_; clear hA ac; intro ac hA
         refine st_rdF (v := Value.bool (decide ((⟨0, ⟨0, 0⟩, 0, ⟨0, 0⟩, 0⟩ : Shade) = (⟨0, (⟨0, 0⟩ : Site), 0, (⟨0, 0⟩ : Site), 0⟩ : Shade)))) hA (by kernel_rfl) (by kernel_rfl) (by kernel_rfl) (by kernel_rfl) hW.cls (Rd.pure fun _ => by kernel_rfl) ?_; clear hA ac; intro ac hA
         rcases Bool.eq_false_or_eq_true (decide ((⟨0, ⟨0, 0⟩, 0, ⟨0, 0⟩, 0⟩ : Shade) = (⟨0, (⟨0, 0⟩ : Site), 0, (⟨0, 0⟩ : Site), 0⟩ : Shade))) with h37 | h37
         · skip
           rw [h37] at hA
           have h37 := of_decide_eq_true h37
           have h37e := (Shade.eqi _ _).1 h37
           first
           | (exfalso; clear hA hW; omega)
           | (exfalso; clear hA hW; exact h37 rfl; done)
           | (
             refine st_rdF (v := Value.pointer (some ⟨b6, 0, none⟩)) hA (by kernel_rfl) (by kernel_rfl) (by kernel_rfl) (by kernel_rfl) hW.cls (Rd.pure fun _ => by kernel_rfl) ?_; clear hA ac; intro ac hA
             refine stF hA (by kernel_rfl) (by kernel_rfl) (by kernel_rfl) (by kernel_rfl) (RunsF.of (Runs.callN (v := Value.slice none 0 0) (fun _ => by kernel_rfl) hW (e_spages_z b6 w36 ((hW).cel 4 rfl)) ?_)); clear hA ac hW; intro w38 hW hfw38 ac hA
             refine st_rdF (v := Value.int .i64 0) hA (by kernel_rfl) (by kernel_rfl) (by kernel_rfl) (by kernel_rfl) hW.cls (Rd.pure fun _ => by kernel_rfl) ?_; clear hA ac; intro ac hA
             refine st_rdF (v := Value.pointer (some ⟨b6, 0, none⟩)) hA (by kernel_rfl) (by kernel_rfl) (by kernel_rfl) (by kernel_rfl) hW.cls (Rd.pure fun _ => by kernel_rfl) ?_; clear hA ac; intro ac hA
             refine stF hA (by kernel_rfl) (by kernel_rfl) (by kernel_rfl) (by kernel_rfl) (RunsF.of (Runs.callN (v := Value.slice none 0 0) (fun _ => by kernel_rfl) hW (e_svec_z b6 w38 ((hW).cel 4 rfl)) ?_)); clear hA ac hW; intro w39 hW hfw39 ac hA
             refine st_rdF (v := Value.int .i64 0) hA (by kernel_rfl) (by kernel_rfl) (by kernel_rfl) (by kernel_rfl) hW.cls (Rd.pure fun _ => by kernel_rfl) ?_; clear hA ac; intro ac hA
             refine st_rdF (v := Value.int .i64 0) hA (by kernel_rfl) (by kernel_rfl) (by kernel_rfl) (by kernel_rfl) hW.cls (Rd.pureE (v0 := Value.int .i64 (IntKind.i64.wrap ((0 : Int) + 0))) (fun _ => by kernel_rfl) (congrArg (Value.int .i64) ((w_i64 (x := (0 : Int) + 0) (by omega) (by omega)).trans (by omega)))) ?_; clear hA ac; intro ac hA
             refine st_rdF (v := Value.bool true) hA (by kernel_rfl) (by kernel_rfl) (by kernel_rfl) (by kernel_rfl) hW.cls (Rd.pure fun _ => by kernel_rfl) ?_; clear hA ac; intro ac hA
             refine st_rdF (v := Value.bool true) hA (by kernel_rfl) (by kernel_rfl) (by kernel_rfl) (by kernel_rfl) hW.cls (Rd.pure fun _ => by kernel_rfl) ?_; clear hA ac; intro ac hA
             refine st_rdF (v := Value.bool true) hA (by kernel_rfl) (by kernel_rfl) (by kernel_rfl) (by kernel_rfl) hW.cls (Rd.pure fun _ => by kernel_rfl) ?_; clear hA ac; intro ac hA
             refine st_rdF (v := Value.pointer (some ⟨b6, 0, none⟩)) hA (by kernel_rfl) (by kernel_rfl) (by kernel_rfl) (by kernel_rfl) hW.cls (Rd.pure fun _ => by kernel_rfl) ?_; clear hA ac; intro ac hA
             refine stF hA (by kernel_rfl) (by kernel_rfl) (by kernel_rfl) (by kernel_rfl) (RunsF.of (Runs.callN (v := Value.pointer none) (fun _ => by kernel_rfl) hW (e_scopy_z b6 w39 ((hW).cel 4 rfl)) ?_)); clear hA ac hW; intro w40 hW hfw40 ac hA
             refine st_rdF (v := Value.bool true) hA (by kernel_rfl) (by kernel_rfl) (by kernel_rfl) (by kernel_rfl) hW.cls (Rd.pure fun _ => by kernel_rfl) ?_; clear hA ac; intro ac hA
             refine st_rdF (v := Value.bool true) hA (by kernel_rfl) (by kernel_rfl) (by kernel_rfl) (by kernel_rfl) hW.cls (Rd.pure fun _ => by kernel_rfl) ?_; clear hA ac; intro ac hA
             refine st_rdF (v := Value.bool true) hA (by kernel_rfl) (by kernel_rfl) (by kernel_rfl) (by kernel_rfl) hW.cls (Rd.pure fun _ => by kernel_rfl) ?_; clear hA ac; intro ac hA
             refine st_rdF (v := Value.pointer (some ⟨b6, 0, none⟩)) hA (by kernel_rfl) (by kernel_rfl) (by kernel_rfl) (by kernel_rfl) hW.cls (Rd.pure fun _ => by kernel_rfl) ?_; clear hA ac; intro ac hA
             refine stF hA (by kernel_rfl) (by kernel_rfl) (by kernel_rfl) (by kernel_rfl) (RunsF.of (Runs.callN (v := Value.bool true) (fun _ => by kernel_rfl) hW (e_ssame_z b6 w40 ((hW).cel 4 rfl)) ?_)); clear hA ac hW; intro w41 hW hfw41 ac hA
             refine st_rdF (v := Value.bool true) hA (by kernel_rfl) (by kernel_rfl) (by kernel_rfl) (by kernel_rfl) hW.cls (Rd.pure fun _ => by kernel_rfl) ?_; clear hA ac; intro ac hA
             refine st_rdF (v := Value.bool true) hA (by kernel_rfl) (by kernel_rfl) (by kernel_rfl) (by kernel_rfl) hW.cls (Rd.pure fun _ => by kernel_rfl) ?_; clear hA ac; intro ac hA
             refine st_rdF (v := Value.pointer (some ⟨n21, 0, none⟩)) hA (by kernel_rfl) (by kernel_rfl) (by kernel_rfl) (by kernel_rfl) hW.cls (Rd.pure fun _ => by kernel_rfl) ?_; clear hA ac; intro ac hA
             refine st_rdF (v := Value.pointer (some ⟨b6, 0, none⟩)) hA (by kernel_rfl) (by kernel_rfl) (by kernel_rfl) (by kernel_rfl) hW.cls (Rd.pure fun _ => by kernel_rfl) ?_; clear hA ac; intro ac hA
             refine stF hA (by kernel_rfl) (by kernel_rfl) (by kernel_rfl) (by kernel_rfl) (RunsF.of (Runs.callN (v := Value.bool false) (fun _ => by kernel_rfl) hW (e_ssame_oz n21 n22 u28 b6 w41 ((hW).get 0 rfl) ((hW).lt _ (List.mem_of_getElem? (i := 0) rfl)) ((hW).cel 4 rfl)) ?_)); clear hA ac hW; intro w42 hW hfw42 ac hA
             refine st_rdF (v := Value.bool true) hA (by kernel_rfl) (by kernel_rfl) (by kernel_rfl) (by kernel_rfl) hW.cls (Rd.pure fun _ => by kernel_rfl) ?_; clear hA ac; intro ac hA
             refine st_rdF (v := Value.bool true) hA (by kernel_rfl) (by kernel_rfl) (by kernel_rfl) (by kernel_rfl) hW.cls (Rd.pure fun _ => by kernel_rfl) ?_; clear hA ac; intro ac hA
             refine st_rdF (v := Value.bool true) hA (by kernel_rfl) (by kernel_rfl) (by kernel_rfl) (by kernel_rfl) hW.cls (Rd.pure fun _ => by kernel_rfl) ?_; clear hA ac; intro ac hA
             refine stF hA (by kernel_rfl) (by kernel_rfl) (by kernel_rfl) (by kernel_rfl) (RunsF.of (Runs.callN (v := Value.bool true) (fun _ => by kernel_rfl) hW (e_works22 w42) ?_)); clear hA ac hW; intro w43 hW hfw43 ac hA
             refine st_rdF (v := Value.bool true) hA (by kernel_rfl) (by kernel_rfl) (by kernel_rfl) (by kernel_rfl) hW.cls (Rd.pure fun _ => by kernel_rfl) ?_; clear hA ac; intro ac hA
             refine stF hA (by kernel_rfl) (by kernel_rfl) (by kernel_rfl) (by kernel_rfl) (RunsF.of (Runs.store (v := Value.bool true) (b := b3) (j := 0) (n := 1) (cs' := #[Value.bool true]) (H' := [ShR n21 n22 u28, DefR D34, DefR D18, Cel b9 #[Value.int .u64 (⟨0, ⟨0, 0⟩, 0, ⟨0, 0⟩, 0⟩ : Shade).wr, Value.int .i64 (⟨0, ⟨0, 0⟩, 0, ⟨0, 0⟩, 0⟩ : Shade).ws.f, Value.int .i64 (⟨0, ⟨0, 0⟩, 0, ⟨0, 0⟩, 0⟩ : Shade).ws.pc, Value.int .u64 (⟨0, ⟨0, 0⟩, 0, ⟨0, 0⟩, 0⟩ : Shade).rd, Value.int .i64 (⟨0, ⟨0, 0⟩, 0, ⟨0, 0⟩, 0⟩ : Shade).rs.f, Value.int .i64 (⟨0, ⟨0, 0⟩, 0, ⟨0, 0⟩, 0⟩ : Shade).rs.pc, Value.int .i64 (⟨0, ⟨0, 0⟩, 0, ⟨0, 0⟩, 0⟩ : Shade).vec] 31, Cel b6 #[Value.map none] 55, Cel b3 #[Value.bool true] 4, Cel b1 #[Value.int .u32 a.addr, Value.int .u64 a.x.wr, Value.int .i64 a.x.ws.f, Value.int .i64 a.x.ws.pc, Value.int .u64 a.x.rd, Value.int .i64 a.x.rs.f, Value.int .i64 a.x.rs.pc, Value.int .i64 a.x.vec] 37]) (by kernel_rfl) (by kernel_rfl) (by kernel_rfl) (by kernel_rfl) (by kernel_rfl) hW 5 (by rfl) (Nat.le_of_ble_eq_true (by kernel_rfl)) (by kernel_rfl) (by rfl) ?_)); clear hA ac hW; intro w44 hW ac hA
             refine wpListIn_nil ?_
             refine thenN ?_
             refine wpIn_ret ?_
             refine retF (.inl rfl) hA ?_
             refine leaveD (H' := [ShR n21 n22 u28, DefR D18, Cel b9 #[Value.int .u64 (⟨0, ⟨0, 0⟩, 0, ⟨0, 0⟩, 0⟩ : Shade).wr, Value.int .i64 (⟨0, ⟨0, 0⟩, 0, ⟨0, 0⟩, 0⟩ : Shade).ws.f, Value.int .i64 (⟨0, ⟨0, 0⟩, 0, ⟨0, 0⟩, 0⟩ : Shade).ws.pc, Value.int .u64 (⟨0, ⟨0, 0⟩, 0, ⟨0, 0⟩, 0⟩ : Shade).rd, Value.int .i64 (⟨0, ⟨0, 0⟩, 0, ⟨0, 0⟩, 0⟩ : Shade).rs.f, Value.int .i64 (⟨0, ⟨0, 0⟩, 0, ⟨0, 0⟩, 0⟩ : Shade).rs.pc, Value.int .i64 (⟨0, ⟨0, 0⟩, 0, ⟨0, 0⟩, 0⟩ : Shade).vec] 31, Cel b6 #[Value.map none] 55, Cel b3 #[Value.bool true] 4, Cel b1 #[Value.int .u32 a.addr, Value.int .u64 a.x.wr, Value.int .i64 a.x.ws.f, Value.int .i64 a.x.ws.pc, Value.int .u64 a.x.rd, Value.int .i64 a.x.rs.f, Value.int .i64 a.x.rs.pc, Value.int .i64 a.x.vec] 37]) hW 1 rfl rfl ?_; clear hW; intro w45 hW
             refine leaveD (H' := [ShR n21 n22 u28, Cel b9 #[Value.int .u64 (⟨0, ⟨0, 0⟩, 0, ⟨0, 0⟩, 0⟩ : Shade).wr, Value.int .i64 (⟨0, ⟨0, 0⟩, 0, ⟨0, 0⟩, 0⟩ : Shade).ws.f, Value.int .i64 (⟨0, ⟨0, 0⟩, 0, ⟨0, 0⟩, 0⟩ : Shade).ws.pc, Value.int .u64 (⟨0, ⟨0, 0⟩, 0, ⟨0, 0⟩, 0⟩ : Shade).rd, Value.int .i64 (⟨0, ⟨0, 0⟩, 0, ⟨0, 0⟩, 0⟩ : Shade).rs.f, Value.int .i64 (⟨0, ⟨0, 0⟩, 0, ⟨0, 0⟩, 0⟩ : Shade).rs.pc, Value.int .i64 (⟨0, ⟨0, 0⟩, 0, ⟨0, 0⟩, 0⟩ : Shade).vec] 31, Cel b6 #[Value.map none] 55, Cel b3 #[Value.bool true] 4, Cel b1 #[Value.int .u32 a.addr, Value.int .u64 a.x.wr, Value.int .i64 a.x.ws.f, Value.int .i64 a.x.ws.pc, Value.int .u64 a.x.rd, Value.int .i64 a.x.rs.f, Value.int .i64 a.x.rs.pc, Value.int .i64 a.x.vec] 37]) hW 1 rfl rfl ?_; clear hW; intro w46 hW
             refine leave1 (v := Value.bool true) (by rfl) (GotF.cell (b := b3) (i := 0) hA (by kernel_rfl) (by kernel_rfl) (hW.cel 3 rfl) (by kernel_rfl)) ?_
             clear hA
             exact ⟨retv (by rfl), hW.fr⟩)
         · skip
           rw [h37] at hA
           have h37 := of_decide_eq_false h37
           have h37e := fun e => h37 ((Shade.eqi _ _).2 e)
           first
           | (exfalso; clear hA hW; omega)
           | (exfalso; clear hA hW; exact h37 rfl; done)
           | (
             refine st_skipF hA (by kernel_rfl) (by kernel_rfl) ?_; clear hA ac; intro ac hA
             refine st_skipF hA (by kernel_rfl) (by kernel_rfl) ?_; clear hA ac; intro ac hA
             refine st_skipF hA (by kernel_rfl) (by kernel_rfl) ?_; clear hA ac; intro ac hA
             refine st_skipF hA (by kernel_rfl) (by kernel_rfl) ?_; clear hA ac; intro ac hA
             refine st_skipF hA (by kernel_rfl) (by kernel_rfl) ?_; clear hA ac; intro ac hA
             refine st_skipF hA (by kernel_rfl) (by kernel_rfl) ?_; clear hA ac; intro ac hA
             refine st_skipF hA (by kernel_rfl) (by kernel_rfl) ?_; clear hA ac; intro ac hA
             refine st_skipF hA (by kernel_rfl) (by kernel_rfl) ?_; clear hA ac; intro ac hA
             refine st_rdF (v := Value.bool false) hA (by kernel_rfl) (by kernel_rfl) (by kernel_rfl) (by kernel_rfl) hW.cls (Rd.pure fun _ => by kernel_rfl) ?_; clear hA ac; intro ac hA
             refine st_rdF (v := Value.bool false) hA (by kernel_rfl) (by kernel_rfl) (by kernel_rfl) (by kernel_rfl) hW.cls (Rd.pure fun _ => by kernel_rfl) ?_; clear hA ac; intro ac hA
             refine st_skipF hA (by kernel_rfl) (by kernel_rfl) ?_; clear hA ac; intro ac hA
             refine st_skipF hA (by kernel_rfl) (by kernel_rfl) ?_; clear hA ac; intro ac hA
             refine st_skipF hA (by kernel_rfl) (by kernel_rfl) ?_; clear hA ac; intro ac hA
             refine st_rdF (v := Value.bool false) hA (by kernel_rfl) (by kernel_rfl) (by kernel_rfl) (by kernel_rfl) hW.cls (Rd.pure fun _ => by kernel_rfl) ?_; clear hA ac; intro ac hA
             refine st_rdF (v := Value.bool false) hA (by kernel_rfl) (by kernel_rfl) (by kernel_rfl) (by kernel_rfl) hW.cls (Rd.pure fun _ => by kernel_rfl) ?_; clear hA ac; intro ac hA
             refine st_skipF hA (by kernel_rfl) (by kernel_rfl) ?_; clear hA ac; intro ac hA
             refine st_skipF hA (by kernel_rfl) (by kernel_rfl) ?_; clear hA ac; intro ac hA
             refine st_rdF (v := Value.bool false) hA (by kernel_rfl) (by kernel_rfl) (by kernel_rfl) (by kernel_rfl) hW.cls (Rd.pure fun _ => by kernel_rfl) ?_; clear hA ac; intro ac hA
             refine st_rdF (v := Value.bool false) hA (by kernel_rfl) (by kernel_rfl) (by kernel_rfl) (by kernel_rfl) hW.cls (Rd.pure fun _ => by kernel_rfl) ?_; clear hA ac; intro ac hA
             refine st_skipF hA (by kernel_rfl) (by kernel_rfl) ?_; clear hA ac; intro ac hA
             refine st_skipF hA (by kernel_rfl) (by kernel_rfl) ?_; clear hA ac; intro ac hA
             refine st_skipF hA (by kernel_rfl) (by kernel_rfl) ?_; clear hA ac; intro ac hA
             refine st_skipF hA (by kernel_rfl) (by kernel_rfl) ?_; clear hA ac; intro ac hA
             refine st_rdF (v := Value.bool false) hA (by kernel_rfl) (by kernel_rfl) (by kernel_rfl) (by kernel_rfl) hW.cls (Rd.pure fun _ => by kernel_rfl) ?_; clear hA ac; intro ac hA
             refine st_rdF (v := Value.bool false) hA (by kernel_rfl) (by kernel_rfl) (by kernel_rfl) (by kernel_rfl) hW.cls (Rd.pure fun _ => by kernel_rfl) ?_; clear hA ac; intro ac hA
             refine st_skipF hA (by kernel_rfl) (by kernel_rfl) ?_; clear hA ac; intro ac hA
             refine st_rdF (v := Value.bool false) hA (by kernel_rfl) (by kernel_rfl) (by kernel_rfl) (by kernel_rfl) hW.cls (Rd.pure fun _ => by kernel_rfl) ?_; clear hA ac; intro ac hA
             refine stF hA (by kernel_rfl) (by kernel_rfl) (by kernel_rfl) (by kernel_rfl) (RunsF.of (Runs.store (v := Value.bool false) (b := b3) (j := 0) (n := 1) (cs' := #[Value.bool false]) (H' := [ShR n21 n22 u28, DefR D34, DefR D18, Cel b9 #[Value.int .u64 (⟨0, ⟨0, 0⟩, 0, ⟨0, 0⟩, 0⟩ : Shade).wr, Value.int .i64 (⟨0, ⟨0, 0⟩, 0, ⟨0, 0⟩, 0⟩ : Shade).ws.f, Value.int .i64 (⟨0, ⟨0, 0⟩, 0, ⟨0, 0⟩, 0⟩ : Shade).ws.pc, Value.int .u64 (⟨0, ⟨0, 0⟩, 0, ⟨0, 0⟩, 0⟩ : Shade).rd, Value.int .i64 (⟨0, ⟨0, 0⟩, 0, ⟨0, 0⟩, 0⟩ : Shade).rs.f, Value.int .i64 (⟨0, ⟨0, 0⟩, 0, ⟨0, 0⟩, 0⟩ : Shade).rs.pc, Value.int .i64 (⟨0, ⟨0, 0⟩, 0, ⟨0, 0⟩, 0⟩ : Shade).vec] 31, Cel b6 #[Value.map none] 55, Cel b3 #[Value.bool false] 4, Cel b1 #[Value.int .u32 a.addr, Value.int .u64 a.x.wr, Value.int .i64 a.x.ws.f, Value.int .i64 a.x.ws.pc, Value.int .u64 a.x.rd, Value.int .i64 a.x.rs.f, Value.int .i64 a.x.rs.pc, Value.int .i64 a.x.vec] 37]) (by kernel_rfl) (by kernel_rfl) (by kernel_rfl) (by kernel_rfl) (by kernel_rfl) hW 5 (by rfl) (Nat.le_of_ble_eq_true (by kernel_rfl)) (by kernel_rfl) (by rfl) ?_)); clear hA ac hW; intro w47 hW ac hA
             refine wpListIn_nil ?_
             refine thenN ?_
             refine wpIn_ret ?_
             refine retF (.inl rfl) hA ?_
             refine leaveD (H' := [ShR n21 n22 u28, DefR D18, Cel b9 #[Value.int .u64 (⟨0, ⟨0, 0⟩, 0, ⟨0, 0⟩, 0⟩ : Shade).wr, Value.int .i64 (⟨0, ⟨0, 0⟩, 0, ⟨0, 0⟩, 0⟩ : Shade).ws.f, Value.int .i64 (⟨0, ⟨0, 0⟩, 0, ⟨0, 0⟩, 0⟩ : Shade).ws.pc, Value.int .u64 (⟨0, ⟨0, 0⟩, 0, ⟨0, 0⟩, 0⟩ : Shade).rd, Value.int .i64 (⟨0, ⟨0, 0⟩, 0, ⟨0, 0⟩, 0⟩ : Shade).rs.f, Value.int .i64 (⟨0, ⟨0, 0⟩, 0, ⟨0, 0⟩, 0⟩ : Shade).rs.pc, Value.int .i64 (⟨0, ⟨0, 0⟩, 0, ⟨0, 0⟩, 0⟩ : Shade).vec] 31, Cel b6 #[Value.map none] 55, Cel b3 #[Value.bool false] 4, Cel b1 #[Value.int .u32 a.addr, Value.int .u64 a.x.wr, Value.int .i64 a.x.ws.f, Value.int .i64 a.x.ws.pc, Value.int .u64 a.x.rd, Value.int .i64 a.x.rs.f, Value.int .i64 a.x.rs.pc, Value.int .i64 a.x.vec] 37]) hW 1 rfl rfl ?_; clear hW; intro w48 hW
             refine leaveD (H' := [ShR n21 n22 u28, Cel b9 #[Value.int .u64 (⟨0, ⟨0, 0⟩, 0, ⟨0, 0⟩, 0⟩ : Shade).wr, Value.int .i64 (⟨0, ⟨0, 0⟩, 0, ⟨0, 0⟩, 0⟩ : Shade).ws.f, Value.int .i64 (⟨0, ⟨0, 0⟩, 0, ⟨0, 0⟩, 0⟩ : Shade).ws.pc, Value.int .u64 (⟨0, ⟨0, 0⟩, 0, ⟨0, 0⟩, 0⟩ : Shade).rd, Value.int .i64 (⟨0, ⟨0, 0⟩, 0, ⟨0, 0⟩, 0⟩ : Shade).rs.f, Value.int .i64 (⟨0, ⟨0, 0⟩, 0, ⟨0, 0⟩, 0⟩ : Shade).rs.pc, Value.int .i64 (⟨0, ⟨0, 0⟩, 0, ⟨0, 0⟩, 0⟩ : Shade).vec] 31, Cel b6 #[Value.map none] 55, Cel b3 #[Value.bool false] 4, Cel b1 #[Value.int .u32 a.addr, Value.int .u64 a.x.wr, Value.int .i64 a.x.ws.f, Value.int .i64 a.x.ws.pc, Value.int .u64 a.x.rd, Value.int .i64 a.x.rs.f, Value.int .i64 a.x.rs.pc, Value.int .i64 a.x.vec] 37]) hW 1 rfl rfl ?_; clear hW; intro w49 hW
             refine leave1 (v := Value.bool false) (by rfl) (GotF.cell (b := b3) (i := 0) hA (by kernel_rfl) (by kernel_rfl) (hW.cel 3 rfl) (by kernel_rfl)) ?_
             clear hA
             exact ⟨retv (by rfl), hW.fr⟩)
       · skip
         clear hA ac hW; intro D50 c_ pre_ Hk_ w51 ac hJ_ hA hW
         exact hJ_.elim
     · skip
       clear hA ac hW; intro D52 c_ pre_ Hk_ w53 ac hJ_ hA hW
       exact hJ_.elim)
 · skip
   first
   | (exfalso; clear hA hW; omega)
   | (exfalso; clear hA hW; exact h5 rfl; done)
   | (
     refine wpIn_skip ?_
     refine thenN ?_
     refine wpIn_seq ?_
     refine wpIn_region_lit ?_
     refine st_rdF (v := Value.pointer none) hA (by kernel_rfl) (by kernel_rfl) (by kernel_rfl) (by kernel_rfl) hW.cls (Rd.pure fun _ => by kernel_rfl) ?_; clear hA ac; intro ac hA
     refine st_rdF (v := Value.pointer (some ⟨b1, 0, none⟩)) hA (by kernel_rfl) (by kernel_rfl) (by kernel_rfl) (by kernel_rfl) hW.cls (Rd.pure fun _ => by kernel_rfl) ?_; clear hA ac; intro ac hA
     refine st_rdF (v := Value.int .u32 a.addr) hA (by kernel_rfl) (by kernel_rfl) (by kernel_rfl) (by kernel_rfl) hW.cls (Rd.load (b := b1) (i := 0) (by kernel_rfl) (fun _ hw => (hw.1).cel 1 rfl) (by kernel_rfl)) ?_; clear hA ac; intro ac hA
     refine st_rdF (v := Value.pointer (some ⟨b1, 1, none⟩)) hA (by kernel_rfl) (by kernel_rfl) (by kernel_rfl) (by kernel_rfl) hW.cls (Rd.pure fun _ => by kernel_rfl) ?_; clear hA ac; intro ac hA
     refine st_rdF (v := Value.agg #[Value.int .u64 a.x.wr, Value.int .i64 a.x.ws.f, Value.int .i64 a.x.ws.pc, Value.int .u64 a.x.rd, Value.int .i64 a.x.rs.f, Value.int .i64 a.x.rs.pc, Value.int .i64 a.x.vec]) hA (by kernel_rfl) (by kernel_rfl) (by kernel_rfl) (by kernel_rfl) hW.cls (Rd.load (b := b1) (i := 1) (by kernel_rfl) (fun _ hw => (hw.1).cel 1 rfl) (by kernel_rfl)) ?_; clear hA ac; intro ac hA
     refine stF hA (by kernel_rfl) (by kernel_rfl) (by kernel_rfl) (by kernel_rfl) (RunsF.of (Runs.callN (v := Value.tuple #[(⟨0, ⟨0, 0⟩, 0, ⟨0, 0⟩, 0⟩ : Shade).v, Value.int .i64 1]) (fun _ => by kernel_rfl) hW (e_slay_nil (a.addr) a.x w4) ?_)); clear hA ac hW; intro w54 hW hfw54 ac hA
     refine st_rdF (v := Value.tuple #[(⟨0, ⟨0, 0⟩, 0, ⟨0, 0⟩, 0⟩ : Shade).v, Value.int .i64 1]) hA (by kernel_rfl) (by kernel_rfl) (by kernel_rfl) (by kernel_rfl) hW.cls (Rd.pure fun _ => by kernel_rfl) ?_; clear hA ac; intro ac hA
     refine st_rdF (v := (⟨0, ⟨0, 0⟩, 0, ⟨0, 0⟩, 0⟩ : Shade).v) hA (by kernel_rfl) (by kernel_rfl) (by kernel_rfl) (by kernel_rfl) hW.cls (Rd.pure fun _ => by kernel_rfl) ?_; clear hA ac; intro ac hA
     refine st_rdF (v := Value.int .i64 1) hA (by kernel_rfl) (by kernel_rfl) (by kernel_rfl) (by kernel_rfl) hW.cls (Rd.pure fun _ => by kernel_rfl) ?_; clear hA ac; intro ac hA
     refine stF hA (by kernel_rfl) (by kernel_rfl) (by kernel_rfl) (by kernel_rfl) (RunsF.of (Runs.cells (fun b => Value.pointer (some ⟨b, 0, none⟩)) #[Value.int .u64 0, Value.int .i64 0, Value.int .i64 0, Value.int .u64 0, Value.int .i64 0, Value.int .i64 0, Value.int .i64 0] 31 (fun _ => by kernel_rfl) hW ?_)); clear hA ac hW; intro b55 w56 hW hb55 hfw56 ac hA
     refine stF hA (by kernel_rfl) (by kernel_rfl) (by kernel_rfl) (by kernel_rfl) (RunsF.of (Runs.store (v := (⟨0, ⟨0, 0⟩, 0, ⟨0, 0⟩, 0⟩ : Shade).v) (b := b55) (j := 0) (n := 7) (cs' := #[Value.int .u64 (⟨0, ⟨0, 0⟩, 0, ⟨0, 0⟩, 0⟩ : Shade).wr, Value.int .i64 (⟨0, ⟨0, 0⟩, 0, ⟨0, 0⟩, 0⟩ : Shade).ws.f, Value.int .i64 (⟨0, ⟨0, 0⟩, 0, ⟨0, 0⟩, 0⟩ : Shade).ws.pc, Value.int .u64 (⟨0, ⟨0, 0⟩, 0, ⟨0, 0⟩, 0⟩ : Shade).rd, Value.int .i64 (⟨0, ⟨0, 0⟩, 0, ⟨0, 0⟩, 0⟩ : Shade).rs.f, Value.int .i64 (⟨0, ⟨0, 0⟩, 0, ⟨0, 0⟩, 0⟩ : Shade).rs.pc, Value.int .i64 (⟨0, ⟨0, 0⟩, 0, ⟨0, 0⟩, 0⟩ : Shade).vec]) (H' := [Cel b55 #[Value.int .u64 (⟨0, ⟨0, 0⟩, 0, ⟨0, 0⟩, 0⟩ : Shade).wr, Value.int .i64 (⟨0, ⟨0, 0⟩, 0, ⟨0, 0⟩, 0⟩ : Shade).ws.f, Value.int .i64 (⟨0, ⟨0, 0⟩, 0, ⟨0, 0⟩, 0⟩ : Shade).ws.pc, Value.int .u64 (⟨0, ⟨0, 0⟩, 0, ⟨0, 0⟩, 0⟩ : Shade).rd, Value.int .i64 (⟨0, ⟨0, 0⟩, 0, ⟨0, 0⟩, 0⟩ : Shade).rs.f, Value.int .i64 (⟨0, ⟨0, 0⟩, 0, ⟨0, 0⟩, 0⟩ : Shade).rs.pc, Value.int .i64 (⟨0, ⟨0, 0⟩, 0, ⟨0, 0⟩, 0⟩ : Shade).vec] 31, Cel b3 #[Value.bool false] 4, Cel b1 #[Value.int .u32 a.addr, Value.int .u64 a.x.wr, Value.int .i64 a.x.ws.f, Value.int .i64 a.x.ws.pc, Value.int .u64 a.x.rd, Value.int .i64 a.x.rs.f, Value.int .i64 a.x.rs.pc, Value.int .i64 a.x.vec] 37]) (by kernel_rfl) (by kernel_rfl) (by kernel_rfl) (by kernel_rfl) (by kernel_rfl) hW 0 (by rfl) (Nat.le_of_ble_eq_true (by kernel_rfl)) (by kernel_rfl) (by rfl) ?_)); clear hA ac hW; intro w57 hW ac hA
     refine st_rdF (v := Value.int .i64 1) hA (by kernel_rfl) (by kernel_rfl) (by kernel_rfl) (by kernel_rfl) hW.cls (Rd.pure fun _ => by kernel_rfl) ?_; clear hA ac; intro ac hA
     refine wpListIn_nil ?_
     refine thenN ?_
     refine wpIn_seq ?_
     refine wpIn_region_lit ?_
     refine st_rdF (v := Value.pointer none) hA (by kernel_rfl) (by kernel_rfl) (by kernel_rfl) (by kernel_rfl) hW.cls (Rd.pure fun _ => by kernel_rfl) ?_; clear hA ac; intro ac hA
     refine stF hA (by kernel_rfl) (by kernel_rfl) (by kernel_rfl) (by kernel_rfl) (RunsF.of (Runs.call (fun _ => by kernel_rfl) (e_sall_nil w57) ?_))
     rintro _ w58 ⟨lb59, g60, rfl, hIg60, hfg60, hfw58⟩; refine ⟨_, rfl, ?_⟩; have hW0 := hW; have hW := hW0.call hfw58; have hW := hW0.addFromAt hW hfg60 in_nil; clear hW0 hA ac; intro ac hA
     refine st_rdF (v := Value.func (.func 37) #[] lb59) hA (by kernel_rfl) (by kernel_rfl) (by kernel_rfl) (by kernel_rfl) hW.cls (Rd.pure fun _ => by kernel_rfl) ?_; clear hA ac; intro ac hA
     refine wpListIn_nil ?_
     refine thenN ?_
     refine wpIn_seq ?_
     refine wpIn_seq ?_
     refine wpIn_region_lit ?_
     refine st_rdF (v := Value.func (.func 37) #[] lb59) hA (by kernel_rfl) (by kernel_rfl) (by kernel_rfl) (by kernel_rfl) hW.cls (Rd.pure fun _ => by kernel_rfl) ?_; clear hA ac; intro ac hA
     refine st_rdF (v := Value.bool false) hA (by kernel_rfl) (by kernel_rfl) (by kernel_rfl) (by kernel_rfl) hW.cls (Rd.pure fun _ => by kernel_rfl) ?_; clear hA ac; intro ac hA
     refine wpListIn_nil ?_
     refine thenN ?_
     refine wpIn_cond_false (hA.eval (by kernel_rfl)) ?_
     refine wpIn_skip ?_
     refine thenN ?_
     refine wpIn_seq ?_
     refine wpIn_seq ?_
     refine wpIn_region_lit ?_
     refine st_rdF (v := Value.func (.func 37) #[] lb59) hA (by kernel_rfl) (by kernel_rfl) (by kernel_rfl) (by kernel_rfl) hW.cls (Rd.pure fun _ => by kernel_rfl) ?_; clear hA ac; intro ac hA
     refine wpListIn_nil ?_
     refine thenN ?_
     refine wpIn_block ?_
     refine wp_range (encs := (fun x_ : Cell22 => #[Value.int .u32 x_.addr, x_.x.v])) (Sx := (· = ([] : List Cell22))) hA (by kernel_rfl) (by kernel_rfl) (enters_of Try.func37 (by kernel_rfl) rfl) (by kernel_rfl) (fun _ => rfl) hIg60 (List.forall_mem_singleton.2 (List.mem_of_getElem? (i := 0) rfl)) (fun pre_ H_ => ∃ k : Nat, pre_ = ([] : List Cell22).take k ∧ k ≤ ([] : List Cell22).length ∧ H_ = []) (fun _ _ _ => False) (H := []) (K := [Cel b55 #[Value.int .u64 (⟨0, ⟨0, 0⟩, 0, ⟨0, 0⟩, 0⟩ : Shade).wr, Value.int .i64 (⟨0, ⟨0, 0⟩, 0, ⟨0, 0⟩, 0⟩ : Shade).ws.f, Value.int .i64 (⟨0, ⟨0, 0⟩, 0, ⟨0, 0⟩, 0⟩ : Shade).ws.pc, Value.int .u64 (⟨0, ⟨0, 0⟩, 0, ⟨0, 0⟩, 0⟩ : Shade).rd, Value.int .i64 (⟨0, ⟨0, 0⟩, 0, ⟨0, 0⟩, 0⟩ : Shade).rs.f, Value.int .i64 (⟨0, ⟨0, 0⟩, 0, ⟨0, 0⟩, 0⟩ : Shade).rs.pc, Value.int .i64 (⟨0, ⟨0, 0⟩, 0, ⟨0, 0⟩, 0⟩ : Shade).vec] 31, Cel b3 #[Value.bool false] 4, Cel b1 #[Value.int .u32 a.addr, Value.int .u64 a.x.wr, Value.int .i64 a.x.ws.f, Value.int .i64 a.x.ws.pc, Value.int .u64 a.x.rd, Value.int .i64 a.x.rs.f, Value.int .i64 a.x.rs.pc, Value.int .i64 a.x.vec] 37]) (hW.pick [0, 1, 2] (by decide) rfl) ⟨0, rfl, Nat.zero_le _, rfl⟩ ?_ ?_ ?_
     · skip
       clear hA ac hW; intro l_61 rd_61 bs_61 pre_ x_ Hk_ w62 T_61 ac hrd_61 hbs_61 hbr_61 hok_ hJ_ hA hW hB_61 hT_61
       obtain ⟨k, rfl, hk_, rfl⟩ := hJ_
       obtain ⟨y63, h_⟩ : ∃ y_, y_ = x_ := ⟨_, rfl⟩; subst h_; obtain ⟨hy63, hlty63, hsny63⟩ := comes_list hok_ hk_
       replace hA : Fm 82 [] [(0, a.v), (1, Value.bool zero), (2, Value.pointer (some ⟨b1, 0, none⟩)), (4, Value.pointer (some ⟨b3, 0, none⟩)), (5, Value.pointer none), (6, Value.pointer (some ⟨b55, 0, none⟩)), (7, Value.int .i64 1), (8, Value.func (.func 37) #[] lb59), (11, Value.bool zero), (14, Value.tuple #[(⟨0, ⟨0, 0⟩, 0, ⟨0, 0⟩, 0⟩ : Shade).v, Value.int .i64 1]), (15, Value.pointer none), (16, Value.pointer (some ⟨b1, 0, none⟩)), (17, Value.int .u32 a.addr), (18, Value.pointer (some ⟨b1, 1, none⟩)), (19, Value.agg #[Value.int .u64 a.x.wr, Value.int .i64 a.x.ws.f, Value.int .i64 a.x.ws.pc, Value.int .u64 a.x.rd, Value.int .i64 a.x.rs.f, Value.int .i64 a.x.rs.pc, Value.int .i64 a.x.vec]), (20, Value.tuple #[(⟨0, ⟨0, 0⟩, 0, ⟨0, 0⟩, 0⟩ : Shade).v, Value.int .i64 1]), (21, (⟨0, ⟨0, 0⟩, 0, ⟨0, 0⟩, 0⟩ : Shade).v), (22, Value.int .i64 1), (23, Value.pointer none), (24, Value.func (.func 37) #[] lb59), (25, Value.func (.func 37) #[] lb59), (26, Value.bool false), (27, Value.func (.func 37) #[] lb59), (28, Value.int .u32 y63.addr), (29, y63.x.v)] ac := hA.sub ⟨⟨by kernel_rfl, by kernel_rfl⟩, ⟨by kernel_rfl, by kernel_rfl⟩, ⟨by kernel_rfl, by kernel_rfl⟩, ⟨by kernel_rfl, by kernel_rfl⟩, ⟨by kernel_rfl, by kernel_rfl⟩, ⟨by kernel_rfl, by kernel_rfl⟩, ⟨by kernel_rfl, by kernel_rfl⟩, ⟨by kernel_rfl, by kernel_rfl⟩, ⟨by kernel_rfl, by kernel_rfl⟩, ⟨by kernel_rfl, by kernel_rfl⟩, ⟨by kernel_rfl, by kernel_rfl⟩, ⟨by kernel_rfl, by kernel_rfl⟩, ⟨by kernel_rfl, by kernel_rfl⟩, ⟨by kernel_rfl, by kernel_rfl⟩, ⟨by kernel_rfl, by kernel_rfl⟩, ⟨by kernel_rfl, by kernel_rfl⟩, ⟨by kernel_rfl, by kernel_rfl⟩, ⟨by kernel_rfl, by kernel_rfl⟩, ⟨by kernel_rfl, by kernel_rfl⟩, ⟨by kernel_rfl, by kernel_rfl⟩, ⟨by kernel_rfl, by kernel_rfl⟩, ⟨by kernel_rfl, by kernel_rfl⟩, ⟨by kernel_rfl, by kernel_rfl⟩, ⟨by kernel_rfl, by kernel_rfl⟩, ⟨by kernel_rfl, by kernel_rfl⟩, trivial⟩
       simp at hy63
     · skip
       clear hA ac hW; intro D64 xs_ Hk_ w65 ac hS_ hJ_ hA hW
       obtain ⟨k, hpre_, hk_, rfl⟩ := hJ_
       clear hpre_ hS_ hk_
       replace hW : Ws w No [DefR D64, Cel b55 #[Value.int .u64 (⟨0, ⟨0, 0⟩, 0, ⟨0, 0⟩, 0⟩ : Shade).wr, Value.int .i64 (⟨0, ⟨0, 0⟩, 0, ⟨0, 0⟩, 0⟩ : Shade).ws.f, Value.int .i64 (⟨0, ⟨0, 0⟩, 0, ⟨0, 0⟩, 0⟩ : Shade).ws.pc, Value.int .u64 (⟨0, ⟨0, 0⟩, 0, ⟨0, 0⟩, 0⟩ : Shade).rd, Value.int .i64 (⟨0, ⟨0, 0⟩, 0, ⟨0, 0⟩, 0⟩ : Shade).rs.f, Value.int .i64 (⟨0, ⟨0, 0⟩, 0, ⟨0, 0⟩, 0⟩ : Shade).rs.pc, Value.int .i64 (⟨0, ⟨0, 0⟩, 0, ⟨0, 0⟩, 0⟩ : Shade).vec] 31, Cel b3 #[Value.bool false] 4, Cel b1 #[Value.int .u32 a.addr, Value.int .u64 a.x.wr, Value.int .i64 a.x.ws.f, Value.int .i64 a.x.ws.pc, Value.int .u64 a.x.rd, Value.int .i64 a.x.rs.f, Value.int .i64 a.x.rs.pc, Value.int .i64 a.x.vec] 37] [g60] w65 := hW
       refine blkN ?_
       refine thenN ?_
       refine wpIn_seq ?_
       refine wpIn_region_lit ?_
       refine stF hA (by kernel_rfl) (by kernel_rfl) (by kernel_rfl) (by kernel_rfl) (RunsF.of (Runs.call (fun _ => by kernel_rfl) (e_snew w65) ?_))
       rintro _ w66 ⟨n67, n68, rfl, hu_⟩; refine ⟨_, rfl, ?_⟩; replace hW := hW.made hu_; clear hA ac; intro ac hA
       have hq69 : Rel22 0 ([] : List Cell22) ([] : List (Int × Nat × (Nat → Shade))) := Rel22.start
       refine st_rdF (v := Value.pointer (some ⟨n67, 0, none⟩)) hA (by kernel_rfl) (by kernel_rfl) (by kernel_rfl) (by kernel_rfl) hW.cls (Rd.pure fun _ => by kernel_rfl) ?_; clear hA ac; intro ac hA
       refine wpListIn_nil ?_
       refine thenN ?_
       refine wpIn_seq ?_
       refine wpIn_region_lit ?_
       refine st_rdF (v := Value.pointer (some ⟨n67, 0, none⟩)) hA (by kernel_rfl) (by kernel_rfl) (by kernel_rfl) (by kernel_rfl) hW.cls (Rd.pure fun _ => by kernel_rfl) ?_; clear hA ac; intro ac hA
       refine stF hA (by kernel_rfl) (by kernel_rfl) (by kernel_rfl) (by kernel_rfl) (RunsF.of (Runs.call (fun _ => by kernel_rfl) (e_sall n67 n68 ([] : List (Int × Nat × (Nat → Shade))) w66 ((hW).get 0 rfl) ((hW).lt _ (List.mem_of_getElem? (i := 0) rfl)) (by first | assumption | omega | exact ha.1 | (simp; done) | (constructor <;> (simp; done))) (by first | assumption | omega | exact ha.1 | (simp; done) | (constructor <;> (simp; done)))) ?_))
       rintro _ w70 ⟨lb71, g72, rfl, hIg72, hfg72, hfw70⟩; refine ⟨_, rfl, ?_⟩; have hW0 := hW; have hW := hW0.call hfw70; have hW := hW0.addFromAt hW hfg72 in_nil; clear hW0 hA ac; intro ac hA
       refine st_rdF (v := Value.func (.func 37) #[] lb71) hA (by kernel_rfl) (by kernel_rfl) (by kernel_rfl) (by kernel_rfl) hW.cls (Rd.pure fun _ => by kernel_rfl) ?_; clear hA ac; intro ac hA
       refine wpListIn_nil ?_
       refine thenN ?_
       refine wpIn_seq ?_
       refine wpIn_region_lit ?_
       refine st_rdF (v := Value.pointer (some ⟨n67, 0, none⟩)) hA (by kernel_rfl) (by kernel_rfl) (by kernel_rfl) (by kernel_rfl) hW.cls (Rd.pure fun _ => by kernel_rfl) ?_; clear hA ac; intro ac hA
       refine st_rdF (v := Value.pointer (some ⟨b1, 0, none⟩)) hA (by kernel_rfl) (by kernel_rfl) (by kernel_rfl) (by kernel_rfl) hW.cls (Rd.pure fun _ => by kernel_rfl) ?_; clear hA ac; intro ac hA
       refine st_rdF (v := Value.int .u32 a.addr) hA (by kernel_rfl) (by kernel_rfl) (by kernel_rfl) (by kernel_rfl) hW.cls (Rd.load (b := b1) (i := 0) (by kernel_rfl) (fun _ hw => (hw.1).cel 4 rfl) (by kernel_rfl)) ?_; clear hA ac; intro ac hA
       refine st_rdF (v := Value.agg #[Value.int .u64 0, Value.int .i64 0, Value.int .i64 0, Value.int .u64 0, Value.int .i64 0, Value.int .i64 0, Value.int .i64 9]) hA (by kernel_rfl) (by kernel_rfl) (by kernel_rfl) (by kernel_rfl) hW.cls (Rd.pure fun _ => by kernel_rfl) ?_; clear hA ac; intro ac hA
       refine stF hA (by kernel_rfl) (by kernel_rfl) (by kernel_rfl) (by kernel_rfl) (RunsF.of (Runs.call (fun _ => by kernel_rfl) (e_lay n67 n68 ([] : List (Int × Nat × (Nat → Shade))) (a.addr) (⟨0, (⟨0, 0⟩ : Site), 0, (⟨0, 0⟩ : Site), 9⟩ : Shade) w70 ((hW).get 0 rfl) ((hW).lt _ (List.mem_of_getElem? (i := 0) rfl)) (by first | assumption | omega | exact ha.1 | (simp; done) | (constructor <;> (simp; done))) (by first | assumption | omega | exact ha.1 | (simp; done) | (constructor <;> (simp; done)))) ?_))
       rintro _ w73 ⟨u74, u75, u76, rfl, hw73_hE, hw73_hL, hu_⟩; refine ⟨_, rfl, ?_⟩; replace hW := hW.upd (H' := [ShR n67 n68 u74, DefR D64, Cel b55 #[Value.int .u64 (⟨0, ⟨0, 0⟩, 0, ⟨0, 0⟩, 0⟩ : Shade).wr, Value.int .i64 (⟨0, ⟨0, 0⟩, 0, ⟨0, 0⟩, 0⟩ : Shade).ws.f, Value.int .i64 (⟨0, ⟨0, 0⟩, 0, ⟨0, 0⟩, 0⟩ : Shade).ws.pc, Value.int .u64 (⟨0, ⟨0, 0⟩, 0, ⟨0, 0⟩, 0⟩ : Shade).rd, Value.int .i64 (⟨0, ⟨0, 0⟩, 0, ⟨0, 0⟩, 0⟩ : Shade).rs.f, Value.int .i64 (⟨0, ⟨0, 0⟩, 0, ⟨0, 0⟩, 0⟩ : Shade).rs.pc, Value.int .i64 (⟨0, ⟨0, 0⟩, 0, ⟨0, 0⟩, 0⟩ : Shade).vec] 31, Cel b3 #[Value.bool false] 4, Cel b1 #[Value.int .u32 a.addr, Value.int .u64 a.x.wr, Value.int .i64 a.x.ws.f, Value.int .i64 a.x.ws.pc, Value.int .u64 a.x.rd, Value.int .i64 a.x.rs.f, Value.int .i64 a.x.rs.pc, Value.int .i64 a.x.vec] 37]) 0 rfl hu_ rfl; clear hA ac; intro ac hA
       refine wpListIn_nil ?_
       refine thenN ?_
       refine wpIn_seq ?_
       refine wpIn_seq ?_
       refine wpIn_region_lit ?_
       refine st_rdF (v := Value.func (.func 37) #[] lb71) hA (by kernel_rfl) (by kernel_rfl) (by kernel_rfl) (by kernel_rfl) hW.cls (Rd.pure fun _ => by kernel_rfl) ?_; clear hA ac; intro ac hA
       refine st_rdF (v := Value.bool false) hA (by kernel_rfl) (by kernel_rfl) (by kernel_rfl) (by kernel_rfl) hW.cls (Rd.pure fun _ => by kernel_rfl) ?_; clear hA ac; intro ac hA
       refine wpListIn_nil ?_
       refine thenN ?_
       refine wpIn_cond_false (hA.eval (by kernel_rfl)) ?_
       refine wpIn_skip ?_
       refine thenN ?_
       refine wpIn_seq ?_
       refine wpIn_seq ?_
       refine wpIn_region_lit ?_
       refine st_rdF (v := Value.func (.func 37) #[] lb71) hA (by kernel_rfl) (by kernel_rfl) (by kernel_rfl) (by kernel_rfl) hW.cls (Rd.pure fun _ => by kernel_rfl) ?_; clear hA ac; intro ac hA
       refine wpListIn_nil ?_
       refine thenN ?_
       refine wpIn_block ?_
       refine wp_range (encs := (fun x_ : Cell22 => #[Value.int .u32 x_.addr, x_.x.v])) (Sx := (fun l_ : List Cell22 => ∃ ks : List Int, ks.Perm (keys (vals ([] : List (Int × Nat × (Nat → Shade))))) ∧ (ks.Pairwise fun x y => x ≤ y) ∧ l_ = gathOf pAll (vals ([] : List (Int × Nat × (Nat → Shade)))) ks)) hA (by kernel_rfl) (by kernel_rfl) (enters_of Try.func37 (by kernel_rfl) rfl) (by kernel_rfl) (fun _ => rfl) hIg72 (List.forall_mem_singleton.2 (List.mem_of_getElem? (i := 0) rfl)) (fun pre_ H_ => True ∧ H_ = [ShR n67 n68 u74]) (fun _ _ _ => False) (H := [ShR n67 n68 u74]) (K := [DefR D64, Cel b55 #[Value.int .u64 (⟨0, ⟨0, 0⟩, 0, ⟨0, 0⟩, 0⟩ : Shade).wr, Value.int .i64 (⟨0, ⟨0, 0⟩, 0, ⟨0, 0⟩, 0⟩ : Shade).ws.f, Value.int .i64 (⟨0, ⟨0, 0⟩, 0, ⟨0, 0⟩, 0⟩ : Shade).ws.pc, Value.int .u64 (⟨0, ⟨0, 0⟩, 0, ⟨0, 0⟩, 0⟩ : Shade).rd, Value.int .i64 (⟨0, ⟨0, 0⟩, 0, ⟨0, 0⟩, 0⟩ : Shade).rs.f, Value.int .i64 (⟨0, ⟨0, 0⟩, 0, ⟨0, 0⟩, 0⟩ : Shade).rs.pc, Value.int .i64 (⟨0, ⟨0, 0⟩, 0, ⟨0, 0⟩, 0⟩ : Shade).vec] 31, Cel b3 #[Value.bool false] 4, Cel b1 #[Value.int .u32 a.addr, Value.int .u64 a.x.wr, Value.int .i64 a.x.ws.f, Value.int .i64 a.x.ws.pc, Value.int .u64 a.x.rd, Value.int .i64 a.x.rs.f, Value.int .i64 a.x.rs.pc, Value.int .i64 a.x.vec] 37]) (hW.pick [0, 1, 2, 3, 4] (by decide) rfl) ⟨trivial, rfl⟩ ?_ ?_ ?_
       · skip
         clear hA ac hW; intro l_77 rd_77 bs_77 pre_ x_ Hk_ w78 T_77 ac hrd_77 hbs_77 hbr_77 hok_ hJ_ hA hW hB_77 hT_77
         obtain ⟨_, rfl⟩ := hJ_
         obtain ⟨y79, h_⟩ : ∃ y_, y_ = x_ := ⟨_, rfl⟩; subst h_
         replace hA : Fm 82 [] [(0, a.v), (1, Value.bool zero), (2, Value.pointer (some ⟨b1, 0, none⟩)), (4, Value.pointer (some ⟨b3, 0, none⟩)), (5, Value.pointer none), (6, Value.pointer (some ⟨b55, 0, none⟩)), (7, Value.int .i64 1), (8, Value.func (.func 37) #[] lb59), (9, Value.pointer (some ⟨n67, 0, none⟩)), (10, Value.func (.func 37) #[] lb71), (11, Value.bool zero), (14, Value.tuple #[(⟨0, ⟨0, 0⟩, 0, ⟨0, 0⟩, 0⟩ : Shade).v, Value.int .i64 1]), (15, Value.pointer none), (16, Value.pointer (some ⟨b1, 0, none⟩)), (17, Value.int .u32 a.addr), (18, Value.pointer (some ⟨b1, 1, none⟩)), (19, Value.agg #[Value.int .u64 a.x.wr, Value.int .i64 a.x.ws.f, Value.int .i64 a.x.ws.pc, Value.int .u64 a.x.rd, Value.int .i64 a.x.rs.f, Value.int .i64 a.x.rs.pc, Value.int .i64 a.x.vec]), (20, Value.tuple #[(⟨0, ⟨0, 0⟩, 0, ⟨0, 0⟩, 0⟩ : Shade).v, Value.int .i64 1]), (21, (⟨0, ⟨0, 0⟩, 0, ⟨0, 0⟩, 0⟩ : Shade).v), (22, Value.int .i64 1), (23, Value.pointer none), (24, Value.func (.func 37) #[] lb59), (25, Value.func (.func 37) #[] lb59), (26, Value.bool false), (27, Value.func (.func 37) #[] lb59), (30, Value.pointer (some ⟨n67, 0, none⟩)), (31, Value.pointer (some ⟨n67, 0, none⟩)), (32, Value.func (.func 37) #[] lb71), (33, Value.pointer (some ⟨n67, 0, none⟩)), (34, Value.pointer (some ⟨b1, 0, none⟩)), (35, Value.int .u32 a.addr), (36, Value.agg #[Value.int .u64 0, Value.int .i64 0, Value.int .i64 0, Value.int .u64 0, Value.int .i64 0, Value.int .i64 0, Value.int .i64 9]), (37, Value.tuple #[u75.v, Value.int .i64 u76]), (38, Value.func (.func 37) #[] lb71), (39, Value.bool false), (40, Value.func (.func 37) #[] lb71), (41, Value.int .u32 y79.addr), (42, y79.x.v)] ac := hA.sub ⟨⟨by kernel_rfl, by kernel_rfl⟩, ⟨by kernel_rfl, by kernel_rfl⟩, ⟨by kernel_rfl, by kernel_rfl⟩, ⟨by kernel_rfl, by kernel_rfl⟩, ⟨by kernel_rfl, by kernel_rfl⟩, ⟨by kernel_rfl, by kernel_rfl⟩, ⟨by kernel_rfl, by kernel_rfl⟩, ⟨by kernel_rfl, by kernel_rfl⟩, ⟨by kernel_rfl, by kernel_rfl⟩, ⟨by kernel_rfl, by kernel_rfl⟩, ⟨by kernel_rfl, by kernel_rfl⟩, ⟨by kernel_rfl, by kernel_rfl⟩, ⟨by kernel_rfl, by kernel_rfl⟩, ⟨by kernel_rfl, by kernel_rfl⟩, ⟨by kernel_rfl, by kernel_rfl⟩, ⟨by kernel_rfl, by kernel_rfl⟩, ⟨by kernel_rfl, by kernel_rfl⟩, ⟨by kernel_rfl, by kernel_rfl⟩, ⟨by kernel_rfl, by kernel_rfl⟩, ⟨by kernel_rfl, by kernel_rfl⟩, ⟨by kernel_rfl, by kernel_rfl⟩, ⟨by kernel_rfl, by kernel_rfl⟩, ⟨by kernel_rfl, by kernel_rfl⟩, ⟨by kernel_rfl, by kernel_rfl⟩, ⟨by kernel_rfl, by kernel_rfl⟩, ⟨by kernel_rfl, by kernel_rfl⟩, ⟨by kernel_rfl, by kernel_rfl⟩, ⟨by kernel_rfl, by kernel_rfl⟩, ⟨by kernel_rfl, by kernel_rfl⟩, ⟨by kernel_rfl, by kernel_rfl⟩, ⟨by kernel_rfl, by kernel_rfl⟩, ⟨by kernel_rfl, by kernel_rfl⟩, ⟨by kernel_rfl, by kernel_rfl⟩, ⟨by kernel_rfl, by kernel_rfl⟩, ⟨by kernel_rfl, by kernel_rfl⟩, ⟨by kernel_rfl, by kernel_rfl⟩, ⟨by kernel_rfl, by kernel_rfl⟩, ⟨by kernel_rfl, by kernel_rfl⟩, trivial⟩
         obtain ⟨xs_, ⟨ks_, h1_, h2_, h3_⟩, t_, ht_⟩ := hok_; have h4_ : ks_ = [] := (by simpa [keys, vals] using h1_); subst h4_; rw [h3_] at ht_; simp [gathOf] at ht_
       · skip
         clear hA ac hW; intro D80 xs_ Hk_ w81 ac hS_ hJ_ hA hW
         obtain ⟨_, rfl⟩ := hJ_
         replace hW : Ws w No [ShR n67 n68 u74, DefR D80, DefR D64, Cel b55 #[Value.int .u64 (⟨0, ⟨0, 0⟩, 0, ⟨0, 0⟩, 0⟩ : Shade).wr, Value.int .i64 (⟨0, ⟨0, 0⟩, 0, ⟨0, 0⟩, 0⟩ : Shade).ws.f, Value.int .i64 (⟨0, ⟨0, 0⟩, 0, ⟨0, 0⟩, 0⟩ : Shade).ws.pc, Value.int .u64 (⟨0, ⟨0, 0⟩, 0, ⟨0, 0⟩, 0⟩ : Shade).rd, Value.int .i64 (⟨0, ⟨0, 0⟩, 0, ⟨0, 0⟩, 0⟩ : Shade).rs.f, Value.int .i64 (⟨0, ⟨0, 0⟩, 0, ⟨0, 0⟩, 0⟩ : Shade).rs.pc, Value.int .i64 (⟨0, ⟨0, 0⟩, 0, ⟨0, 0⟩, 0⟩ : Shade).vec] 31, Cel b3 #[Value.bool false] 4, Cel b1 #[Value.int .u32 a.addr, Value.int .u64 a.x.wr, Value.int .i64 a.x.ws.f, Value.int .i64 a.x.ws.pc, Value.int .u64 a.x.rd, Value.int .i64 a.x.rs.f, Value.int .i64 a.x.rs.pc, Value.int .i64 a.x.vec] 37] [g72, g60] w81 := hW
         refine blkN ?_
         refine thenN ?_
         refine wpIn_seq ?_
         refine wpIn_region_lit ?_
         refine st_rdF (v := Value.int .i64 1) hA (by kernel_rfl) (by kernel_rfl) (by kernel_rfl) (by kernel_rfl) hW.cls (Rd.pure fun _ => by kernel_rfl) ?_; clear hA ac; intro ac hA
         refine stF hA (by kernel_rfl) (by kernel_rfl) (by kernel_rfl) (by kernel_rfl) (RunsF.of (Runs.callS (v := Value.int .i64 1) (fun _ => by kernel_rfl) (e_num22 (1) w81) ?_)); clear hA ac; intro  ac hA
         refine st_rdF (v := Value.bool true) hA (by kernel_rfl) (by kernel_rfl) (by kernel_rfl) (by kernel_rfl) hW.cls (Rd.pure fun _ => by kernel_rfl) ?_; clear hA ac; intro ac hA
         refine st_rdF (v := Value.bool true) hA (by kernel_rfl) (by kernel_rfl) (by kernel_rfl) (by kernel_rfl) hW.cls (Rd.pure fun _ => by kernel_rfl) ?_; clear hA ac; intro ac hA
         refine st_rdF (v := Value.pointer none) hA (by kernel_rfl) (by kernel_rfl) (by kernel_rfl) (by kernel_rfl) hW.cls (Rd.pure fun _ => by kernel_rfl) ?_; clear hA ac; intro ac hA
         refine st_rdF (v := Value.pointer (some ⟨b1, 0, none⟩)) hA (by kernel_rfl) (by kernel_rfl) (by kernel_rfl) (by kernel_rfl) hW.cls (Rd.pure fun _ => by kernel_rfl) ?_; clear hA ac; intro ac hA
         refine st_rdF (v := Value.int .u32 a.addr) hA (by kernel_rfl) (by kernel_rfl) (by kernel_rfl) (by kernel_rfl) hW.cls (Rd.load (b := b1) (i := 0) (by kernel_rfl) (fun _ hw => (hw.1).cel 5 rfl) (by kernel_rfl)) ?_; clear hA ac; intro ac hA
         refine stF hA (by kernel_rfl) (by kernel_rfl) (by kernel_rfl) (by kernel_rfl) (RunsF.of (Runs.callN (v := (⟨0, ⟨0, 0⟩, 0, ⟨0, 0⟩, 0⟩ : Shade).v) (fun _ => by kernel_rfl) hW (e_sat_nil (a.addr) w81) ?_)); clear hA ac hW; intro w82 hW hfw82 ac hA
         refine st_rdF (v := Value.agg #[Value.int .u64 0, Value.int .i64 0, Value.int .i64 0, Value.int .u64 0, Value.int .i64 0, Value.int .i64 0, Value.int .i64 0]) hA (by kernel_rfl) (by kernel_rfl) (by kernel_rfl) (by kernel_rfl) hW.cls (Rd.pure fun _ => by kernel_rfl) ?_; clear hA ac; intro ac hA
         refine st_rdF (v := Value.bool (decide ((⟨0, ⟨0, 0⟩, 0, ⟨0, 0⟩, 0⟩ : Shade) = (⟨0, (⟨0, 0⟩ : Site), 0, (⟨0, 0⟩ : Site), 0⟩ : Shade)))) hA (by kernel_rfl) (by kernel_rfl) (by kernel_rfl) (by kernel_rfl) hW.cls (Rd.eqS (u := (⟨0, ⟨0, 0⟩, 0, ⟨0, 0⟩, 0⟩ : Shade).v) (v := (⟨0, (⟨0, 0⟩ : Site), 0, (⟨0, 0⟩ : Site), 0⟩ : Shade).v) (by kernel_rfl) (by kernel_rfl) rfl rfl (by kernel_rfl) (fun w => eq_Shade w (⟨0, ⟨0, 0⟩, 0, ⟨0, 0⟩, 0⟩ : Shade) (⟨0, (⟨0, 0⟩ : Site), 0, (⟨0, 0⟩ : Site), 0⟩ : Shade))) ?_; clear hA ac; intro ac hA
         refine st_rdF (v := Value.bool (decide ((⟨0, ⟨0, 0⟩, 0, ⟨0, 0⟩, 0⟩ : Shade) = (⟨0, (⟨0, 0⟩ : Site), 0, (⟨0, 0⟩ : Site), 0⟩ : Shade)))) hA (by kernel_rfl) (by kernel_rfl) (by kernel_rfl) (by kernel_rfl) hW.cls (Rd.pure fun _ => by kernel_rfl) ?_; clear hA ac; intro ac hA
         refine st_rdF (v := Value.bool (decide ((⟨0, ⟨0, 0⟩, 0, ⟨0, 0⟩, 0⟩ : Shade) = (⟨0, (⟨0, 0⟩ : Site), 0, (⟨0, 0⟩ : Site), 0⟩ : Shade)))) hA (by kernel_rfl) (by kernel_rfl) (by kernel_rfl) (by kernel_rfl) hW.cls (Rd.pure fun _ => by kernel_rfl) ?_; clear hA ac; intro ac hA
         rcases Bool.eq_false_or_eq_true (decide ((⟨0, ⟨0, 0⟩, 0, ⟨0, 0⟩, 0⟩ : Shade) = (⟨0, (⟨0, 0⟩ : Site), 0, (⟨0, 0⟩ : Site), 0⟩ : Shade))) with h83 | h83
         · skip
           rw [h83] at hA
           have h83 := of_decide_eq_true h83
           have h83e := (Shade.eqi _ _).1 h83
           first
           | (exfalso; clear hA hW; omega)
           | (exfalso; clear hA hW; exact h83 rfl; done)
           | (
             refine st_rdF (v := Value.pointer none) hA (by kernel_rfl) (by kernel_rfl) (by kernel_rfl) (by kernel_rfl) hW.cls (Rd.pure fun _ => by kernel_rfl) ?_; clear hA ac; intro ac hA
             refine stF hA (by kernel_rfl) (by kernel_rfl) (by kernel_rfl) (by kernel_rfl) (RunsF.of (Runs.callN (v := Value.slice none 0 0) (fun _ => by kernel_rfl) hW (e_spages_nil w82) ?_)); clear hA ac hW; intro w84 hW hfw84 ac hA
             refine st_rdF (v := Value.int .i64 0) hA (by kernel_rfl) (by kernel_rfl) (by kernel_rfl) (by kernel_rfl) hW.cls (Rd.pure fun _ => by kernel_rfl) ?_; clear hA ac; intro ac hA
             refine st_rdF (v := Value.pointer none) hA (by kernel_rfl) (by kernel_rfl) (by kernel_rfl) (by kernel_rfl) hW.cls (Rd.pure fun _ => by kernel_rfl) ?_; clear hA ac; intro ac hA
             refine stF hA (by kernel_rfl) (by kernel_rfl) (by kernel_rfl) (by kernel_rfl) (RunsF.of (Runs.callN (v := Value.slice none 0 0) (fun _ => by kernel_rfl) hW (e_svec_nil w84) ?_)); clear hA ac hW; intro w85 hW hfw85 ac hA
             refine st_rdF (v := Value.int .i64 0) hA (by kernel_rfl) (by kernel_rfl) (by kernel_rfl) (by kernel_rfl) hW.cls (Rd.pure fun _ => by kernel_rfl) ?_; clear hA ac; intro ac hA
             refine st_rdF (v := Value.int .i64 0) hA (by kernel_rfl) (by kernel_rfl) (by kernel_rfl) (by kernel_rfl) hW.cls (Rd.pureE (v0 := Value.int .i64 (IntKind.i64.wrap ((0 : Int) + 0))) (fun _ => by kernel_rfl) (congrArg (Value.int .i64) ((w_i64 (x := (0 : Int) + 0) (by omega) (by omega)).trans (by omega)))) ?_; clear hA ac; intro ac hA
             refine st_rdF (v := Value.bool true) hA (by kernel_rfl) (by kernel_rfl) (by kernel_rfl) (by kernel_rfl) hW.cls (Rd.pure fun _ => by kernel_rfl) ?_; clear hA ac; intro ac hA
             refine st_rdF (v := Value.bool true) hA (by kernel_rfl) (by kernel_rfl) (by kernel_rfl) (by kernel_rfl) hW.cls (Rd.pure fun _ => by kernel_rfl) ?_; clear hA ac; intro ac hA
             refine st_rdF (v := Value.bool true) hA (by kernel_rfl) (by kernel_rfl) (by kernel_rfl) (by kernel_rfl) hW.cls (Rd.pure fun _ => by kernel_rfl) ?_; clear hA ac; intro ac hA
             refine st_rdF (v := Value.pointer none) hA (by kernel_rfl) (by kernel_rfl) (by kernel_rfl) (by kernel_rfl) hW.cls (Rd.pure fun _ => by kernel_rfl) ?_; clear hA ac; intro ac hA
             refine stF hA (by kernel_rfl) (by kernel_rfl) (by kernel_rfl) (by kernel_rfl) (RunsF.of (Runs.callN (v := Value.pointer none) (fun _ => by kernel_rfl) hW (e_scopy_nil w85) ?_)); clear hA ac hW; intro w86 hW hfw86 ac hA
             refine st_rdF (v := Value.bool true) hA (by kernel_rfl) (by kernel_rfl) (by kernel_rfl) (by kernel_rfl) hW.cls (Rd.pure fun _ => by kernel_rfl) ?_; clear hA ac; intro ac hA
             refine st_rdF (v := Value.bool true) hA (by kernel_rfl) (by kernel_rfl) (by kernel_rfl) (by kernel_rfl) hW.cls (Rd.pure fun _ => by kernel_rfl) ?_; clear hA ac; intro ac hA
             refine st_rdF (v := Value.bool true) hA (by kernel_rfl) (by kernel_rfl) (by kernel_rfl) (by kernel_rfl) hW.cls (Rd.pure fun _ => by kernel_rfl) ?_; clear hA ac; intro ac hA
             refine st_rdF (v := Value.pointer none) hA (by kernel_rfl) (by kernel_rfl) (by kernel_rfl) (by kernel_rfl) hW.cls (Rd.pure fun _ => by kernel_rfl) ?_; clear hA ac; intro ac hA
             refine stF hA (by kernel_rfl) (by kernel_rfl) (by kernel_rfl) (by kernel_rfl) (RunsF.of (Runs.callN (v := Value.bool true) (fun _ => by kernel_rfl) hW (e_ssame_nil w86) ?_)); clear hA ac hW; intro w87 hW hfw87 ac hA
             refine st_rdF (v := Value.bool true) hA (by kernel_rfl) (by kernel_rfl) (by kernel_rfl) (by kernel_rfl) hW.cls (Rd.pure fun _ => by kernel_rfl) ?_; clear hA ac; intro ac hA
             refine st_rdF (v := Value.bool true) hA (by kernel_rfl) (by kernel_rfl) (by kernel_rfl) (by kernel_rfl) hW.cls (Rd.pure fun _ => by kernel_rfl) ?_; clear hA ac; intro ac hA
             refine st_rdF (v := Value.pointer (some ⟨n67, 0, none⟩)) hA (by kernel_rfl) (by kernel_rfl) (by kernel_rfl) (by kernel_rfl) hW.cls (Rd.pure fun _ => by kernel_rfl) ?_; clear hA ac; intro ac hA
             refine st_rdF (v := Value.pointer none) hA (by kernel_rfl) (by kernel_rfl) (by kernel_rfl) (by kernel_rfl) hW.cls (Rd.pure fun _ => by kernel_rfl) ?_; clear hA ac; intro ac hA
             refine stF hA (by kernel_rfl) (by kernel_rfl) (by kernel_rfl) (by kernel_rfl) (RunsF.of (Runs.callN (v := Value.bool false) (fun _ => by kernel_rfl) hW (e_ssame_onil n67 n68 u74 w87 ((hW).get 0 rfl) ((hW).lt _ (List.mem_of_getElem? (i := 0) rfl))) ?_)); clear hA ac hW; intro w88 hW hfw88 ac hA
             refine st_rdF (v := Value.bool true) hA (by kernel_rfl) (by kernel_rfl) (by kernel_rfl) (by kernel_rfl) hW.cls (Rd.pure fun _ => by kernel_rfl) ?_; clear hA ac; intro ac hA
             refine st_rdF (v := Value.bool true) hA (by kernel_rfl) (by kernel_rfl) (by kernel_rfl) (by kernel_rfl) hW.cls (Rd.pure fun _ => by kernel_rfl) ?_; clear hA ac; intro ac hA
             refine st_rdF (v := Value.bool true) hA (by kernel_rfl) (by kernel_rfl) (by kernel_rfl) (by kernel_rfl) hW.cls (Rd.pure fun _ => by kernel_rfl) ?_; clear hA ac; intro ac hA
             refine stF hA (by kernel_rfl) (by kernel_rfl) (by kernel_rfl) (by kernel_rfl) (RunsF.of (Runs.callN (v := Value.bool true) (fun _ => by kernel_rfl) hW (e_works22 w88) ?_)); clear hA ac hW; intro w89 hW hfw89 ac hA
             refine st_rdF (v := Value.bool true) hA (by kernel_rfl) (by kernel_rfl) (by kernel_rfl) (by kernel_rfl) hW.cls (Rd.pure fun _ => by kernel_rfl) ?_; clear hA ac; intro ac hA
             refine stF hA (by kernel_rfl) (by kernel_rfl) (by kernel_rfl) (by kernel_rfl) (RunsF.of (Runs.store (v := Value.bool true) (b := b3) (j := 0) (n := 1) (cs' := #[Value.bool true]) (H' := [ShR n67 n68 u74, DefR D80, DefR D64, Cel b55 #[Value.int .u64 (⟨0, ⟨0, 0⟩, 0, ⟨0, 0⟩, 0⟩ : Shade).wr, Value.int .i64 (⟨0, ⟨0, 0⟩, 0, ⟨0, 0⟩, 0⟩ : Shade).ws.f, Value.int .i64 (⟨0, ⟨0, 0⟩, 0, ⟨0, 0⟩, 0⟩ : Shade).ws.pc, Value.int .u64 (⟨0, ⟨0, 0⟩, 0, ⟨0, 0⟩, 0⟩ : Shade).rd, Value.int .i64 (⟨0, ⟨0, 0⟩, 0, ⟨0, 0⟩, 0⟩ : Shade).rs.f, Value.int .i64 (⟨0, ⟨0, 0⟩, 0, ⟨0, 0⟩, 0⟩ : Shade).rs.pc, Value.int .i64 (⟨0, ⟨0, 0⟩, 0, ⟨0, 0⟩, 0⟩ : Shade).vec] 31, Cel b3 #[Value.bool true] 4, Cel b1 #[Value.int .u32 a.addr, Value.int .u64 a.x.wr, Value.int .i64 a.x.ws.f, Value.int .i64 a.x.ws.pc, Value.int .u64 a.x.rd, Value.int .i64 a.x.rs.f, Value.int .i64 a.x.rs.pc, Value.int .i64 a.x.vec] 37]) (by kernel_rfl) (by kernel_rfl) (by kernel_rfl) (by kernel_rfl) (by kernel_rfl) hW 4 (by rfl) (Nat.le_of_ble_eq_true (by kernel_rfl)) (by kernel_rfl) (by rfl) ?_)); clear hA ac hW; intro w90 hW ac hA
             refine wpListIn_nil ?_
             refine thenN ?_
             refine wpIn_ret ?_
             refine retF (.inl rfl) hA ?_
             refine leaveD (H' := [ShR n67 n68 u74, DefR D64, Cel b55 #[Value.int .u64 (⟨0, ⟨0, 0⟩, 0, ⟨0, 0⟩, 0⟩ : Shade).wr, Value.int .i64 (⟨0, ⟨0, 0⟩, 0, ⟨0, 0⟩, 0⟩ : Shade).ws.f, Value.int .i64 (⟨0, ⟨0, 0⟩, 0, ⟨0, 0⟩, 0⟩ : Shade).ws.pc, Value.int .u64 (⟨0, ⟨0, 0⟩, 0, ⟨0, 0⟩, 0⟩ : Shade).rd, Value.int .i64 (⟨0, ⟨0, 0⟩, 0, ⟨0, 0⟩, 0⟩ : Shade).rs.f, Value.int .i64 (⟨0, ⟨0, 0⟩, 0, ⟨0, 0⟩, 0⟩ : Shade).rs.pc, Value.int .i64 (⟨0, ⟨0, 0⟩, 0, ⟨0, 0⟩, 0⟩ : Shade).vec] 31, Cel b3 #[Value.bool true] 4, Cel b1 #[Value.int .u32 a.addr, Value.int .u64 a.x.wr, Value.int .i64 a.x.ws.f, Value.int .i64 a.x.ws.pc, Value.int .u64 a.x.rd, Value.int .i64 a.x.rs.f, Value.int .i64 a.x.rs.pc, Value.int .i64 a.x.vec] 37]) hW 1 rfl rfl ?_; clear hW; intro w91 hW
             refine leaveD (H' := [ShR n67 n68 u74, Cel b55 #[Value.int .u64 (⟨0, ⟨0, 0⟩, 0, ⟨0, 0⟩, 0⟩ : Shade).wr, Value.int .i64 (⟨0, ⟨0, 0⟩, 0, ⟨0, 0⟩, 0⟩ : Shade).ws.f, Value.int .i64 (⟨0, ⟨0, 0⟩, 0, ⟨0, 0⟩, 0⟩ : Shade).ws.pc, Value.int .u64 (⟨0, ⟨0, 0⟩, 0, ⟨0, 0⟩, 0⟩ : Shade).rd, Value.int .i64 (⟨0, ⟨0, 0⟩, 0, ⟨0, 0⟩, 0⟩ : Shade).rs.f, Value.int .i64 (⟨0, ⟨0, 0⟩, 0, ⟨0, 0⟩, 0⟩ : Shade).rs.pc, Value.int .i64 (⟨0, ⟨0, 0⟩, 0, ⟨0, 0⟩, 0⟩ : Shade).vec] 31, Cel b3 #[Value.bool true] 4, Cel b1 #[Value.int .u32 a.addr, Value.int .u64 a.x.wr, Value.int .i64 a.x.ws.f, Value.int .i64 a.x.ws.pc, Value.int .u64 a.x.rd, Value.int .i64 a.x.rs.f, Value.int .i64 a.x.rs.pc, Value.int .i64 a.x.vec] 37]) hW 1 rfl rfl ?_; clear hW; intro w92 hW
             refine leave1 (v := Value.bool true) (by rfl) (GotF.cell (b := b3) (i := 0) hA (by kernel_rfl) (by kernel_rfl) (hW.cel 2 rfl) (by kernel_rfl)) ?_
             clear hA
             exact ⟨retv (by rfl), hW.fr⟩)
         · skip
           rw [h83] at hA
           have h83 := of_decide_eq_false h83
           have h83e := fun e => h83 ((Shade.eqi _ _).2 e)
           first
           | (exfalso; clear hA hW; omega)
           | (exfalso; clear hA hW; exact h83 rfl; done)
           | (
             refine st_skipF hA (by kernel_rfl) (by kernel_rfl) ?_; clear hA ac; intro ac hA
             refine st_skipF hA (by kernel_rfl) (by kernel_rfl) ?_; clear hA ac; intro ac hA
             refine st_skipF hA (by kernel_rfl) (by kernel_rfl) ?_; clear hA ac; intro ac hA
             refine st_skipF hA (by kernel_rfl) (by kernel_rfl) ?_; clear hA ac; intro ac hA
             refine st_skipF hA (by kernel_rfl) (by kernel_rfl) ?_; clear hA ac; intro ac hA
             refine st_skipF hA (by kernel_rfl) (by kernel_rfl) ?_; clear hA ac; intro ac hA
             refine st_skipF hA (by kernel_rfl) (by kernel_rfl) ?_; clear hA ac; intro ac hA
             refine st_skipF hA (by kernel_rfl) (by kernel_rfl) ?_; clear hA ac; intro ac hA
             refine st_rdF (v := Value.bool false) hA (by kernel_rfl) (by kernel_rfl) (by kernel_rfl) (by kernel_rfl) hW.cls (Rd.pure fun _ => by kernel_rfl) ?_; clear hA ac; intro ac hA
             refine st_rdF (v := Value.bool false) hA (by kernel_rfl) (by kernel_rfl) (by kernel_rfl) (by kernel_rfl) hW.cls (Rd.pure fun _ => by kernel_rfl) ?_; clear hA ac; intro ac hA
             refine st_skipF hA (by kernel_rfl) (by kernel_rfl) ?_; clear hA ac; intro ac hA
             refine st_skipF hA (by kernel_rfl) (by kernel_rfl) ?_; clear hA ac; intro ac hA
             refine st_skipF hA (by kernel_rfl) (by kernel_rfl) ?_; clear hA ac; intro ac hA
             refine st_rdF (v := Value.bool false) hA (by kernel_rfl) (by kernel_rfl) (by kernel_rfl) (by kernel_rfl) hW.cls (Rd.pure fun _ => by kernel_rfl) ?_; clear hA ac; intro ac hA
             refine st_rdF (v := Value.bool false) hA (by kernel_rfl) (by kernel_rfl) (by kernel_rfl) (by kernel_rfl) hW.cls (Rd.pure fun _ => by kernel_rfl) ?_; clear hA ac; intro ac hA
             refine st_skipF hA (by kernel_rfl) (by kernel_rfl) ?_; clear hA ac; intro ac hA
             refine st_skipF hA (by kernel_rfl) (by kernel_rfl) ?_; clear hA ac; intro ac hA
             refine st_rdF (v := Value.bool false) hA (by kernel_rfl) (by kernel_rfl) (by kernel_rfl) (by kernel_rfl) hW.cls (Rd.pure fun _ => by kernel_rfl) ?_; clear hA ac; intro ac hA
             refine st_rdF (v := Value.bool false) hA (by kernel_rfl) (by kernel_rfl) (by kernel_rfl) (by kernel_rfl) hW.cls (Rd.pure fun _ => by kernel_rfl) ?_; clear hA ac; intro ac hA
             refine st_skipF hA (by kernel_rfl) (by kernel_rfl) ?_; clear hA ac; intro ac hA
             refine st_skipF hA (by kernel_rfl) (by kernel_rfl) ?_; clear hA ac; intro ac hA
             refine st_skipF hA (by kernel_rfl) (by kernel_rfl) ?_; clear hA ac; intro ac hA
             refine st_skipF hA (by kernel_rfl) (by kernel_rfl) ?_; clear hA ac; intro ac hA
             refine st_rdF (v := Value.bool false) hA (by kernel_rfl) (by kernel_rfl) (by kernel_rfl) (by kernel_rfl) hW.cls (Rd.pure fun _ => by kernel_rfl) ?_; clear hA ac; intro ac hA
             refine st_rdF (v := Value.bool false) hA (by kernel_rfl) (by kernel_rfl) (by kernel_rfl) (by kernel_rfl) hW.cls (Rd.pure fun _ => by kernel_rfl) ?_; clear hA ac; intro ac hA
             refine st_skipF hA (by kernel_rfl) (by kernel_rfl) ?_; clear hA ac; intro ac hA
             refine st_rdF (v := Value.bool false) hA (by kernel_rfl) (by kernel_rfl) (by kernel_rfl) (by kernel_rfl) hW.cls (Rd.pure fun _ => by kernel_rfl) ?_; clear hA ac; intro ac hA
             refine stF hA (by kernel_rfl) (by kernel_rfl) (by kernel_rfl) (by kernel_rfl) (RunsF.of (Runs.store (v := Value.bool false) (b := b3) (j := 0) (n := 1) (cs' := #[Value.bool false]) (H' := [ShR n67 n68 u74, DefR D80, DefR D64, Cel b55 #[Value.int .u64 (⟨0, ⟨0, 0⟩, 0, ⟨0, 0⟩, 0⟩ : Shade).wr, Value.int .i64 (⟨0, ⟨0, 0⟩, 0, ⟨0, 0⟩, 0⟩ : Shade).ws.f, Value.int .i64 (⟨0, ⟨0, 0⟩, 0, ⟨0, 0⟩, 0⟩ : Shade).ws.pc, Value.int .u64 (⟨0, ⟨0, 0⟩, 0, ⟨0, 0⟩, 0⟩ : Shade).rd, Value.int .i64 (⟨0, ⟨0, 0⟩, 0, ⟨0, 0⟩, 0⟩ : Shade).rs.f, Value.int .i64 (⟨0, ⟨0, 0⟩, 0, ⟨0, 0⟩, 0⟩ : Shade).rs.pc, Value.int .i64 (⟨0, ⟨0, 0⟩, 0, ⟨0, 0⟩, 0⟩ : Shade).vec] 31, Cel b3 #[Value.bool false] 4, Cel b1 #[Value.int .u32 a.addr, Value.int .u64 a.x.wr, Value.int .i64 a.x.ws.f, Value.int .i64 a.x.ws.pc, Value.int .u64 a.x.rd, Value.int .i64 a.x.rs.f, Value.int .i64 a.x.rs.pc, Value.int .i64 a.x.vec] 37]) (by kernel_rfl) (by kernel_rfl) (by kernel_rfl) (by kernel_rfl) (by kernel_rfl) hW 4 (by rfl) (Nat.le_of_ble_eq_true (by kernel_rfl)) (by kernel_rfl) (by rfl) ?_)); clear hA ac hW; intro w93 hW ac hA
             refine wpListIn_nil ?_
             refine thenN ?_
             refine wpIn_ret ?_
             refine retF (.inl rfl) hA ?_
             refine leaveD (H' := [ShR n67 n68 u74, DefR D64, Cel b55 #[Value.int .u64 (⟨0, ⟨0, 0⟩, 0, ⟨0, 0⟩, 0⟩ : Shade).wr, Value.int .i64 (⟨0, ⟨0, 0⟩, 0, ⟨0, 0⟩, 0⟩ : Shade).ws.f, Value.int .i64 (⟨0, ⟨0, 0⟩, 0, ⟨0, 0⟩, 0⟩ : Shade).ws.pc, Value.int .u64 (⟨0, ⟨0, 0⟩, 0, ⟨0, 0⟩, 0⟩ : Shade).rd, Value.int .i64 (⟨0, ⟨0, 0⟩, 0, ⟨0, 0⟩, 0⟩ : Shade).rs.f, Value.int .i64 (⟨0, ⟨0, 0⟩, 0, ⟨0, 0⟩, 0⟩ : Shade).rs.pc, Value.int .i64 (⟨0, ⟨0, 0⟩, 0, ⟨0, 0⟩, 0⟩ : Shade).vec] 31, Cel b3 #[Value.bool false] 4, Cel b1 #[Value.int .u32 a.addr, Value.int .u64 a.x.wr, Value.int .i64 a.x.ws.f, Value.int .i64 a.x.ws.pc, Value.int .u64 a.x.rd, Value.int .i64 a.x.rs.f, Value.int .i64 a.x.rs.pc, Value.int .i64 a.x.vec] 37]) hW 1 rfl rfl ?_; clear hW; intro w94 hW
             refine leaveD (H' := [ShR n67 n68 u74, Cel b55 #[Value.int .u64 (⟨0, ⟨0, 0⟩, 0, ⟨0, 0⟩, 0⟩ : Shade).wr, Value.int .i64 (⟨0, ⟨0, 0⟩, 0, ⟨0, 0⟩, 0⟩ : Shade).ws.f, Value.int .i64 (⟨0, ⟨0, 0⟩, 0, ⟨0, 0⟩, 0⟩ : Shade).ws.pc, Value.int .u64 (⟨0, ⟨0, 0⟩, 0, ⟨0, 0⟩, 0⟩ : Shade).rd, Value.int .i64 (⟨0, ⟨0, 0⟩, 0, ⟨0, 0⟩, 0⟩ : Shade).rs.f, Value.int .i64 (⟨0, ⟨0, 0⟩, 0, ⟨0, 0⟩, 0⟩ : Shade).rs.pc, Value.int .i64 (⟨0, ⟨0, 0⟩, 0, ⟨0, 0⟩, 0⟩ : Shade).vec] 31, Cel b3 #[Value.bool false] 4, Cel b1 #[Value.int .u32 a.addr, Value.int .u64 a.x.wr, Value.int .i64 a.x.ws.f, Value.int .i64 a.x.ws.pc, Value.int .u64 a.x.rd, Value.int .i64 a.x.rs.f, Value.int .i64 a.x.rs.pc, Value.int .i64 a.x.vec] 37]) hW 1 rfl rfl ?_; clear hW; intro w95 hW
             refine leave1 (v := Value.bool false) (by rfl) (GotF.cell (b := b3) (i := 0) hA (by kernel_rfl) (by kernel_rfl) (hW.cel 2 rfl) (by kernel_rfl)) ?_
             clear hA
             exact ⟨retv (by rfl), hW.fr⟩)
       · skip
         clear hA ac hW; intro D96 c_ pre_ Hk_ w97 ac hJ_ hA hW
         exact hJ_.elim
     · skip
       clear hA ac hW; intro D98 c_ pre_ Hk_ w99 ac hJ_ hA hW
       exact hJ_.elim)

theorem shadownone_walk (a : Act22) (zero : Bool) (w : World) (ha : wfAct22 a) : Calls Try.prog 6 #[a.v, .bool zero] w fun e w' => e = .returned (.bool true) ∧ Fr No w w' := e_none22 a zero w (wf_act22 ha)
end Go.Proofs.Ytcgcippmbeileaa.L
