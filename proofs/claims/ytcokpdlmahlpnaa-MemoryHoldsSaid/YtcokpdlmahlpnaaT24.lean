/- Contracts, walked by program over the engine's laws. -/
import Derived.Test.YtcokpdlmahlpnaaProg
import Derived.Test.YtcokpdlmahlpnaaT23
namespace Go.Proofs.Ytcokpdlmahlpnaa.L
open Go.RowKit

def deCell6 : List Value → Cell6
  | [.int _ a0, .int _ a1] => ⟨a0, a1⟩
  | _ => ⟨0, 0⟩
def wfCell6 (x : Cell6) : Prop := (Lit.int .u32 x.addr).wf = true ∧ (Lit.int .u32 x.word).wf = true ∧ True
theorem deCell6_ok (cs : List Value) (h : cksOk [.int .u32, .int .u32] cs) : enCell6 (deCell6 cs) = cs ∧ wfCell6 (deCell6 cs) := by
  have hl := cksOk_length h
  match cs, hl, h with
  | [c0, c1], _, ⟨⟨_, h0, w0⟩, ⟨_, h1, w1⟩, _⟩ =>
    subst h0 h1
    exact ⟨rfl, w0, w1, trivial⟩
theorem flatCell6 {v : Value} (h : cksOk [.int .u32, .int .u32] v.cells.toList) : ∃ x : Cell6, v = x.v ∧ wfCell6 x := by
  have hl := cksOk_length h
  cases v with
  | agg a => exact ⟨deCell6 a.toList, by have := (deCell6_ok _ h).1; have h2 := congrArg List.toArray this; exact congrArg Value.agg (h2.symm), (deCell6_ok _ h).2⟩
  | _ => simp [Value.cells] at hl
theorem wf_u32 {a : Int} (h : (Lit.int .u32 a).wf = true) : 0 ≤ a ∧ a ≤ 4294967295 := by
  simp [Lit.wf, IntKind.min, IntKind.max] at h
  simp only [IntKind.bits, IntKind.signed] at h
  simp at h
  omega
theorem wf_cell6 {x : Cell6} (h : wfCell6 x) : (0 ≤ x.addr ∧ x.addr ≤ 4294967295) ∧ (0 ≤ x.word ∧ x.word ≤ 4294967295) := ⟨wf_u32 h.1, wf_u32 h.2.1⟩
set_option maxRecDepth 100000 in
theorem e_mdig_nil  (w : World)  : Calls Try.prog 13 #[Value.pointer none] w (fun e w' => e = .returned (Value.int .u64 (sumM ([] : List Int))) ∧ Fr No w w') := by
 refine enter_E 30 Try.func13 rfl rfl (by kernel_rfl) (L := [(0, Value.pointer none)]) (by kernel_rfl) ?_
 intro ac hA
 have hW := Ws.start w No
 refine wp_seq ?_
 refine wp_region_lit ?_
 refine st_rd (v := Value.int .u64 0) hA (by kernel_rfl) (by kernel_rfl) (by kernel_rfl) hW.cls (Rd.pure fun _ => by kernel_rfl) ?_; clear hA ac; intro ac hA
 refine wpList_nil ?_
 refine thenN ?_
 refine wp_seq ?_
 refine wp_region_lit ?_
 refine st hA (by kernel_rfl) (by kernel_rfl) (by kernel_rfl) (Runs.call (fun _ => by kernel_rfl) (e_dnew w) ?_)
 rintro _ w1 ⟨n2, n3, rfl, hw1_hT, hu_⟩; refine ⟨_, rfl, ?_⟩; replace hW := hW.made hu_; clear hA ac; intro ac hA
 refine st_rd (v := Value.pointer (some ⟨n2, 0, none⟩)) hA (by kernel_rfl) (by kernel_rfl) (by kernel_rfl) hW.cls (Rd.pure fun _ => by kernel_rfl) ?_; clear hA ac; intro ac hA
 refine wpList_nil ?_
 refine thenN ?_
 refine wp_seq ?_
 refine wp_region_lit ?_
 refine st_rd (v := Value.pointer (some ⟨n2, 0, none⟩)) hA (by kernel_rfl) (by kernel_rfl) (by kernel_rfl) hW.cls (Rd.pure fun _ => by kernel_rfl) ?_; clear hA ac; intro ac hA
 refine st_rd (v := Value.func (.func 32) #[Value.pointer (some ⟨n2, 0, none⟩)] #[]) hA (by kernel_rfl) (by kernel_rfl) (by kernel_rfl) hW.cls (Rd.pure fun _ => by kernel_rfl) ?_; clear hA ac; intro ac hA
 refine st_rd (v := Value.func (.func 32) #[Value.pointer (some ⟨n2, 0, none⟩)] #[]) hA (by kernel_rfl) (by kernel_rfl) (by kernel_rfl) hW.cls (Rd.pure fun _ => by kernel_rfl) ?_; clear hA ac; intro ac hA
 refine wpList_nil ?_
 refine thenN ?_
 refine wp_seq ?_
 refine wp_seq ?_
 refine wp_region_lit ?_
 refine st_rd (v := Value.pointer none) hA (by kernel_rfl) (by kernel_rfl) (by kernel_rfl) hW.cls (Rd.pure fun _ => by kernel_rfl) ?_; clear hA ac; intro ac hA
 refine st hA (by kernel_rfl) (by kernel_rfl) (by kernel_rfl) (Runs.callN (v := Value.slice none 0 0) (fun _ => by kernel_rfl) hW (e_mcells_nil (0) w1) ?_); clear hA ac hW; intro w4 hW hfw4 ac hA
 refine st_rd (v := Value.int .i64 0) hA (by kernel_rfl) (by kernel_rfl) (by kernel_rfl) hW.cls (Rd.pure fun _ => by kernel_rfl) ?_; clear hA ac; intro ac hA
 refine st_rd (v := Value.int .i64 0) hA (by kernel_rfl) (by kernel_rfl) (by kernel_rfl) hW.cls (Rd.pure fun _ => by kernel_rfl) ?_; clear hA ac; intro ac hA
 refine wpList_nil ?_
 refine thenN ?_
 refine wp_block ?_
 refine wp_loop_rounds 1 ?_
 rw [rounds_succ]
 refine wp_seq ?_
 refine wp_region_lit ?_
 refine st_rd (v := Value.bool false) hA (by kernel_rfl) (by kernel_rfl) (by kernel_rfl) hW.cls (Rd.pure fun _ => by kernel_rfl) ?_; clear hA ac; intro ac hA
 refine wpList_nil ?_
 refine thenN ?_
 refine wp_seq ?_
 refine wp_cond_false (hA.eval (by kernel_rfl)) ?_
 refine wp_exit ?_
 refine thenX ?_
 refine thenX ?_
 refine blkX ?_
 refine thenN ?_
 refine wp_seq ?_
 refine wp_region_lit ?_
 refine st_rd (v := Value.pointer (some ⟨n2, 0, none⟩)) hA (by kernel_rfl) (by kernel_rfl) (by kernel_rfl) hW.cls (Rd.pure fun _ => by kernel_rfl) ?_; clear hA ac; intro ac hA
 refine st hA (by kernel_rfl) (by kernel_rfl) (by kernel_rfl) (Runs.callN (v := Value.int .u64 (bits .xor .u64 18446744073709551615 (18446744073709551615 : Int))) (fun _ => by kernel_rfl) hW (e_dsum n2 n3 18446744073709551615 0 w4 ((hW).get 0 rfl) ((hW).lt _ (List.mem_of_getElem? (i := 0) rfl))) ?_); clear hA ac hW; intro w5 hW hfw5 ac hA
 refine st_rd (v := Value.int .u64 (bits .xor .u64 18446744073709551615 (18446744073709551615 : Int))) hA (by kernel_rfl) (by kernel_rfl) (by kernel_rfl) hW.cls (Rd.pure fun _ => by kernel_rfl) ?_; clear hA ac; intro ac hA
 refine wpList_nil ?_
 refine thenN ?_
 refine wp_ret ?_
 refine ret1 (v := Value.int .u64 (bits .xor .u64 18446744073709551615 (18446744073709551615 : Int))) (by rfl) hA (Got.tmp hA (by kernel_rfl) (by kernel_rfl)) ?_
 clear hA
 exact ⟨retv (by rfl), hW.fr⟩

set_option maxRecDepth 100000 in
theorem e_mdig_z (p : Nat) (w : World) (ho_p : w.heap[p]? = some (.cells #[Value.map none] 54 (0, 0))) : Calls Try.prog 13 #[Value.pointer (some ⟨p, 0, none⟩)] w (fun e w' => e = .returned (Value.int .u64 (sumM ([] : List Int))) ∧ Fr No w w') := by
 have _hu := ho_p; clear _hu
 refine enter_E 30 Try.func13 rfl rfl (by kernel_rfl) (L := [(0, Value.pointer (some ⟨p, 0, none⟩))]) (by kernel_rfl) ?_
 intro ac hA
 have hW := Ws.start w No
 have hW := hW.celG ho_p
 refine wp_seq ?_
 refine wp_region_lit ?_
 refine st_rd (v := Value.int .u64 0) hA (by kernel_rfl) (by kernel_rfl) (by kernel_rfl) hW.cls (Rd.pure fun _ => by kernel_rfl) ?_; clear hA ac; intro ac hA
 refine wpList_nil ?_
 refine thenN ?_
 refine wp_seq ?_
 refine wp_region_lit ?_
 refine st hA (by kernel_rfl) (by kernel_rfl) (by kernel_rfl) (Runs.call (fun _ => by kernel_rfl) (e_dnew w) ?_)
 rintro _ w1 ⟨n2, n3, rfl, hw1_hT, hu_⟩; refine ⟨_, rfl, ?_⟩; replace hW := hW.made hu_; clear hA ac; intro ac hA
 refine st_rd (v := Value.pointer (some ⟨n2, 0, none⟩)) hA (by kernel_rfl) (by kernel_rfl) (by kernel_rfl) hW.cls (Rd.pure fun _ => by kernel_rfl) ?_; clear hA ac; intro ac hA
 refine wpList_nil ?_
 refine thenN ?_
 refine wp_seq ?_
 refine wp_region_lit ?_
 refine st_rd (v := Value.pointer (some ⟨n2, 0, none⟩)) hA (by kernel_rfl) (by kernel_rfl) (by kernel_rfl) hW.cls (Rd.pure fun _ => by kernel_rfl) ?_; clear hA ac; intro ac hA
 refine st_rd (v := Value.func (.func 32) #[Value.pointer (some ⟨n2, 0, none⟩)] #[]) hA (by kernel_rfl) (by kernel_rfl) (by kernel_rfl) hW.cls (Rd.pure fun _ => by kernel_rfl) ?_; clear hA ac; intro ac hA
 refine st_rd (v := Value.func (.func 32) #[Value.pointer (some ⟨n2, 0, none⟩)] #[]) hA (by kernel_rfl) (by kernel_rfl) (by kernel_rfl) hW.cls (Rd.pure fun _ => by kernel_rfl) ?_; clear hA ac; intro ac hA
 refine wpList_nil ?_
 refine thenN ?_
 refine wp_seq ?_
 refine wp_seq ?_
 refine wp_region_lit ?_
 refine st_rd (v := Value.pointer (some ⟨p, 0, none⟩)) hA (by kernel_rfl) (by kernel_rfl) (by kernel_rfl) hW.cls (Rd.pure fun _ => by kernel_rfl) ?_; clear hA ac; intro ac hA
 refine st hA (by kernel_rfl) (by kernel_rfl) (by kernel_rfl) (Runs.callN (v := Value.slice none 0 0) (fun _ => by kernel_rfl) hW (e_mcells_z p (0) w1 (show _ = _ from (hW).getG 0 rfl)) ?_); clear hA ac hW; intro w4 hW hfw4 ac hA
 refine st_rd (v := Value.int .i64 0) hA (by kernel_rfl) (by kernel_rfl) (by kernel_rfl) hW.cls (Rd.pure fun _ => by kernel_rfl) ?_; clear hA ac; intro ac hA
 refine st_rd (v := Value.int .i64 0) hA (by kernel_rfl) (by kernel_rfl) (by kernel_rfl) hW.cls (Rd.pure fun _ => by kernel_rfl) ?_; clear hA ac; intro ac hA
 refine wpList_nil ?_
 refine thenN ?_
 refine wp_block ?_
 refine wp_loop_rounds 1 ?_
 rw [rounds_succ]
 refine wp_seq ?_
 refine wp_region_lit ?_
 refine st_rd (v := Value.bool false) hA (by kernel_rfl) (by kernel_rfl) (by kernel_rfl) hW.cls (Rd.pure fun _ => by kernel_rfl) ?_; clear hA ac; intro ac hA
 refine wpList_nil ?_
 refine thenN ?_
 refine wp_seq ?_
 refine wp_cond_false (hA.eval (by kernel_rfl)) ?_
 refine wp_exit ?_
 refine thenX ?_
 refine thenX ?_
 refine blkX ?_
 refine thenN ?_
 refine wp_seq ?_
 refine wp_region_lit ?_
 refine st_rd (v := Value.pointer (some ⟨n2, 0, none⟩)) hA (by kernel_rfl) (by kernel_rfl) (by kernel_rfl) hW.cls (Rd.pure fun _ => by kernel_rfl) ?_; clear hA ac; intro ac hA
 refine st hA (by kernel_rfl) (by kernel_rfl) (by kernel_rfl) (Runs.callN (v := Value.int .u64 (bits .xor .u64 18446744073709551615 (18446744073709551615 : Int))) (fun _ => by kernel_rfl) hW (e_dsum n2 n3 18446744073709551615 0 w4 ((hW).get 0 rfl) ((hW).lt _ (List.mem_of_getElem? (i := 0) rfl))) ?_); clear hA ac hW; intro w5 hW hfw5 ac hA
 refine st_rd (v := Value.int .u64 (bits .xor .u64 18446744073709551615 (18446744073709551615 : Int))) hA (by kernel_rfl) (by kernel_rfl) (by kernel_rfl) hW.cls (Rd.pure fun _ => by kernel_rfl) ?_; clear hA ac; intro ac hA
 refine wpList_nil ?_
 refine thenN ?_
 refine wp_ret ?_
 refine ret1 (v := Value.int .u64 (bits .xor .u64 18446744073709551615 (18446744073709551615 : Int))) (by rfl) hA (Got.tmp hA (by kernel_rfl) (by kernel_rfl)) ?_
 clear hA
 exact ⟨retv (by rfl), hW.fr⟩

set_option maxRecDepth 100000 in
theorem e_none06 (addr : Int) (zero : Bool) (w : World) (ha : 0 ≤ addr ∧ addr ≤ 4294967295) : Calls Try.prog 7 #[Value.int .u32 addr, Value.bool zero] w (fun e w' => e = .returned (Value.bool true) ∧ Fr No w w') := by
 have _hu := ha; clear _hu
 refine enter_F 63 Try.func7 rfl rfl (by kernel_rfl) (L := [(0, Value.int .u32 addr), (1, Value.bool zero)]) (by kernel_rfl) ?_
 intro ac hA
 have hW := Ws.start w No
 refine wpIn_seq ?_
 refine wpIn_region_lit ?_
 refine stF hA (by kernel_rfl) (by kernel_rfl) (by kernel_rfl) (by kernel_rfl) (RunsF.of (Runs.cells (fun b => Value.pointer (some ⟨b, 0, none⟩)) #[Value.bool false] 4 (fun _ => by kernel_rfl) hW ?_)); clear hA ac hW; intro b1 w2 hW hb1 hfw2 ac hA
 refine wpListIn_nil ?_
 refine thenN ?_
 refine wpIn_seq ?_
 refine wpIn_region_lit ?_
 refine st_rdF (v := Value.pointer none) hA (by kernel_rfl) (by kernel_rfl) (by kernel_rfl) (by kernel_rfl) hW.cls (Rd.pure fun _ => by kernel_rfl) ?_; clear hA ac; intro ac hA
 refine wpListIn_nil ?_
 refine thenN ?_
 refine wpIn_seq ?_
 refine wpIn_seq ?_
 refine wpIn_region_lit ?_
 refine st_rdF (v := Value.bool zero) hA (by kernel_rfl) (by kernel_rfl) (by kernel_rfl) (by kernel_rfl) hW.cls (Rd.pure fun _ => by kernel_rfl) ?_; clear hA ac; intro ac hA
 refine wpListIn_nil ?_
 refine thenN ?_
 refine wpIn_cond_split (t := zero) (hA.eval (by kernel_rfl)) (fun h3 => ?_) (fun h3 => ?_)
 · skip
   first
   | (exfalso; clear hA hW; omega)
   | (exfalso; clear hA hW; exact h3 rfl; done)
   | (
     refine wpIn_region_lit ?_
     refine st_rdF (v := Value.agg #[Value.map none]) hA (by kernel_rfl) (by kernel_rfl) (by kernel_rfl) (by kernel_rfl) hW.cls (Rd.pure fun _ => by kernel_rfl) ?_; clear hA ac; intro ac hA
     refine stF hA (by kernel_rfl) (by kernel_rfl) (by kernel_rfl) (by kernel_rfl) (RunsF.of (Runs.cells (fun b => Value.pointer (some ⟨b, 0, none⟩)) #[Value.map none] 54 (fun _ => by kernel_rfl) hW ?_)); clear hA ac hW; intro b4 w5 hW hb4 hfw5 ac hA
     refine st_rdF (v := Value.pointer (some ⟨b4, 0, none⟩)) hA (by kernel_rfl) (by kernel_rfl) (by kernel_rfl) (by kernel_rfl) hW.cls (Rd.pure fun _ => by kernel_rfl) ?_; clear hA ac; intro ac hA
     refine wpListIn_nil ?_
     refine thenN ?_
     refine wpIn_seq ?_
     refine wpIn_region_lit ?_
     refine st_rdF (v := Value.pointer (some ⟨b4, 0, none⟩)) hA (by kernel_rfl) (by kernel_rfl) (by kernel_rfl) (by kernel_rfl) hW.cls (Rd.pure fun _ => by kernel_rfl) ?_; clear hA ac; intro ac hA
     refine st_rdF (v := Value.int .u32 addr) hA (by kernel_rfl) (by kernel_rfl) (by kernel_rfl) (by kernel_rfl) hW.cls (Rd.pure fun _ => by kernel_rfl) ?_; clear hA ac; intro ac hA
     refine stF hA (by kernel_rfl) (by kernel_rfl) (by kernel_rfl) (by kernel_rfl) (RunsF.of (Runs.call (fun _ => by kernel_rfl) (e_mfrom_z b4 (addr) w5 ((hW).cel 0 rfl)) ?_))
     rintro _ w6 ⟨lb7, g8, rfl, hIg8, hfg8, hfw6⟩; refine ⟨_, rfl, ?_⟩; have hW0 := hW; have hW := hW0.call hfw6; have hW := hW0.addFromAt hW hfg8 in_nil; clear hW0 hA ac; intro ac hA
     refine st_rdF (v := Value.func (.func 35) #[] lb7) hA (by kernel_rfl) (by kernel_rfl) (by kernel_rfl) (by kernel_rfl) hW.cls (Rd.pure fun _ => by kernel_rfl) ?_; clear hA ac; intro ac hA
     refine wpListIn_nil ?_
     refine thenN ?_
     refine wpIn_seq ?_
     refine wpIn_seq ?_
     refine wpIn_region_lit ?_
     refine st_rdF (v := Value.func (.func 35) #[] lb7) hA (by kernel_rfl) (by kernel_rfl) (by kernel_rfl) (by kernel_rfl) hW.cls (Rd.pure fun _ => by kernel_rfl) ?_; clear hA ac; intro ac hA
     refine st_rdF (v := Value.bool false) hA (by kernel_rfl) (by kernel_rfl) (by kernel_rfl) (by kernel_rfl) hW.cls (Rd.pure fun _ => by kernel_rfl) ?_; clear hA ac; intro ac hA
     refine wpListIn_nil ?_
     refine thenN ?_
     refine wpIn_cond_false (hA.eval (by kernel_rfl)) ?_
     refine wpIn_skip ?_
     refine thenN ?_
     refine wpIn_seq ?_
     refine wpIn_seq ?_
     refine wpIn_region_lit ?_
     refine st_rdF (v := Value.func (.func 35) #[] lb7) hA (by kernel_rfl) (by kernel_rfl) (by kernel_rfl) (by kernel_rfl) hW.cls (Rd.pure fun _ => by kernel_rfl) ?_; clear hA ac; intro ac hA
     refine wpListIn_nil ?_
     refine thenN ?_
     refine wpIn_block ?_
     refine wp_range (encs := (fun x_ : Cell6 => #[Value.int .u32 x_.addr, Value.int .u32 x_.word])) (Sx := (· = ([] : List Cell6))) hA (by kernel_rfl) (by kernel_rfl) (enters_of Try.func35 (by kernel_rfl) rfl) (by kernel_rfl) (fun _ => rfl) hIg8 (List.forall_mem_singleton.2 (List.mem_of_getElem? (i := 0) rfl)) (fun pre_ H_ => ∃ k : Nat, pre_ = ([] : List Cell6).take k ∧ k ≤ ([] : List Cell6).length ∧ H_ = []) (fun _ _ _ => False) (H := []) (K := [Cel b4 #[Value.map none] 54, Cel b1 #[Value.bool false] 4]) (hW.pick [0, 1] (by decide) rfl) ⟨0, rfl, Nat.zero_le _, rfl⟩ ?_ ?_ ?_
     · skip
       clear hA ac hW; intro l_9 rd_9 bs_9 pre_ x_ Hk_ w10 T_9 ac hrd_9 hbs_9 hbr_9 hok_ hJ_ hA hW hB_9 hT_9
       obtain ⟨k, rfl, hk_, rfl⟩ := hJ_
       obtain ⟨y11, h_⟩ : ∃ y_, y_ = x_ := ⟨_, rfl⟩; subst h_; obtain ⟨hy11, hlty11, hsny11⟩ := comes_list hok_ hk_
       replace hA : Fm 63 [] [(0, Value.int .u32 addr), (1, Value.bool zero), (4, Value.pointer (some ⟨b1, 0, none⟩)), (5, Value.pointer (some ⟨b4, 0, none⟩)), (6, Value.func (.func 35) #[] lb7), (7, Value.bool zero), (8, Value.agg #[Value.map none]), (9, Value.pointer (some ⟨b4, 0, none⟩)), (10, Value.pointer (some ⟨b4, 0, none⟩)), (11, Value.int .u32 addr), (12, Value.func (.func 35) #[] lb7), (13, Value.func (.func 35) #[] lb7), (14, Value.bool false), (15, Value.func (.func 35) #[] lb7), (16, Value.int .u32 y11.addr), (17, Value.int .u32 y11.word)] ac := hA.sub ⟨⟨by kernel_rfl, by kernel_rfl⟩, ⟨by kernel_rfl, by kernel_rfl⟩, ⟨by kernel_rfl, by kernel_rfl⟩, ⟨by kernel_rfl, by kernel_rfl⟩, ⟨by kernel_rfl, by kernel_rfl⟩, ⟨by kernel_rfl, by kernel_rfl⟩, ⟨by kernel_rfl, by kernel_rfl⟩, ⟨by kernel_rfl, by kernel_rfl⟩, ⟨by kernel_rfl, by kernel_rfl⟩, ⟨by kernel_rfl, by kernel_rfl⟩, ⟨by kernel_rfl, by kernel_rfl⟩, ⟨by kernel_rfl, by kernel_rfl⟩, ⟨by kernel_rfl, by kernel_rfl⟩, ⟨by kernel_rfl, by kernel_rfl⟩, ⟨by kernel_rfl, by kernel_rfl⟩, ⟨by kernel_rfl, by kernel_rfl⟩, trivial⟩
       simp at hy11
     · skip
       clear hA ac hW; intro D12 xs_ Hk_ w13 ac hS_ hJ_ hA hW
       obtain ⟨k, hpre_, hk_, rfl⟩ := hJ_
       clear hpre_ hS_ hk_
       replace hW : Ws w No [DefR D12, Cel b4 #[Value.map none] 54, Cel b1 #[Value.bool false] 4] [g8] w13 := hW
       refine blkN ?_
       refine thenN ?_
       refine wpIn_seq ?_
       refine wpIn_region_lit ?_
       refine st_rdF (v := Value.pointer (some ⟨b4, 0, none⟩)) hA (by kernel_rfl) (by kernel_rfl) (by kernel_rfl) (by kernel_rfl) hW.cls (Rd.pure fun _ => by kernel_rfl) ?_; clear hA ac; intro ac hA
       refine stF hA (by kernel_rfl) (by kernel_rfl) (by kernel_rfl) (by kernel_rfl) (RunsF.of (Runs.callN (v := Value.int .i64 1) (fun _ => by kernel_rfl) hW (e_mstore_z b4 w13 ((hW).cel 1 rfl)) ?_)); clear hA ac hW; intro w14 hW hfw14 ac hA
       refine stF hA (by kernel_rfl) (by kernel_rfl) (by kernel_rfl) (by kernel_rfl) (RunsF.of (Runs.callS (v := Value.int .i64 (1)) (fun _ => by kernel_rfl) (e_num06 (1) w14) ?_)); clear hA ac; intro  ac hA
       refine st_rdF (v := Value.bool (((1) : Int) == (1 : Int))) hA (by kernel_rfl) (by kernel_rfl) (by kernel_rfl) (by kernel_rfl) hW.cls (Rd.pure fun _ => by kernel_rfl) ?_; clear hA ac; intro ac hA
       refine st_rdF (v := Value.bool (((1) : Int) == (1 : Int))) hA (by kernel_rfl) (by kernel_rfl) (by kernel_rfl) (by kernel_rfl) hW.cls (Rd.pure fun _ => by kernel_rfl) ?_; clear hA ac; intro ac hA
       rcases Bool.eq_false_or_eq_true (((1) : Int) == (1 : Int)) with h15 | h15
       · skip
         rw [h15] at hA
         have h15 := eq_of_beq h15
         first
         | (exfalso; clear hA hW; omega)
         | (exfalso; clear hA hW; exact h15 rfl; done)
         | (
           refine st_rdF (v := Value.pointer (some ⟨b4, 0, none⟩)) hA (by kernel_rfl) (by kernel_rfl) (by kernel_rfl) (by kernel_rfl) hW.cls (Rd.pure fun _ => by kernel_rfl) ?_; clear hA ac; intro ac hA
           refine st_rdF (v := Value.int .u32 addr) hA (by kernel_rfl) (by kernel_rfl) (by kernel_rfl) (by kernel_rfl) hW.cls (Rd.pure fun _ => by kernel_rfl) ?_; clear hA ac; intro ac hA
           refine stF hA (by kernel_rfl) (by kernel_rfl) (by kernel_rfl) (by kernel_rfl) (RunsF.of (Runs.callN (v := Value.int .u32 0) (fun _ => by kernel_rfl) hW (e_mload_z b4 (addr) w14 ((hW).cel 1 rfl)) ?_)); clear hA ac hW; intro w16 hW hfw16 ac hA
           refine st_rdF (v := Value.bool true) hA (by kernel_rfl) (by kernel_rfl) (by kernel_rfl) (by kernel_rfl) hW.cls (Rd.pure fun _ => by kernel_rfl) ?_; clear hA ac; intro ac hA
           refine st_rdF (v := Value.bool true) hA (by kernel_rfl) (by kernel_rfl) (by kernel_rfl) (by kernel_rfl) hW.cls (Rd.pure fun _ => by kernel_rfl) ?_; clear hA ac; intro ac hA
           refine st_rdF (v := Value.bool true) hA (by kernel_rfl) (by kernel_rfl) (by kernel_rfl) (by kernel_rfl) hW.cls (Rd.pure fun _ => by kernel_rfl) ?_; clear hA ac; intro ac hA
           refine st_rdF (v := Value.pointer (some ⟨b4, 0, none⟩)) hA (by kernel_rfl) (by kernel_rfl) (by kernel_rfl) (by kernel_rfl) hW.cls (Rd.pure fun _ => by kernel_rfl) ?_; clear hA ac; intro ac hA
           refine stF hA (by kernel_rfl) (by kernel_rfl) (by kernel_rfl) (by kernel_rfl) (RunsF.of (Runs.callN (v := Value.int .i64 0) (fun _ => by kernel_rfl) hW (e_mlen_z b4 w16 ((hW).cel 1 rfl)) ?_)); clear hA ac hW; intro w17 hW hfw17 ac hA
           refine st_rdF (v := Value.bool true) hA (by kernel_rfl) (by kernel_rfl) (by kernel_rfl) (by kernel_rfl) hW.cls (Rd.pure fun _ => by kernel_rfl) ?_; clear hA ac; intro ac hA
           refine st_rdF (v := Value.bool true) hA (by kernel_rfl) (by kernel_rfl) (by kernel_rfl) (by kernel_rfl) hW.cls (Rd.pure fun _ => by kernel_rfl) ?_; clear hA ac; intro ac hA
           refine st_rdF (v := Value.bool true) hA (by kernel_rfl) (by kernel_rfl) (by kernel_rfl) (by kernel_rfl) hW.cls (Rd.pure fun _ => by kernel_rfl) ?_; clear hA ac; intro ac hA
           refine st_rdF (v := Value.pointer (some ⟨b4, 0, none⟩)) hA (by kernel_rfl) (by kernel_rfl) (by kernel_rfl) (by kernel_rfl) hW.cls (Rd.pure fun _ => by kernel_rfl) ?_; clear hA ac; intro ac hA
           refine stF hA (by kernel_rfl) (by kernel_rfl) (by kernel_rfl) (by kernel_rfl) (RunsF.of (Runs.callN (v := Value.slice none 0 0) (fun _ => by kernel_rfl) hW (e_mpages_z b4 w17 ((hW).cel 1 rfl)) ?_)); clear hA ac hW; intro w18 hW hfw18 ac hA
           refine st_rdF (v := Value.int .i64 0) hA (by kernel_rfl) (by kernel_rfl) (by kernel_rfl) (by kernel_rfl) hW.cls (Rd.pure fun _ => by kernel_rfl) ?_; clear hA ac; intro ac hA
           refine st_rdF (v := Value.bool true) hA (by kernel_rfl) (by kernel_rfl) (by kernel_rfl) (by kernel_rfl) hW.cls (Rd.pure fun _ => by kernel_rfl) ?_; clear hA ac; intro ac hA
           refine st_rdF (v := Value.bool true) hA (by kernel_rfl) (by kernel_rfl) (by kernel_rfl) (by kernel_rfl) hW.cls (Rd.pure fun _ => by kernel_rfl) ?_; clear hA ac; intro ac hA
           refine st_rdF (v := Value.bool true) hA (by kernel_rfl) (by kernel_rfl) (by kernel_rfl) (by kernel_rfl) hW.cls (Rd.pure fun _ => by kernel_rfl) ?_; clear hA ac; intro ac hA
           refine st_rdF (v := Value.pointer (some ⟨b4, 0, none⟩)) hA (by kernel_rfl) (by kernel_rfl) (by kernel_rfl) (by kernel_rfl) hW.cls (Rd.pure fun _ => by kernel_rfl) ?_; clear hA ac; intro ac hA
           refine stF hA (by kernel_rfl) (by kernel_rfl) (by kernel_rfl) (by kernel_rfl) (RunsF.of (Runs.callN (v := Value.int .u64 (sumM ([] : List Int))) (fun _ => by kernel_rfl) hW (e_mdig_z b4 w18 ((hW).cel 1 rfl)) ?_)); clear hA ac hW; intro w19 hW hfw19 ac hA
           refine stF hA (by kernel_rfl) (by kernel_rfl) (by kernel_rfl) (by kernel_rfl) (RunsF.of (Runs.callN (v := Value.int .u64 (sumM ([] : List Int))) (fun _ => by kernel_rfl) hW (e_of02 none 0 ([] : List Int) w19 (RowAt.nil' _ _) (by first | assumption | omega | (simp; omega) | simp) (by first | assumption | omega | (simp; done)) (by first | assumption | omega | (simp; done))) ?_)); clear hA ac hW; intro w20 hW hfw20 ac hA
           refine st_rdF (v := Value.bool ((sumM ([] : List Int) : Int) == (sumM ([] : List Int) : Int))) hA (by kernel_rfl) (by kernel_rfl) (by kernel_rfl) (by kernel_rfl) hW.cls (Rd.pure fun _ => by kernel_rfl) ?_; clear hA ac; intro ac hA
           refine st_rdF (v := Value.bool ((sumM ([] : List Int) : Int) == (sumM ([] : List Int) : Int))) hA (by kernel_rfl) (by kernel_rfl) (by kernel_rfl) (by kernel_rfl) hW.cls (Rd.pure fun _ => by kernel_rfl) ?_; clear hA ac; intro ac hA
           refine st_rdF (v := Value.bool ((sumM ([] : List Int) : Int) == (sumM ([] : List Int) : Int))) hA (by kernel_rfl) (by kernel_rfl) (by kernel_rfl) (by kernel_rfl) hW.cls (Rd.pure fun _ => by kernel_rfl) ?_; clear hA ac; intro ac hA
           rcases Bool.eq_false_or_eq_true ((sumM ([] : List Int) : Int) == (sumM ([] : List Int) : Int)) with h21 | h21
           · skip
             rw [h21] at hA
             have h21 := eq_of_beq h21
             first
             | (exfalso; clear hA hW; omega)
             | (exfalso; clear hA hW; exact h21 rfl; done)
             | (
               refine st_rdF (v := Value.pointer (some ⟨b4, 0, none⟩)) hA (by kernel_rfl) (by kernel_rfl) (by kernel_rfl) (by kernel_rfl) hW.cls (Rd.pure fun _ => by kernel_rfl) ?_; clear hA ac; intro ac hA
               refine stF hA (by kernel_rfl) (by kernel_rfl) (by kernel_rfl) (by kernel_rfl) (RunsF.of (Runs.callN (v := Value.pointer none) (fun _ => by kernel_rfl) hW (e_mcopy_z b4 w20 ((hW).cel 1 rfl)) ?_)); clear hA ac hW; intro w22 hW hfw22 ac hA
               refine st_rdF (v := Value.bool true) hA (by kernel_rfl) (by kernel_rfl) (by kernel_rfl) (by kernel_rfl) hW.cls (Rd.pure fun _ => by kernel_rfl) ?_; clear hA ac; intro ac hA
               refine st_rdF (v := Value.bool true) hA (by kernel_rfl) (by kernel_rfl) (by kernel_rfl) (by kernel_rfl) hW.cls (Rd.pure fun _ => by kernel_rfl) ?_; clear hA ac; intro ac hA
               refine st_rdF (v := Value.bool true) hA (by kernel_rfl) (by kernel_rfl) (by kernel_rfl) (by kernel_rfl) hW.cls (Rd.pure fun _ => by kernel_rfl) ?_; clear hA ac; intro ac hA
               refine st_rdF (v := Value.pointer (some ⟨b4, 0, none⟩)) hA (by kernel_rfl) (by kernel_rfl) (by kernel_rfl) (by kernel_rfl) hW.cls (Rd.pure fun _ => by kernel_rfl) ?_; clear hA ac; intro ac hA
               refine stF hA (by kernel_rfl) (by kernel_rfl) (by kernel_rfl) (by kernel_rfl) (RunsF.of (Runs.callN (v := Value.bool true) (fun _ => by kernel_rfl) hW (e_msame_z b4 w22 ((hW).cel 1 rfl)) ?_)); clear hA ac hW; intro w23 hW hfw23 ac hA
               refine st_rdF (v := Value.bool true) hA (by kernel_rfl) (by kernel_rfl) (by kernel_rfl) (by kernel_rfl) hW.cls (Rd.pure fun _ => by kernel_rfl) ?_; clear hA ac; intro ac hA
               refine st_rdF (v := Value.bool true) hA (by kernel_rfl) (by kernel_rfl) (by kernel_rfl) (by kernel_rfl) hW.cls (Rd.pure fun _ => by kernel_rfl) ?_; clear hA ac; intro ac hA
               refine stF hA (by kernel_rfl) (by kernel_rfl) (by kernel_rfl) (by kernel_rfl) (RunsF.of (Runs.call (fun _ => by kernel_rfl) (e_mnew w23) ?_))
               rintro _ w24 ⟨n25, n26, rfl, hu_⟩; refine ⟨_, rfl, ?_⟩; replace hW := hW.made hu_; clear hA ac; intro ac hA
               have hq27 : Rel06 0 ([] : List Cell6) ([] : List (Int × Nat × (Nat → Int))) := Rel06.start
               refine st_rdF (v := Value.pointer (some ⟨b4, 0, none⟩)) hA (by kernel_rfl) (by kernel_rfl) (by kernel_rfl) (by kernel_rfl) hW.cls (Rd.pure fun _ => by kernel_rfl) ?_; clear hA ac; intro ac hA
               refine stF hA (by kernel_rfl) (by kernel_rfl) (by kernel_rfl) (by kernel_rfl) (RunsF.of (Runs.callN (v := Value.bool false) (fun _ => by kernel_rfl) hW (e_msame_oz n25 n26 ([] : List (Int × Nat × (Nat → Int))) b4 w24 ((hW).get 0 rfl) ((hW).lt _ (List.mem_of_getElem? (i := 0) rfl)) ((hW).cel 2 rfl)) ?_)); clear hA ac hW; intro w28 hW hfw28 ac hA
               refine st_rdF (v := Value.bool true) hA (by kernel_rfl) (by kernel_rfl) (by kernel_rfl) (by kernel_rfl) hW.cls (Rd.pure fun _ => by kernel_rfl) ?_; clear hA ac; intro ac hA
               refine st_rdF (v := Value.bool true) hA (by kernel_rfl) (by kernel_rfl) (by kernel_rfl) (by kernel_rfl) hW.cls (Rd.pure fun _ => by kernel_rfl) ?_; clear hA ac; intro ac hA
               refine st_rdF (v := Value.bool true) hA (by kernel_rfl) (by kernel_rfl) (by kernel_rfl) (by kernel_rfl) hW.cls (Rd.pure fun _ => by kernel_rfl) ?_; clear hA ac; intro ac hA
               refine stF hA (by kernel_rfl) (by kernel_rfl) (by kernel_rfl) (by kernel_rfl) (RunsF.of (Runs.callN (v := Value.bool true) (fun _ => by kernel_rfl) hW (e_works06 w28) ?_)); clear hA ac hW; intro w29 hW hfw29 ac hA
               refine st_rdF (v := Value.bool true) hA (by kernel_rfl) (by kernel_rfl) (by kernel_rfl) (by kernel_rfl) hW.cls (Rd.pure fun _ => by kernel_rfl) ?_; clear hA ac; intro ac hA
               refine stF hA (by kernel_rfl) (by kernel_rfl) (by kernel_rfl) (by kernel_rfl) (RunsF.of (Runs.store (v := Value.bool true) (b := b1) (j := 0) (n := 1) (cs' := #[Value.bool true]) (H' := [MemR n25 n26 ([] : List (Int × Nat × (Nat → Int))), DefR D12, Cel b4 #[Value.map none] 54, Cel b1 #[Value.bool true] 4]) (by kernel_rfl) (by kernel_rfl) (by kernel_rfl) (by kernel_rfl) (by kernel_rfl) hW 3 (by rfl) (Nat.le_of_ble_eq_true (by kernel_rfl)) (by kernel_rfl) (by rfl) ?_)); clear hA ac hW; intro w30 hW ac hA
               refine wpListIn_nil ?_
               refine thenN ?_
               refine wpIn_ret ?_
               refine retF (.inl rfl) hA ?_
               refine leaveD (H' := [MemR n25 n26 ([] : List (Int × Nat × (Nat → Int))), Cel b4 #[Value.map none] 54, Cel b1 #[Value.bool true] 4]) hW 1 rfl rfl ?_; clear hW; intro w31 hW
               refine leave1 (v := Value.bool true) (by rfl) (GotF.cell (b := b1) (i := 0) hA (by kernel_rfl) (by kernel_rfl) (hW.cel 2 rfl) (by kernel_rfl)) ?_
               clear hA
               exact ⟨retv (by rfl), hW.fr⟩)
           · skip
             rw [h21] at hA
             have h21 := ne_of_beq_false h21
             first
             | (exfalso; clear hA hW; omega)
             | (exfalso; clear hA hW; exact h21 rfl; done)
             | (
               refine st_skipF hA (by kernel_rfl) (by kernel_rfl) ?_; clear hA ac; intro ac hA
               refine st_skipF hA (by kernel_rfl) (by kernel_rfl) ?_; clear hA ac; intro ac hA
               refine st_skipF hA (by kernel_rfl) (by kernel_rfl) ?_; clear hA ac; intro ac hA
               refine st_rdF (v := Value.bool false) hA (by kernel_rfl) (by kernel_rfl) (by kernel_rfl) (by kernel_rfl) hW.cls (Rd.pure fun _ => by kernel_rfl) ?_; clear hA ac; intro ac hA
               refine st_rdF (v := Value.bool false) hA (by kernel_rfl) (by kernel_rfl) (by kernel_rfl) (by kernel_rfl) hW.cls (Rd.pure fun _ => by kernel_rfl) ?_; clear hA ac; intro ac hA
               refine st_skipF hA (by kernel_rfl) (by kernel_rfl) ?_; clear hA ac; intro ac hA
               refine st_skipF hA (by kernel_rfl) (by kernel_rfl) ?_; clear hA ac; intro ac hA
               refine st_rdF (v := Value.bool false) hA (by kernel_rfl) (by kernel_rfl) (by kernel_rfl) (by kernel_rfl) hW.cls (Rd.pure fun _ => by kernel_rfl) ?_; clear hA ac; intro ac hA
               refine st_rdF (v := Value.bool false) hA (by kernel_rfl) (by kernel_rfl) (by kernel_rfl) (by kernel_rfl) hW.cls (Rd.pure fun _ => by kernel_rfl) ?_; clear hA ac; intro ac hA
               refine st_skipF hA (by kernel_rfl) (by kernel_rfl) ?_; clear hA ac; intro ac hA
               refine st_skipF hA (by kernel_rfl) (by kernel_rfl) ?_; clear hA ac; intro ac hA
               refine st_skipF hA (by kernel_rfl) (by kernel_rfl) ?_; clear hA ac; intro ac hA
               refine st_skipF hA (by kernel_rfl) (by kernel_rfl) ?_; clear hA ac; intro ac hA
               refine st_rdF (v := Value.bool false) hA (by kernel_rfl) (by kernel_rfl) (by kernel_rfl) (by kernel_rfl) hW.cls (Rd.pure fun _ => by kernel_rfl) ?_; clear hA ac; intro ac hA
               refine st_rdF (v := Value.bool false) hA (by kernel_rfl) (by kernel_rfl) (by kernel_rfl) (by kernel_rfl) hW.cls (Rd.pure fun _ => by kernel_rfl) ?_; clear hA ac; intro ac hA
               refine st_skipF hA (by kernel_rfl) (by kernel_rfl) ?_; clear hA ac; intro ac hA
               refine st_rdF (v := Value.bool false) hA (by kernel_rfl) (by kernel_rfl) (by kernel_rfl) (by kernel_rfl) hW.cls (Rd.pure fun _ => by kernel_rfl) ?_; clear hA ac; intro ac hA
               refine stF hA (by kernel_rfl) (by kernel_rfl) (by kernel_rfl) (by kernel_rfl) (RunsF.of (Runs.store (v := Value.bool false) (b := b1) (j := 0) (n := 1) (cs' := #[Value.bool false]) (H' := [DefR D12, Cel b4 #[Value.map none] 54, Cel b1 #[Value.bool false] 4]) (by kernel_rfl) (by kernel_rfl) (by kernel_rfl) (by kernel_rfl) (by kernel_rfl) hW 2 (by rfl) (Nat.le_of_ble_eq_true (by kernel_rfl)) (by kernel_rfl) (by rfl) ?_)); clear hA ac hW; intro w32 hW ac hA
               refine wpListIn_nil ?_
               refine thenN ?_
               refine wpIn_ret ?_
               refine retF (.inl rfl) hA ?_
               refine leaveD (H' := [Cel b4 #[Value.map none] 54, Cel b1 #[Value.bool false] 4]) hW 0 rfl rfl ?_; clear hW; intro w33 hW
               refine leave1 (v := Value.bool false) (by rfl) (GotF.cell (b := b1) (i := 0) hA (by kernel_rfl) (by kernel_rfl) (hW.cel 1 rfl) (by kernel_rfl)) ?_
               clear hA
               exact ⟨retv (by rfl), hW.fr⟩))
       · skip
         rw [h15] at hA
         have h15 := ne_of_beq_false h15
         first
         | (exfalso; clear hA hW; omega)
         | (exfalso; clear hA hW; exact h15 rfl; done)
         | (
           refine st_skipF hA (by kernel_rfl) (by kernel_rfl) ?_; clear hA ac; intro ac hA
           refine st_skipF hA (by kernel_rfl) (by kernel_rfl) ?_; clear hA ac; intro ac hA
           refine st_skipF hA (by kernel_rfl) (by kernel_rfl) ?_; clear hA ac; intro ac hA
           refine st_skipF hA (by kernel_rfl) (by kernel_rfl) ?_; clear hA ac; intro ac hA
           refine st_rdF (v := Value.bool false) hA (by kernel_rfl) (by kernel_rfl) (by kernel_rfl) (by kernel_rfl) hW.cls (Rd.pure fun _ => by kernel_rfl) ?_; clear hA ac; intro ac hA
           refine st_rdF (v := Value.bool false) hA (by kernel_rfl) (by kernel_rfl) (by kernel_rfl) (by kernel_rfl) hW.cls (Rd.pure fun _ => by kernel_rfl) ?_; clear hA ac; intro ac hA
           refine st_skipF hA (by kernel_rfl) (by kernel_rfl) ?_; clear hA ac; intro ac hA
           refine st_skipF hA (by kernel_rfl) (by kernel_rfl) ?_; clear hA ac; intro ac hA
           refine st_skipF hA (by kernel_rfl) (by kernel_rfl) ?_; clear hA ac; intro ac hA
           refine st_rdF (v := Value.bool false) hA (by kernel_rfl) (by kernel_rfl) (by kernel_rfl) (by kernel_rfl) hW.cls (Rd.pure fun _ => by kernel_rfl) ?_; clear hA ac; intro ac hA
           refine st_rdF (v := Value.bool false) hA (by kernel_rfl) (by kernel_rfl) (by kernel_rfl) (by kernel_rfl) hW.cls (Rd.pure fun _ => by kernel_rfl) ?_; clear hA ac; intro ac hA
           refine st_skipF hA (by kernel_rfl) (by kernel_rfl) ?_; clear hA ac; intro ac hA
           refine st_skipF hA (by kernel_rfl) (by kernel_rfl) ?_; clear hA ac; intro ac hA
           refine st_skipF hA (by kernel_rfl) (by kernel_rfl) ?_; clear hA ac; intro ac hA
           refine st_skipF hA (by kernel_rfl) (by kernel_rfl) ?_; clear hA ac; intro ac hA
           refine st_rdF (v := Value.bool false) hA (by kernel_rfl) (by kernel_rfl) (by kernel_rfl) (by kernel_rfl) hW.cls (Rd.pure fun _ => by kernel_rfl) ?_; clear hA ac; intro ac hA
           refine st_rdF (v := Value.bool false) hA (by kernel_rfl) (by kernel_rfl) (by kernel_rfl) (by kernel_rfl) hW.cls (Rd.pure fun _ => by kernel_rfl) ?_; clear hA ac; intro ac hA
           refine st_skipF hA (by kernel_rfl) (by kernel_rfl) ?_; clear hA ac; intro ac hA
           refine st_skipF hA (by kernel_rfl) (by kernel_rfl) ?_; clear hA ac; intro ac hA
           refine st_skipF hA (by kernel_rfl) (by kernel_rfl) ?_; clear hA ac; intro ac hA
           refine st_skipF hA (by kernel_rfl) (by kernel_rfl) ?_; clear hA ac; intro ac hA
           refine st_rdF (v := Value.bool false) hA (by kernel_rfl) (by kernel_rfl) (by kernel_rfl) (by kernel_rfl) hW.cls (Rd.pure fun _ => by kernel_rfl) ?_; clear hA ac; intro ac hA
           refine st_rdF (v := Value.bool false) hA (by kernel_rfl) (by kernel_rfl) (by kernel_rfl) (by kernel_rfl) hW.cls (Rd.pure fun _ => by kernel_rfl) ?_; clear hA ac; intro ac hA
           refine st_skipF hA (by kernel_rfl) (by kernel_rfl) ?_; clear hA ac; intro ac hA
           refine st_skipF hA (by kernel_rfl) (by kernel_rfl) ?_; clear hA ac; intro ac hA
           refine st_skipF hA (by kernel_rfl) (by kernel_rfl) ?_; clear hA ac; intro ac hA
           refine st_rdF (v := Value.bool false) hA (by kernel_rfl) (by kernel_rfl) (by kernel_rfl) (by kernel_rfl) hW.cls (Rd.pure fun _ => by kernel_rfl) ?_; clear hA ac; intro ac hA
           refine st_rdF (v := Value.bool false) hA (by kernel_rfl) (by kernel_rfl) (by kernel_rfl) (by kernel_rfl) hW.cls (Rd.pure fun _ => by kernel_rfl) ?_; clear hA ac; intro ac hA
           refine st_skipF hA (by kernel_rfl) (by kernel_rfl) ?_; clear hA ac; intro ac hA
           refine st_skipF hA (by kernel_rfl) (by kernel_rfl) ?_; clear hA ac; intro ac hA
           refine st_rdF (v := Value.bool false) hA (by kernel_rfl) (by kernel_rfl) (by kernel_rfl) (by kernel_rfl) hW.cls (Rd.pure fun _ => by kernel_rfl) ?_; clear hA ac; intro ac hA
           refine st_rdF (v := Value.bool false) hA (by kernel_rfl) (by kernel_rfl) (by kernel_rfl) (by kernel_rfl) hW.cls (Rd.pure fun _ => by kernel_rfl) ?_; clear hA ac; intro ac hA
           refine st_skipF hA (by kernel_rfl) (by kernel_rfl) ?_; clear hA ac; intro ac hA
           refine st_skipF hA (by kernel_rfl) (by kernel_rfl) ?_; clear hA ac; intro ac hA
           refine st_skipF hA (by kernel_rfl) (by kernel_rfl) ?_; clear hA ac; intro ac hA
           refine st_skipF hA (by kernel_rfl) (by kernel_rfl) ?_; clear hA ac; intro ac hA
           refine st_rdF (v := Value.bool false) hA (by kernel_rfl) (by kernel_rfl) (by kernel_rfl) (by kernel_rfl) hW.cls (Rd.pure fun _ => by kernel_rfl) ?_; clear hA ac; intro ac hA
           refine st_rdF (v := Value.bool false) hA (by kernel_rfl) (by kernel_rfl) (by kernel_rfl) (by kernel_rfl) hW.cls (Rd.pure fun _ => by kernel_rfl) ?_; clear hA ac; intro ac hA
           refine st_skipF hA (by kernel_rfl) (by kernel_rfl) ?_; clear hA ac; intro ac hA
           refine st_rdF (v := Value.bool false) hA (by kernel_rfl) (by kernel_rfl) (by kernel_rfl) (by kernel_rfl) hW.cls (Rd.pure fun _ => by kernel_rfl) ?_; clear hA ac; intro ac hA
           refine stF hA (by kernel_rfl) (by kernel_rfl) (by kernel_rfl) (by kernel_rfl) (RunsF.of (Runs.store (v := Value.bool false) (b := b1) (j := 0) (n := 1) (cs' := #[Value.bool false]) (H' := [DefR D12, Cel b4 #[Value.map none] 54, Cel b1 #[Value.bool false] 4]) (by kernel_rfl) (by kernel_rfl) (by kernel_rfl) (by kernel_rfl) (by kernel_rfl) hW 2 (by rfl) (Nat.le_of_ble_eq_true (by kernel_rfl)) (by kernel_rfl) (by rfl) ?_)); clear hA ac hW; intro w34 hW ac hA
           refine wpListIn_nil ?_
           refine thenN ?_
           refine wpIn_ret ?_
           refine retF (.inl rfl) hA ?_
           refine leaveD (H' := [Cel b4 #[Value.map none] 54, Cel b1 #[Value.bool false] 4]) hW 0 rfl rfl ?_; clear hW; intro w35 hW
           refine leave1 (v := Value.bool false) (by rfl) (GotF.cell (b := b1) (i := 0) hA (by kernel_rfl) (by kernel_rfl) (hW.cel 1 rfl) (by kernel_rfl)) ?_
           clear hA
           exact ⟨retv (by rfl), hW.fr⟩)
     · skip
       clear hA ac hW; intro D36 c_ pre_ Hk_ w37 ac hJ_ hA hW
       exact hJ_.elim)
 · skip
   first
   | (exfalso; clear hA hW; omega)
   | (exfalso; clear hA hW; exact h3 rfl; done)
   | (
     refine wpIn_skip ?_
     refine thenN ?_
     refine wpIn_seq ?_
     refine wpIn_region_lit ?_
     refine st_rdF (v := Value.pointer none) hA (by kernel_rfl) (by kernel_rfl) (by kernel_rfl) (by kernel_rfl) hW.cls (Rd.pure fun _ => by kernel_rfl) ?_; clear hA ac; intro ac hA
     refine st_rdF (v := Value.int .u32 addr) hA (by kernel_rfl) (by kernel_rfl) (by kernel_rfl) (by kernel_rfl) hW.cls (Rd.pure fun _ => by kernel_rfl) ?_; clear hA ac; intro ac hA
     refine stF hA (by kernel_rfl) (by kernel_rfl) (by kernel_rfl) (by kernel_rfl) (RunsF.of (Runs.call (fun _ => by kernel_rfl) (e_mfrom_nil (addr) w2) ?_))
     rintro _ w38 ⟨lb39, g40, rfl, hIg40, hfg40, hfw38⟩; refine ⟨_, rfl, ?_⟩; have hW0 := hW; have hW := hW0.call hfw38; have hW := hW0.addFromAt hW hfg40 in_nil; clear hW0 hA ac; intro ac hA
     refine st_rdF (v := Value.func (.func 35) #[] lb39) hA (by kernel_rfl) (by kernel_rfl) (by kernel_rfl) (by kernel_rfl) hW.cls (Rd.pure fun _ => by kernel_rfl) ?_; clear hA ac; intro ac hA
     refine wpListIn_nil ?_
     refine thenN ?_
     refine wpIn_seq ?_
     refine wpIn_seq ?_
     refine wpIn_region_lit ?_
     refine st_rdF (v := Value.func (.func 35) #[] lb39) hA (by kernel_rfl) (by kernel_rfl) (by kernel_rfl) (by kernel_rfl) hW.cls (Rd.pure fun _ => by kernel_rfl) ?_; clear hA ac; intro ac hA
     refine st_rdF (v := Value.bool false) hA (by kernel_rfl) (by kernel_rfl) (by kernel_rfl) (by kernel_rfl) hW.cls (Rd.pure fun _ => by kernel_rfl) ?_; clear hA ac; intro ac hA
     refine wpListIn_nil ?_
     refine thenN ?_
     refine wpIn_cond_false (hA.eval (by kernel_rfl)) ?_
     refine wpIn_skip ?_
     refine thenN ?_
     refine wpIn_seq ?_
     refine wpIn_seq ?_
     refine wpIn_region_lit ?_
     refine st_rdF (v := Value.func (.func 35) #[] lb39) hA (by kernel_rfl) (by kernel_rfl) (by kernel_rfl) (by kernel_rfl) hW.cls (Rd.pure fun _ => by kernel_rfl) ?_; clear hA ac; intro ac hA
     refine wpListIn_nil ?_
     refine thenN ?_
     refine wpIn_block ?_
     refine wp_range (encs := (fun x_ : Cell6 => #[Value.int .u32 x_.addr, Value.int .u32 x_.word])) (Sx := (· = ([] : List Cell6))) hA (by kernel_rfl) (by kernel_rfl) (enters_of Try.func35 (by kernel_rfl) rfl) (by kernel_rfl) (fun _ => rfl) hIg40 (List.forall_mem_singleton.2 (List.mem_of_getElem? (i := 0) rfl)) (fun pre_ H_ => ∃ k : Nat, pre_ = ([] : List Cell6).take k ∧ k ≤ ([] : List Cell6).length ∧ H_ = []) (fun _ _ _ => False) (H := []) (K := [Cel b1 #[Value.bool false] 4]) (hW.pick [0] (by decide) rfl) ⟨0, rfl, Nat.zero_le _, rfl⟩ ?_ ?_ ?_
     · skip
       clear hA ac hW; intro l_41 rd_41 bs_41 pre_ x_ Hk_ w42 T_41 ac hrd_41 hbs_41 hbr_41 hok_ hJ_ hA hW hB_41 hT_41
       obtain ⟨k, rfl, hk_, rfl⟩ := hJ_
       obtain ⟨y43, h_⟩ : ∃ y_, y_ = x_ := ⟨_, rfl⟩; subst h_; obtain ⟨hy43, hlty43, hsny43⟩ := comes_list hok_ hk_
       replace hA : Fm 63 [] [(0, Value.int .u32 addr), (1, Value.bool zero), (4, Value.pointer (some ⟨b1, 0, none⟩)), (5, Value.pointer none), (6, Value.func (.func 35) #[] lb39), (7, Value.bool zero), (10, Value.pointer none), (11, Value.int .u32 addr), (12, Value.func (.func 35) #[] lb39), (13, Value.func (.func 35) #[] lb39), (14, Value.bool false), (15, Value.func (.func 35) #[] lb39), (16, Value.int .u32 y43.addr), (17, Value.int .u32 y43.word)] ac := hA.sub ⟨⟨by kernel_rfl, by kernel_rfl⟩, ⟨by kernel_rfl, by kernel_rfl⟩, ⟨by kernel_rfl, by kernel_rfl⟩, ⟨by kernel_rfl, by kernel_rfl⟩, ⟨by kernel_rfl, by kernel_rfl⟩, ⟨by kernel_rfl, by kernel_rfl⟩, ⟨by kernel_rfl, by kernel_rfl⟩, ⟨by kernel_rfl, by kernel_rfl⟩, ⟨by kernel_rfl, by kernel_rfl⟩, ⟨by kernel_rfl, by kernel_rfl⟩, ⟨by kernel_rfl, by kernel_rfl⟩, ⟨by kernel_rfl, by kernel_rfl⟩, ⟨by kernel_rfl, by kernel_rfl⟩, ⟨by kernel_rfl, by kernel_rfl⟩, trivial⟩
       simp at hy43
     · skip
       clear hA ac hW; intro D44 xs_ Hk_ w45 ac hS_ hJ_ hA hW
       obtain ⟨k, hpre_, hk_, rfl⟩ := hJ_
       clear hpre_ hS_ hk_
       replace hW : Ws w No [DefR D44, Cel b1 #[Value.bool false] 4] [g40] w45 := hW
       refine blkN ?_
       refine thenN ?_
       refine wpIn_seq ?_
       refine wpIn_region_lit ?_
       refine st_rdF (v := Value.pointer none) hA (by kernel_rfl) (by kernel_rfl) (by kernel_rfl) (by kernel_rfl) hW.cls (Rd.pure fun _ => by kernel_rfl) ?_; clear hA ac; intro ac hA
       refine stF hA (by kernel_rfl) (by kernel_rfl) (by kernel_rfl) (by kernel_rfl) (RunsF.of (Runs.callN (v := Value.int .i64 1) (fun _ => by kernel_rfl) hW (e_mstore_nil w45) ?_)); clear hA ac hW; intro w46 hW hfw46 ac hA
       refine stF hA (by kernel_rfl) (by kernel_rfl) (by kernel_rfl) (by kernel_rfl) (RunsF.of (Runs.callS (v := Value.int .i64 (1)) (fun _ => by kernel_rfl) (e_num06 (1) w46) ?_)); clear hA ac; intro  ac hA
       refine st_rdF (v := Value.bool (((1) : Int) == (1 : Int))) hA (by kernel_rfl) (by kernel_rfl) (by kernel_rfl) (by kernel_rfl) hW.cls (Rd.pure fun _ => by kernel_rfl) ?_; clear hA ac; intro ac hA
       refine st_rdF (v := Value.bool (((1) : Int) == (1 : Int))) hA (by kernel_rfl) (by kernel_rfl) (by kernel_rfl) (by kernel_rfl) hW.cls (Rd.pure fun _ => by kernel_rfl) ?_; clear hA ac; intro ac hA
       rcases Bool.eq_false_or_eq_true (((1) : Int) == (1 : Int)) with h47 | h47
       · skip
         rw [h47] at hA
         have h47 := eq_of_beq h47
         first
         | (exfalso; clear hA hW; omega)
         | (exfalso; clear hA hW; exact h47 rfl; done)
         | (
           refine st_rdF (v := Value.pointer none) hA (by kernel_rfl) (by kernel_rfl) (by kernel_rfl) (by kernel_rfl) hW.cls (Rd.pure fun _ => by kernel_rfl) ?_; clear hA ac; intro ac hA
           refine st_rdF (v := Value.int .u32 addr) hA (by kernel_rfl) (by kernel_rfl) (by kernel_rfl) (by kernel_rfl) hW.cls (Rd.pure fun _ => by kernel_rfl) ?_; clear hA ac; intro ac hA
           refine stF hA (by kernel_rfl) (by kernel_rfl) (by kernel_rfl) (by kernel_rfl) (RunsF.of (Runs.callN (v := Value.int .u32 0) (fun _ => by kernel_rfl) hW (e_mload_nil (addr) w46) ?_)); clear hA ac hW; intro w48 hW hfw48 ac hA
           refine st_rdF (v := Value.bool true) hA (by kernel_rfl) (by kernel_rfl) (by kernel_rfl) (by kernel_rfl) hW.cls (Rd.pure fun _ => by kernel_rfl) ?_; clear hA ac; intro ac hA
           refine st_rdF (v := Value.bool true) hA (by kernel_rfl) (by kernel_rfl) (by kernel_rfl) (by kernel_rfl) hW.cls (Rd.pure fun _ => by kernel_rfl) ?_; clear hA ac; intro ac hA
           refine st_rdF (v := Value.bool true) hA (by kernel_rfl) (by kernel_rfl) (by kernel_rfl) (by kernel_rfl) hW.cls (Rd.pure fun _ => by kernel_rfl) ?_; clear hA ac; intro ac hA
           refine st_rdF (v := Value.pointer none) hA (by kernel_rfl) (by kernel_rfl) (by kernel_rfl) (by kernel_rfl) hW.cls (Rd.pure fun _ => by kernel_rfl) ?_; clear hA ac; intro ac hA
           refine stF hA (by kernel_rfl) (by kernel_rfl) (by kernel_rfl) (by kernel_rfl) (RunsF.of (Runs.callN (v := Value.int .i64 0) (fun _ => by kernel_rfl) hW (e_mlen_nil w48) ?_)); clear hA ac hW; intro w49 hW hfw49 ac hA
           refine st_rdF (v := Value.bool true) hA (by kernel_rfl) (by kernel_rfl) (by kernel_rfl) (by kernel_rfl) hW.cls (Rd.pure fun _ => by kernel_rfl) ?_; clear hA ac; intro ac hA
           refine st_rdF (v := Value.bool true) hA (by kernel_rfl) (by kernel_rfl) (by kernel_rfl) (by kernel_rfl) hW.cls (Rd.pure fun _ => by kernel_rfl) ?_; clear hA ac; intro ac hA
           refine st_rdF (v := Value.bool true) hA (by kernel_rfl) (by kernel_rfl) (by kernel_rfl) (by kernel_rfl) hW.cls (Rd.pure fun _ => by kernel_rfl) ?_; clear hA ac; intro ac hA
           refine st_rdF (v := Value.pointer none) hA (by kernel_rfl) (by kernel_rfl) (by kernel_rfl) (by kernel_rfl) hW.cls (Rd.pure fun _ => by kernel_rfl) ?_; clear hA ac; intro ac hA
           refine stF hA (by kernel_rfl) (by kernel_rfl) (by kernel_rfl) (by kernel_rfl) (RunsF.of (Runs.callN (v := Value.slice none 0 0) (fun _ => by kernel_rfl) hW (e_mpages_nil w49) ?_)); clear hA ac hW; intro w50 hW hfw50 ac hA
           refine st_rdF (v := Value.int .i64 0) hA (by kernel_rfl) (by kernel_rfl) (by kernel_rfl) (by kernel_rfl) hW.cls (Rd.pure fun _ => by kernel_rfl) ?_; clear hA ac; intro ac hA
           refine st_rdF (v := Value.bool true) hA (by kernel_rfl) (by kernel_rfl) (by kernel_rfl) (by kernel_rfl) hW.cls (Rd.pure fun _ => by kernel_rfl) ?_; clear hA ac; intro ac hA
           refine st_rdF (v := Value.bool true) hA (by kernel_rfl) (by kernel_rfl) (by kernel_rfl) (by kernel_rfl) hW.cls (Rd.pure fun _ => by kernel_rfl) ?_; clear hA ac; intro ac hA
           refine st_rdF (v := Value.bool true) hA (by kernel_rfl) (by kernel_rfl) (by kernel_rfl) (by kernel_rfl) hW.cls (Rd.pure fun _ => by kernel_rfl) ?_; clear hA ac; intro ac hA
           refine st_rdF (v := Value.pointer none) hA (by kernel_rfl) (by kernel_rfl) (by kernel_rfl) (by kernel_rfl) hW.cls (Rd.pure fun _ => by kernel_rfl) ?_; clear hA ac; intro ac hA
           refine stF hA (by kernel_rfl) (by kernel_rfl) (by kernel_rfl) (by kernel_rfl) (RunsF.of (Runs.callN (v := Value.int .u64 (sumM ([] : List Int))) (fun _ => by kernel_rfl) hW (e_mdig_nil w50) ?_)); clear hA ac hW; intro w51 hW hfw51 ac hA
           refine stF hA (by kernel_rfl) (by kernel_rfl) (by kernel_rfl) (by kernel_rfl) (RunsF.of (Runs.callN (v := Value.int .u64 (sumM ([] : List Int))) (fun _ => by kernel_rfl) hW (e_of02 none 0 ([] : List Int) w51 (RowAt.nil' _ _) (by first | assumption | omega | (simp; omega) | simp) (by first | assumption | omega | (simp; done)) (by first | assumption | omega | (simp; done))) ?_)); clear hA ac hW; intro w52 hW hfw52 ac hA
           refine st_rdF (v := Value.bool ((sumM ([] : List Int) : Int) == (sumM ([] : List Int) : Int))) hA (by kernel_rfl) (by kernel_rfl) (by kernel_rfl) (by kernel_rfl) hW.cls (Rd.pure fun _ => by kernel_rfl) ?_; clear hA ac; intro ac hA
           refine st_rdF (v := Value.bool ((sumM ([] : List Int) : Int) == (sumM ([] : List Int) : Int))) hA (by kernel_rfl) (by kernel_rfl) (by kernel_rfl) (by kernel_rfl) hW.cls (Rd.pure fun _ => by kernel_rfl) ?_; clear hA ac; intro ac hA
           refine st_rdF (v := Value.bool ((sumM ([] : List Int) : Int) == (sumM ([] : List Int) : Int))) hA (by kernel_rfl) (by kernel_rfl) (by kernel_rfl) (by kernel_rfl) hW.cls (Rd.pure fun _ => by kernel_rfl) ?_; clear hA ac; intro ac hA
           rcases Bool.eq_false_or_eq_true ((sumM ([] : List Int) : Int) == (sumM ([] : List Int) : Int)) with h53 | h53
           · skip
             rw [h53] at hA
             have h53 := eq_of_beq h53
             first
             | (exfalso; clear hA hW; omega)
             | (exfalso; clear hA hW; exact h53 rfl; done)
             | (
               refine st_rdF (v := Value.pointer none) hA (by kernel_rfl) (by kernel_rfl) (by kernel_rfl) (by kernel_rfl) hW.cls (Rd.pure fun _ => by kernel_rfl) ?_; clear hA ac; intro ac hA
               refine stF hA (by kernel_rfl) (by kernel_rfl) (by kernel_rfl) (by kernel_rfl) (RunsF.of (Runs.callN (v := Value.pointer none) (fun _ => by kernel_rfl) hW (e_mcopy_nil w52) ?_)); clear hA ac hW; intro w54 hW hfw54 ac hA
               refine st_rdF (v := Value.bool true) hA (by kernel_rfl) (by kernel_rfl) (by kernel_rfl) (by kernel_rfl) hW.cls (Rd.pure fun _ => by kernel_rfl) ?_; clear hA ac; intro ac hA
               refine st_rdF (v := Value.bool true) hA (by kernel_rfl) (by kernel_rfl) (by kernel_rfl) (by kernel_rfl) hW.cls (Rd.pure fun _ => by kernel_rfl) ?_; clear hA ac; intro ac hA
               refine st_rdF (v := Value.bool true) hA (by kernel_rfl) (by kernel_rfl) (by kernel_rfl) (by kernel_rfl) hW.cls (Rd.pure fun _ => by kernel_rfl) ?_; clear hA ac; intro ac hA
               refine st_rdF (v := Value.pointer none) hA (by kernel_rfl) (by kernel_rfl) (by kernel_rfl) (by kernel_rfl) hW.cls (Rd.pure fun _ => by kernel_rfl) ?_; clear hA ac; intro ac hA
               refine stF hA (by kernel_rfl) (by kernel_rfl) (by kernel_rfl) (by kernel_rfl) (RunsF.of (Runs.callN (v := Value.bool true) (fun _ => by kernel_rfl) hW (e_msame_nil w54) ?_)); clear hA ac hW; intro w55 hW hfw55 ac hA
               refine st_rdF (v := Value.bool true) hA (by kernel_rfl) (by kernel_rfl) (by kernel_rfl) (by kernel_rfl) hW.cls (Rd.pure fun _ => by kernel_rfl) ?_; clear hA ac; intro ac hA
               refine st_rdF (v := Value.bool true) hA (by kernel_rfl) (by kernel_rfl) (by kernel_rfl) (by kernel_rfl) hW.cls (Rd.pure fun _ => by kernel_rfl) ?_; clear hA ac; intro ac hA
               refine stF hA (by kernel_rfl) (by kernel_rfl) (by kernel_rfl) (by kernel_rfl) (RunsF.of (Runs.call (fun _ => by kernel_rfl) (e_mnew w55) ?_))
               rintro _ w56 ⟨n57, n58, rfl, hu_⟩; refine ⟨_, rfl, ?_⟩; replace hW := hW.made hu_; clear hA ac; intro ac hA
               have hq59 : Rel06 0 ([] : List Cell6) ([] : List (Int × Nat × (Nat → Int))) := Rel06.start
               refine st_rdF (v := Value.pointer none) hA (by kernel_rfl) (by kernel_rfl) (by kernel_rfl) (by kernel_rfl) hW.cls (Rd.pure fun _ => by kernel_rfl) ?_; clear hA ac; intro ac hA
               refine stF hA (by kernel_rfl) (by kernel_rfl) (by kernel_rfl) (by kernel_rfl) (RunsF.of (Runs.callN (v := Value.bool false) (fun _ => by kernel_rfl) hW (e_msame_onil n57 n58 ([] : List (Int × Nat × (Nat → Int))) w56 ((hW).get 0 rfl) ((hW).lt _ (List.mem_of_getElem? (i := 0) rfl))) ?_)); clear hA ac hW; intro w60 hW hfw60 ac hA
               refine st_rdF (v := Value.bool true) hA (by kernel_rfl) (by kernel_rfl) (by kernel_rfl) (by kernel_rfl) hW.cls (Rd.pure fun _ => by kernel_rfl) ?_; clear hA ac; intro ac hA
               refine st_rdF (v := Value.bool true) hA (by kernel_rfl) (by kernel_rfl) (by kernel_rfl) (by kernel_rfl) hW.cls (Rd.pure fun _ => by kernel_rfl) ?_; clear hA ac; intro ac hA
               refine st_rdF (v := Value.bool true) hA (by kernel_rfl) (by kernel_rfl) (by kernel_rfl) (by kernel_rfl) hW.cls (Rd.pure fun _ => by kernel_rfl) ?_; clear hA ac; intro ac hA
               refine stF hA (by kernel_rfl) (by kernel_rfl) (by kernel_rfl) (by kernel_rfl) (RunsF.of (Runs.callN (v := Value.bool true) (fun _ => by kernel_rfl) hW (e_works06 w60) ?_)); clear hA ac hW; intro w61 hW hfw61 ac hA
               refine st_rdF (v := Value.bool true) hA (by kernel_rfl) (by kernel_rfl) (by kernel_rfl) (by kernel_rfl) hW.cls (Rd.pure fun _ => by kernel_rfl) ?_; clear hA ac; intro ac hA
               refine stF hA (by kernel_rfl) (by kernel_rfl) (by kernel_rfl) (by kernel_rfl) (RunsF.of (Runs.store (v := Value.bool true) (b := b1) (j := 0) (n := 1) (cs' := #[Value.bool true]) (H' := [MemR n57 n58 ([] : List (Int × Nat × (Nat → Int))), DefR D44, Cel b1 #[Value.bool true] 4]) (by kernel_rfl) (by kernel_rfl) (by kernel_rfl) (by kernel_rfl) (by kernel_rfl) hW 2 (by rfl) (Nat.le_of_ble_eq_true (by kernel_rfl)) (by kernel_rfl) (by rfl) ?_)); clear hA ac hW; intro w62 hW ac hA
               refine wpListIn_nil ?_
               refine thenN ?_
               refine wpIn_ret ?_
               refine retF (.inl rfl) hA ?_
               refine leaveD (H' := [MemR n57 n58 ([] : List (Int × Nat × (Nat → Int))), Cel b1 #[Value.bool true] 4]) hW 1 rfl rfl ?_; clear hW; intro w63 hW
               refine leave1 (v := Value.bool true) (by rfl) (GotF.cell (b := b1) (i := 0) hA (by kernel_rfl) (by kernel_rfl) (hW.cel 1 rfl) (by kernel_rfl)) ?_
               clear hA
               exact ⟨retv (by rfl), hW.fr⟩)
           · skip
             rw [h53] at hA
             have h53 := ne_of_beq_false h53
             first
             | (exfalso; clear hA hW; omega)
             | (exfalso; clear hA hW; exact h53 rfl; done)
             | (
               refine st_skipF hA (by kernel_rfl) (by kernel_rfl) ?_; clear hA ac; intro ac hA
               refine st_skipF hA (by kernel_rfl) (by kernel_rfl) ?_; clear hA ac; intro ac hA
               refine st_skipF hA (by kernel_rfl) (by kernel_rfl) ?_; clear hA ac; intro ac hA
               refine st_rdF (v := Value.bool false) hA (by kernel_rfl) (by kernel_rfl) (by kernel_rfl) (by kernel_rfl) hW.cls (Rd.pure fun _ => by kernel_rfl) ?_; clear hA ac; intro ac hA
               refine st_rdF (v := Value.bool false) hA (by kernel_rfl) (by kernel_rfl) (by kernel_rfl) (by kernel_rfl) hW.cls (Rd.pure fun _ => by kernel_rfl) ?_; clear hA ac; intro ac hA
               refine st_skipF hA (by kernel_rfl) (by kernel_rfl) ?_; clear hA ac; intro ac hA
               refine st_skipF hA (by kernel_rfl) (by kernel_rfl) ?_; clear hA ac; intro ac hA
               refine st_rdF (v := Value.bool false) hA (by kernel_rfl) (by kernel_rfl) (by kernel_rfl) (by kernel_rfl) hW.cls (Rd.pure fun _ => by kernel_rfl) ?_; clear hA ac; intro ac hA
               refine st_rdF (v := Value.bool false) hA (by kernel_rfl) (by kernel_rfl) (by kernel_rfl) (by kernel_rfl) hW.cls (Rd.pure fun _ => by kernel_rfl) ?_; clear hA ac; intro ac hA
               refine st_skipF hA (by kernel_rfl) (by kernel_rfl) ?_; clear hA ac; intro ac hA
               refine st_skipF hA (by kernel_rfl) (by kernel_rfl) ?_; clear hA ac; intro ac hA
               refine st_skipF hA (by kernel_rfl) (by kernel_rfl) ?_; clear hA ac; intro ac hA
               refine st_skipF hA (by kernel_rfl) (by kernel_rfl) ?_; clear hA ac; intro ac hA
               refine st_rdF (v := Value.bool false) hA (by kernel_rfl) (by kernel_rfl) (by kernel_rfl) (by kernel_rfl) hW.cls (Rd.pure fun _ => by kernel_rfl) ?_; clear hA ac; intro ac hA
               refine st_rdF (v := Value.bool false) hA (by kernel_rfl) (by kernel_rfl) (by kernel_rfl) (by kernel_rfl) hW.cls (Rd.pure fun _ => by kernel_rfl) ?_; clear hA ac; intro ac hA
               refine st_skipF hA (by kernel_rfl) (by kernel_rfl) ?_; clear hA ac; intro ac hA
               refine st_rdF (v := Value.bool false) hA (by kernel_rfl) (by kernel_rfl) (by kernel_rfl) (by kernel_rfl) hW.cls (Rd.pure fun _ => by kernel_rfl) ?_; clear hA ac; intro ac hA
               refine stF hA (by kernel_rfl) (by kernel_rfl) (by kernel_rfl) (by kernel_rfl) (RunsF.of (Runs.store (v := Value.bool false) (b := b1) (j := 0) (n := 1) (cs' := #[Value.bool false]) (H' := [DefR D44, Cel b1 #[Value.bool false] 4]) (by kernel_rfl) (by kernel_rfl) (by kernel_rfl) (by kernel_rfl) (by kernel_rfl) hW 1 (by rfl) (Nat.le_of_ble_eq_true (by kernel_rfl)) (by kernel_rfl) (by rfl) ?_)); clear hA ac hW; intro w64 hW ac hA
               refine wpListIn_nil ?_
               refine thenN ?_
               refine wpIn_ret ?_
               refine retF (.inl rfl) hA ?_
               refine leaveD (H' := [Cel b1 #[Value.bool false] 4]) hW 0 rfl rfl ?_; clear hW; intro w65 hW
               refine leave1 (v := Value.bool false) (by rfl) (GotF.cell (b := b1) (i := 0) hA (by kernel_rfl) (by kernel_rfl) (hW.cel 0 rfl) (by kernel_rfl)) ?_
               clear hA
               exact ⟨retv (by rfl), hW.fr⟩))
       · skip
         rw [h47] at hA
         have h47 := ne_of_beq_false h47
         first
         | (exfalso; clear hA hW; omega)
         | (exfalso; clear hA hW; exact h47 rfl; done)
         | (
           refine st_skipF hA (by kernel_rfl) (by kernel_rfl) ?_; clear hA ac; intro ac hA
           refine st_skipF hA (by kernel_rfl) (by kernel_rfl) ?_; clear hA ac; intro ac hA
           refine st_skipF hA (by kernel_rfl) (by kernel_rfl) ?_; clear hA ac; intro ac hA
           refine st_skipF hA (by kernel_rfl) (by kernel_rfl) ?_; clear hA ac; intro ac hA
           refine st_rdF (v := Value.bool false) hA (by kernel_rfl) (by kernel_rfl) (by kernel_rfl) (by kernel_rfl) hW.cls (Rd.pure fun _ => by kernel_rfl) ?_; clear hA ac; intro ac hA
           refine st_rdF (v := Value.bool false) hA (by kernel_rfl) (by kernel_rfl) (by kernel_rfl) (by kernel_rfl) hW.cls (Rd.pure fun _ => by kernel_rfl) ?_; clear hA ac; intro ac hA
           refine st_skipF hA (by kernel_rfl) (by kernel_rfl) ?_; clear hA ac; intro ac hA
           refine st_skipF hA (by kernel_rfl) (by kernel_rfl) ?_; clear hA ac; intro ac hA
           refine st_skipF hA (by kernel_rfl) (by kernel_rfl) ?_; clear hA ac; intro ac hA
           refine st_rdF (v := Value.bool false) hA (by kernel_rfl) (by kernel_rfl) (by kernel_rfl) (by kernel_rfl) hW.cls (Rd.pure fun _ => by kernel_rfl) ?_; clear hA ac; intro ac hA
           refine st_rdF (v := Value.bool false) hA (by kernel_rfl) (by kernel_rfl) (by kernel_rfl) (by kernel_rfl) hW.cls (Rd.pure fun _ => by kernel_rfl) ?_; clear hA ac; intro ac hA
           refine st_skipF hA (by kernel_rfl) (by kernel_rfl) ?_; clear hA ac; intro ac hA
           refine st_skipF hA (by kernel_rfl) (by kernel_rfl) ?_; clear hA ac; intro ac hA
           refine st_skipF hA (by kernel_rfl) (by kernel_rfl) ?_; clear hA ac; intro ac hA
           refine st_skipF hA (by kernel_rfl) (by kernel_rfl) ?_; clear hA ac; intro ac hA
           refine st_rdF (v := Value.bool false) hA (by kernel_rfl) (by kernel_rfl) (by kernel_rfl) (by kernel_rfl) hW.cls (Rd.pure fun _ => by kernel_rfl) ?_; clear hA ac; intro ac hA
           refine st_rdF (v := Value.bool false) hA (by kernel_rfl) (by kernel_rfl) (by kernel_rfl) (by kernel_rfl) hW.cls (Rd.pure fun _ => by kernel_rfl) ?_; clear hA ac; intro ac hA
           refine st_skipF hA (by kernel_rfl) (by kernel_rfl) ?_; clear hA ac; intro ac hA
           refine st_skipF hA (by kernel_rfl) (by kernel_rfl) ?_; clear hA ac; intro ac hA
           refine st_skipF hA (by kernel_rfl) (by kernel_rfl) ?_; clear hA ac; intro ac hA
           refine st_skipF hA (by kernel_rfl) (by kernel_rfl) ?_; clear hA ac; intro ac hA
           refine st_rdF (v := Value.bool false) hA (by kernel_rfl) (by kernel_rfl) (by kernel_rfl) (by kernel_rfl) hW.cls (Rd.pure fun _ => by kernel_rfl) ?_; clear hA ac; intro ac hA
           refine st_rdF (v := Value.bool false) hA (by kernel_rfl) (by kernel_rfl) (by kernel_rfl) (by kernel_rfl) hW.cls (Rd.pure fun _ => by kernel_rfl) ?_; clear hA ac; intro ac hA
           refine st_skipF hA (by kernel_rfl) (by kernel_rfl) ?_; clear hA ac; intro ac hA
           refine st_skipF hA (by kernel_rfl) (by kernel_rfl) ?_; clear hA ac; intro ac hA
           refine st_skipF hA (by kernel_rfl) (by kernel_rfl) ?_; clear hA ac; intro ac hA
           refine st_rdF (v := Value.bool false) hA (by kernel_rfl) (by kernel_rfl) (by kernel_rfl) (by kernel_rfl) hW.cls (Rd.pure fun _ => by kernel_rfl) ?_; clear hA ac; intro ac hA
           refine st_rdF (v := Value.bool false) hA (by kernel_rfl) (by kernel_rfl) (by kernel_rfl) (by kernel_rfl) hW.cls (Rd.pure fun _ => by kernel_rfl) ?_; clear hA ac; intro ac hA
           refine st_skipF hA (by kernel_rfl) (by kernel_rfl) ?_; clear hA ac; intro ac hA
           refine st_skipF hA (by kernel_rfl) (by kernel_rfl) ?_; clear hA ac; intro ac hA
           refine st_rdF (v := Value.bool false) hA (by kernel_rfl) (by kernel_rfl) (by kernel_rfl) (by kernel_rfl) hW.cls (Rd.pure fun _ => by kernel_rfl) ?_; clear hA ac; intro ac hA
           refine st_rdF (v := Value.bool false) hA (by kernel_rfl) (by kernel_rfl) (by kernel_rfl) (by kernel_rfl) hW.cls (Rd.pure fun _ => by kernel_rfl) ?_; clear hA ac; intro ac hA
           refine st_skipF hA (by kernel_rfl) (by kernel_rfl) ?_; clear hA ac; intro ac hA
           refine st_skipF hA (by kernel_rfl) (by kernel_rfl) ?_; clear hA ac; intro ac hA
           refine st_skipF hA (by kernel_rfl) (by kernel_rfl) ?_; clear hA ac; intro ac hA
           refine st_skipF hA (by kernel_rfl) (by kernel_rfl) ?_; clear hA ac; intro ac hA
           refine st_rdF (v := Value.bool false) hA (by kernel_rfl) (by kernel_rfl) (by kernel_rfl) (by kernel_rfl) hW.cls (Rd.pure fun _ => by kernel_rfl) ?_; clear hA ac; intro ac hA
           refine st_rdF (v := Value.bool false) hA (by kernel_rfl) (by kernel_rfl) (by kernel_rfl) (by kernel_rfl) hW.cls (Rd.pure fun _ => by kernel_rfl) ?_; clear hA ac; intro ac hA
           refine st_skipF hA (by kernel_rfl) (by kernel_rfl) ?_; clear hA ac; intro ac hA
           refine st_rdF (v := Value.bool false) hA (by kernel_rfl) (by kernel_rfl) (by kernel_rfl) (by kernel_rfl) hW.cls (Rd.pure fun _ => by kernel_rfl) ?_; clear hA ac; intro ac hA
           refine stF hA (by kernel_rfl) (by kernel_rfl) (by kernel_rfl) (by kernel_rfl) (RunsF.of (Runs.store (v := Value.bool false) (b := b1) (j := 0) (n := 1) (cs' := #[Value.bool false]) (H' := [DefR D44, Cel b1 #[Value.bool false] 4]) (by kernel_rfl) (by kernel_rfl) (by kernel_rfl) (by kernel_rfl) (by kernel_rfl) hW 1 (by rfl) (Nat.le_of_ble_eq_true (by kernel_rfl)) (by kernel_rfl) (by rfl) ?_)); clear hA ac hW; intro w66 hW ac hA
           refine wpListIn_nil ?_
           refine thenN ?_
           refine wpIn_ret ?_
           refine retF (.inl rfl) hA ?_
           refine leaveD (H' := [Cel b1 #[Value.bool false] 4]) hW 0 rfl rfl ?_; clear hW; intro w67 hW
           refine leave1 (v := Value.bool false) (by rfl) (GotF.cell (b := b1) (i := 0) hA (by kernel_rfl) (by kernel_rfl) (hW.cel 0 rfl) (by kernel_rfl)) ?_
           clear hA
           exact ⟨retv (by rfl), hW.fr⟩)
     · skip
       clear hA ac hW; intro D68 c_ pre_ Hk_ w69 ac hJ_ hA hW
       exact hJ_.elim)

theorem memnone_walk (addr : Int) (zero : Bool) (w : World) (hw : (Lit.int .u32 addr).wf = true) : Calls Try.prog 7 #[.int .u32 addr, .bool zero] w fun e w' => e = .returned (.bool true) ∧ Fr No w w' := e_none06 addr zero w (by have := wf_u32 hw; omega)
end Go.Proofs.Ytcokpdlmahlpnaa.L
