/- Contracts, walked by program over the engine's laws. -/
import Derived.Test.YtgkhaoogfpnbbaaProg
import Derived.Test.YtgkhaoogfpnbbaaTab27
namespace Go.Proofs.Ytgkhaoogfpnbbaa.L
open Go.RowKit

set_option maxRecDepth 100000 in
theorem e_pnone (p : Nat) (b : Nat) (w : World) (ho_p : w.heap[p]? = some (.cells #[Value.map (some b)] 91 (0, 0))) : Calls Try.prog 49 #[Value.pointer (some ⟨p, 0, none⟩)] w (fun e w' => e = .returned (Value.bool false) ∧ w = w') := by
  have _hu := ho_p; clear _hu
  refine enter_E 12 Try.func49 rfl rfl (by kernel_rfl) (L := [(0, Value.pointer (some ⟨p, 0, none⟩))]) (by kernel_rfl) ?_
  intro ac hA
  have hW := Ws.start w No
  have hW := hW.celG ho_p
  refine wp_seq ?_
  refine wp_region_lit ?_
  refine st_rd (v := Value.bool false) hA (by kernel_rfl) (by kernel_rfl) (by kernel_rfl) hW.cls (Rd.pure fun _ => by kernel_rfl) ?_; clear hA ac; intro ac hA
  refine wpList_nil ?_
  refine thenN ?_
  refine wp_seq ?_
  refine wp_region_lit ?_
  refine st_rd (v := Value.pointer (some ⟨p, 0, none⟩)) hA (by kernel_rfl) (by kernel_rfl) (by kernel_rfl) hW.cls (Rd.pure fun _ => by kernel_rfl) ?_; clear hA ac; intro ac hA
  refine st_rd (v := Value.bool false) hA (by kernel_rfl) (by kernel_rfl) (by kernel_rfl) hW.cls (Rd.pure fun _ => by kernel_rfl) ?_; clear hA ac; intro ac hA
  refine st_rd (v := Value.bool false) hA (by kernel_rfl) (by kernel_rfl) (by kernel_rfl) hW.cls (Rd.pure fun _ => by kernel_rfl) ?_; clear hA ac; intro ac hA
  refine st_rd (v := Value.pointer (some ⟨p, 0, none⟩)) hA (by kernel_rfl) (by kernel_rfl) (by kernel_rfl) hW.cls (Rd.pure fun _ => by kernel_rfl) ?_; clear hA ac; intro ac hA
  refine st_rd (v := Value.pointer (some ⟨p, 0, none⟩)) hA (by kernel_rfl) (by kernel_rfl) (by kernel_rfl) hW.cls (Rd.pure fun _ => by kernel_rfl) ?_; clear hA ac; intro ac hA
  refine st_rd (v := Value.pointer (some ⟨p, 0, none⟩)) hA (by kernel_rfl) (by kernel_rfl) (by kernel_rfl) hW.cls (Rd.pure fun _ => by kernel_rfl) ?_; clear hA ac; intro ac hA
  refine st_rd (v := Value.map (some b)) hA (by kernel_rfl) (by kernel_rfl) (by kernel_rfl) hW.cls (Rd.load (b := p) (i := 0) (by kernel_rfl) (fun _ hw => show _ = _ from (hw.1).getG 0 rfl) (by kernel_rfl)) ?_; clear hA ac; intro ac hA
  refine st_rd (v := Value.bool false) hA (by kernel_rfl) (by kernel_rfl) (by kernel_rfl) hW.cls (Rd.pure fun _ => by kernel_rfl) ?_; clear hA ac; intro ac hA
  refine st_rd (v := Value.bool false) hA (by kernel_rfl) (by kernel_rfl) (by kernel_rfl) hW.cls (Rd.pure fun _ => by kernel_rfl) ?_; clear hA ac; intro ac hA
  refine st_rd (v := Value.bool false) hA (by kernel_rfl) (by kernel_rfl) (by kernel_rfl) hW.cls (Rd.pure fun _ => by kernel_rfl) ?_; clear hA ac; intro ac hA
  refine wpList_nil ?_
  refine thenN ?_
  refine wp_ret ?_
  refine ret1 (v := Value.bool false) (by rfl) hA (Got.tmp hA (by kernel_rfl) (by kernel_rfl)) ?_
  clear hA
  exact ⟨retv (by rfl), rfl⟩

set_option maxRecDepth 100000 in
theorem e_phas (p : Nat) (b : Nat) (m : List (Pair × Int)) (x : Pair) (w : World) (ho_p : (PairsR p b m).p w) (hl_p : ∀ x_ ∈ (PairsR p b m).fp, x_ < w.heap.size) : Calls Try.prog 44 #[Value.pointer (some ⟨p, 0, none⟩), x.v] w (fun e w' => e = .returned (Value.bool (decide ((look m x).getD 0 > 0))) ∧ Fr No w w') := by
  have _hu := ho_p; have _hv := hl_p; clear _hu _hv
  refine enter_E 17 Try.func44 rfl rfl (by kernel_rfl) (L := [(0, Value.pointer (some ⟨p, 0, none⟩)), (1, x.v)]) (by kernel_rfl) ?_
  intro ac hA
  have hW := Ws.start w No
  have hW := hW.objG (L := [Cel p #[Value.map (some b)] 91, mapR b Pair.v (fun a : Int => Value.int .i64 a) m]) ho_p hl_p
  clear ho_p hl_p
  refine wp_seq ?_
  refine wp_region_lit ?_
  refine st hA (by kernel_rfl) (by kernel_rfl) (by kernel_rfl) (Runs.cells (fun b => Value.pointer (some ⟨b, 0, none⟩)) #[Value.int .i64 x.a.f, Value.int .i64 x.a.pc, Value.int .i64 x.b.f, Value.int .i64 x.b.pc] 54 (fun _ => by kernel_rfl) hW ?_); clear hA ac hW; intro b1 w2 hW hb1 hfw2 ac hA
  refine st_rd (v := Value.bool false) hA (by kernel_rfl) (by kernel_rfl) (by kernel_rfl) hW.cls (Rd.pure fun _ => by kernel_rfl) ?_; clear hA ac; intro ac hA
  refine wpList_nil ?_
  refine thenN ?_
  refine wp_seq ?_
  refine q_region (by kernel_rfl) (by kernel_rfl) hW ?_
  refine sq_rd (v := Value.pointer (some ⟨p, 0, none⟩)) hA (by kernel_rfl) (by kernel_rfl) (by kernel_rfl) (Rd.pure fun _ => by kernel_rfl) ?_; clear hA ac; intro ac hA
  refine sq_call (v := Value.bool false) hA (by kernel_rfl) (by kernel_rfl) (by kernel_rfl) (fun _ => by kernel_rfl) (Cls.callSC fun wx hwx => e_pnone p b wx (show _ = _ from (hwx.1).getG 0 rfl)) ?_; clear hA ac; intro ac hA
  refine sq_rd (v := Value.bool true) hA (by kernel_rfl) (by kernel_rfl) (by kernel_rfl) (Rd.pure fun _ => by kernel_rfl) ?_; clear hA ac; intro ac hA
  refine sq_rd (v := Value.bool true) hA (by kernel_rfl) (by kernel_rfl) (by kernel_rfl) (Rd.pure fun _ => by kernel_rfl) ?_; clear hA ac; intro ac hA
  refine sq_rd (v := Value.pointer (some ⟨p, 0, none⟩)) hA (by kernel_rfl) (by kernel_rfl) (by kernel_rfl) (Rd.pure fun _ => by kernel_rfl) ?_; clear hA ac; intro ac hA
  refine sq_rd (v := Value.pointer (some ⟨p, 0, none⟩)) hA (by kernel_rfl) (by kernel_rfl) (by kernel_rfl) (Rd.pure fun _ => by kernel_rfl) ?_; clear hA ac; intro ac hA
  refine sq_rd (v := Value.pointer (some ⟨p, 0, none⟩)) hA (by kernel_rfl) (by kernel_rfl) (by kernel_rfl) (Rd.pure fun _ => by kernel_rfl) ?_; clear hA ac; intro ac hA
  refine sq_rd (v := Value.map (some b)) hA (by kernel_rfl) (by kernel_rfl) (by kernel_rfl) (Rd.load (b := p) (i := 0) (by kernel_rfl) (fun _ hw => show _ = _ from (hw.1).getG 0 rfl) (by kernel_rfl)) ?_; clear hA ac; intro ac hA
  refine sq_rd (v := Value.agg #[Value.int .i64 x.a.f, Value.int .i64 x.a.pc, Value.int .i64 x.b.f, Value.int .i64 x.b.pc]) hA (by kernel_rfl) (by kernel_rfl) (by kernel_rfl) (Rd.load (b := b1) (i := 0) (by kernel_rfl) (fun _ hw => (hw.1).cel 0 rfl) (by kernel_rfl)) ?_; clear hA ac; intro ac hA
  refine sq_rd (v := Value.int .i64 ((look m x).getD 0)) hA (by kernel_rfl) (by kernel_rfl) (by kernel_rfl) ((Rd.lookup (k := 54) (e := 3) (ek := Pair.v) (ev := (fun a : Int => Value.int .i64 a)) (m := m) (z := Value.int .i64 0) x false (by kernel_rfl) (by kernel_rfl) pairKey (by kernel_rfl) (fun _ => by kernel_rfl) (fun _ hw => (hw.1).getG 1 rfl)).cast (by generalize look m x = o_; cases o_ <;> rfl)) ?_; clear hA ac; intro ac hA
  refine sq_rd (v := Value.bool (decide ((((look m x).getD 0) : Int) > (0 : Int)))) hA (by kernel_rfl) (by kernel_rfl) (by kernel_rfl) (Rd.pure fun _ => by kernel_rfl) ?_; clear hA ac; intro ac hA
  refine sq_rd (v := Value.bool (decide ((((look m x).getD 0) : Int) > (0 : Int)))) hA (by kernel_rfl) (by kernel_rfl) (by kernel_rfl) (Rd.pure fun _ => by kernel_rfl) ?_; clear hA ac; intro ac hA
  refine sq_rd (v := Value.bool (decide ((((look m x).getD 0) : Int) > (0 : Int)))) hA (by kernel_rfl) (by kernel_rfl) (by kernel_rfl) (Rd.pure fun _ => by kernel_rfl) ?_; clear hA ac; intro ac hA
  refine sq_nil ?_; intro w3 hww3; have hW := hww3.1; have hfw3 := hww3.2; clear hww3
  refine thenN ?_
  refine wp_ret ?_
  refine ret1 (v := Value.bool (decide ((((look m x).getD 0) : Int) > (0 : Int)))) (by rfl) hA (Got.tmp hA (by kernel_rfl) (by kernel_rfl)) ?_
  clear hA
  exact ⟨retv (by rfl), hW.fr⟩

set_option maxRecDepth 100000 in
theorem e_tnone (t : Nat) (p : Nat) (x1 : Value) (x2 : Value) (x3 : Value) (w : World) (ho_t : w.heap[t]? = some (.cells #[Value.pointer (some ⟨p, 0, none⟩), x1, x2, x3] 61 (0, 0))) : Calls Try.prog 29 #[Value.pointer (some ⟨t, 0, none⟩)] w (fun e w' => e = .returned (Value.bool false) ∧ w = w') := by
  have _hu := ho_t; clear _hu
  refine enter_E 13 Try.func29 rfl rfl (by kernel_rfl) (L := [(0, Value.pointer (some ⟨t, 0, none⟩))]) (by kernel_rfl) ?_
  intro ac hA
  have hW := Ws.start w No
  have hW := hW.celG ho_t
  refine wp_seq ?_
  refine wp_region_lit ?_
  refine st_rd (v := Value.bool false) hA (by kernel_rfl) (by kernel_rfl) (by kernel_rfl) hW.cls (Rd.pure fun _ => by kernel_rfl) ?_; clear hA ac; intro ac hA
  refine wpList_nil ?_
  refine thenN ?_
  refine wp_seq ?_
  refine wp_region_lit ?_
  refine st_rd (v := Value.pointer (some ⟨t, 0, none⟩)) hA (by kernel_rfl) (by kernel_rfl) (by kernel_rfl) hW.cls (Rd.pure fun _ => by kernel_rfl) ?_; clear hA ac; intro ac hA
  refine st_rd (v := Value.bool false) hA (by kernel_rfl) (by kernel_rfl) (by kernel_rfl) hW.cls (Rd.pure fun _ => by kernel_rfl) ?_; clear hA ac; intro ac hA
  refine st_rd (v := Value.bool false) hA (by kernel_rfl) (by kernel_rfl) (by kernel_rfl) hW.cls (Rd.pure fun _ => by kernel_rfl) ?_; clear hA ac; intro ac hA
  refine st_rd (v := Value.pointer (some ⟨t, 0, none⟩)) hA (by kernel_rfl) (by kernel_rfl) (by kernel_rfl) hW.cls (Rd.pure fun _ => by kernel_rfl) ?_; clear hA ac; intro ac hA
  refine st_rd (v := Value.pointer (some ⟨t, 0, none⟩)) hA (by kernel_rfl) (by kernel_rfl) (by kernel_rfl) hW.cls (Rd.pure fun _ => by kernel_rfl) ?_; clear hA ac; intro ac hA
  refine st_rd (v := Value.pointer (some ⟨t, 0, none⟩)) hA (by kernel_rfl) (by kernel_rfl) (by kernel_rfl) hW.cls (Rd.pure fun _ => by kernel_rfl) ?_; clear hA ac; intro ac hA
  refine st_rd (v := Value.pointer (some ⟨t, 0, none⟩)) hA (by kernel_rfl) (by kernel_rfl) (by kernel_rfl) hW.cls (Rd.pure fun _ => by kernel_rfl) ?_; clear hA ac; intro ac hA
  refine st_rd (v := Value.pointer (some ⟨p, 0, none⟩)) hA (by kernel_rfl) (by kernel_rfl) (by kernel_rfl) hW.cls (Rd.load (b := t) (i := 0) (by kernel_rfl) (fun _ hw => show _ = _ from (hw.1).getG 0 rfl) (by kernel_rfl)) ?_; clear hA ac; intro ac hA
  refine st_rd (v := Value.bool false) hA (by kernel_rfl) (by kernel_rfl) (by kernel_rfl) hW.cls (Rd.pure fun _ => by kernel_rfl) ?_; clear hA ac; intro ac hA
  refine st_rd (v := Value.bool false) hA (by kernel_rfl) (by kernel_rfl) (by kernel_rfl) hW.cls (Rd.pure fun _ => by kernel_rfl) ?_; clear hA ac; intro ac hA
  refine st_rd (v := Value.bool false) hA (by kernel_rfl) (by kernel_rfl) (by kernel_rfl) hW.cls (Rd.pure fun _ => by kernel_rfl) ?_; clear hA ac; intro ac hA
  refine wpList_nil ?_
  refine thenN ?_
  refine wp_ret ?_
  refine ret1 (v := Value.bool false) (by rfl) hA (Got.tmp hA (by kernel_rfl) (by kernel_rfl)) ?_
  clear hA
  exact ⟨retv (by rfl), rfl⟩

set_option maxRecDepth 100000 in
theorem e_tlen (t : Nat) (p : Nat) (b : Nat) (A : Option Addr) (c : Nat) (T : Tab) (w : World) (ho_t : (TabR t p b A c T).p w) (hl_t : ∀ x_ ∈ (TabR t p b A c T).fp, x_ < w.heap.size) : Calls Try.prog 20 #[Value.pointer (some ⟨t, 0, none⟩)] w (fun e w' => e = .returned (Value.int .i64 ((T.l.length : Nat) : Int)) ∧ w = w') := by
  have _hu := ho_t; have _hv := hl_t; clear _hu _hv
  refine enter_E 10 Try.func20 rfl rfl (by kernel_rfl) (L := [(0, Value.pointer (some ⟨t, 0, none⟩))]) (by kernel_rfl) ?_
  intro ac hA
  have hW := Ws.start w No
  have hW := hW.objG (L := [Cel t #[Value.pointer (some ⟨p, 0, none⟩), Value.int .i64 T.most, Value.int .i64 T.dropped, Value.slice A T.l.length c] 61, Cel p #[Value.map (some b)] 91, mapR b Pair.v (fun a : Int => Value.int .i64 a) T.m, rowR 43 10 enFlag (Value.slice A T.l.length c) T.l]) ho_t hl_t
  clear ho_t hl_t
  refine wp_seq ?_
  refine wp_region_lit ?_
  refine st_rd (v := Value.int .i64 0) hA (by kernel_rfl) (by kernel_rfl) (by kernel_rfl) hW.cls (Rd.pure fun _ => by kernel_rfl) ?_; clear hA ac; intro ac hA
  refine wpList_nil ?_
  refine thenN ?_
  refine wp_seq ?_
  refine wp_seq ?_
  refine wp_region_lit ?_
  refine st_rd (v := Value.pointer (some ⟨t, 0, none⟩)) hA (by kernel_rfl) (by kernel_rfl) (by kernel_rfl) hW.cls (Rd.pure fun _ => by kernel_rfl) ?_; clear hA ac; intro ac hA
  refine st hA (by kernel_rfl) (by kernel_rfl) (by kernel_rfl) (Runs.callS (v := Value.bool false) (fun _ => by kernel_rfl) (e_tnone t p (Value.int .i64 T.most) (Value.int .i64 T.dropped) (Value.slice A T.l.length c) w (show _ = _ from (hW).getG 0 rfl)) ?_); clear hA ac; intro  ac hA
  refine wpList_nil ?_
  refine thenN ?_
  refine wp_cond_false (hA.eval (by kernel_rfl)) ?_
  refine wp_skip ?_
  refine thenN ?_
  refine wp_seq ?_
  refine wp_region_lit ?_
  refine st_rd (v := Value.pointer (some ⟨t, 0, none⟩)) hA (by kernel_rfl) (by kernel_rfl) (by kernel_rfl) hW.cls (Rd.pure fun _ => by kernel_rfl) ?_; clear hA ac; intro ac hA
  refine st_rd (v := Value.pointer (some ⟨t, 0, none⟩)) hA (by kernel_rfl) (by kernel_rfl) (by kernel_rfl) hW.cls (Rd.pure fun _ => by kernel_rfl) ?_; clear hA ac; intro ac hA
  refine st_rd (v := Value.pointer (some ⟨t, 3, none⟩)) hA (by kernel_rfl) (by kernel_rfl) (by kernel_rfl) hW.cls (Rd.pure fun _ => by kernel_rfl) ?_; clear hA ac; intro ac hA
  refine st_rd (v := Value.slice A T.l.length c) hA (by kernel_rfl) (by kernel_rfl) (by kernel_rfl) hW.cls (Rd.load (b := t) (i := 3) (by kernel_rfl) (fun _ hw => show _ = _ from (hw.1).getG 0 rfl) (by kernel_rfl)) ?_; clear hA ac; intro ac hA
  refine st_rd (v := Value.int .i64 ((T.l.length : Nat) : Int)) hA (by kernel_rfl) (by kernel_rfl) (by kernel_rfl) hW.cls (Rd.pure fun _ => by kernel_rfl) ?_; clear hA ac; intro ac hA
  refine st_rd (v := Value.int .i64 ((T.l.length : Nat) : Int)) hA (by kernel_rfl) (by kernel_rfl) (by kernel_rfl) hW.cls (Rd.pure fun _ => by kernel_rfl) ?_; clear hA ac; intro ac hA
  refine wpList_nil ?_
  refine thenN ?_
  refine wp_ret ?_
  refine ret1 (v := Value.int .i64 ((T.l.length : Nat) : Int)) (by rfl) hA (Got.tmp hA (by kernel_rfl) (by kernel_rfl)) ?_
  clear hA
  exact ⟨retv (by rfl), rfl⟩

set_option maxRecDepth 100000 in
theorem e_tdropped (t : Nat) (p : Nat) (b : Nat) (A : Option Addr) (c : Nat) (T : Tab) (w : World) (ho_t : (TabR t p b A c T).p w) (hl_t : ∀ x_ ∈ (TabR t p b A c T).fp, x_ < w.heap.size) : Calls Try.prog 21 #[Value.pointer (some ⟨t, 0, none⟩)] w (fun e w' => e = .returned (Value.int .i64 T.dropped) ∧ w = w') := by
  have _hu := ho_t; have _hv := hl_t; clear _hu _hv
  refine enter_E 9 Try.func21 rfl rfl (by kernel_rfl) (L := [(0, Value.pointer (some ⟨t, 0, none⟩))]) (by kernel_rfl) ?_
  intro ac hA
  have hW := Ws.start w No
  have hW := hW.objG (L := [Cel t #[Value.pointer (some ⟨p, 0, none⟩), Value.int .i64 T.most, Value.int .i64 T.dropped, Value.slice A T.l.length c] 61, Cel p #[Value.map (some b)] 91, mapR b Pair.v (fun a : Int => Value.int .i64 a) T.m, rowR 43 10 enFlag (Value.slice A T.l.length c) T.l]) ho_t hl_t
  clear ho_t hl_t
  refine wp_seq ?_
  refine wp_region_lit ?_
  refine st_rd (v := Value.int .i64 0) hA (by kernel_rfl) (by kernel_rfl) (by kernel_rfl) hW.cls (Rd.pure fun _ => by kernel_rfl) ?_; clear hA ac; intro ac hA
  refine wpList_nil ?_
  refine thenN ?_
  refine wp_seq ?_
  refine wp_seq ?_
  refine wp_region_lit ?_
  refine st_rd (v := Value.pointer (some ⟨t, 0, none⟩)) hA (by kernel_rfl) (by kernel_rfl) (by kernel_rfl) hW.cls (Rd.pure fun _ => by kernel_rfl) ?_; clear hA ac; intro ac hA
  refine st hA (by kernel_rfl) (by kernel_rfl) (by kernel_rfl) (Runs.callS (v := Value.bool false) (fun _ => by kernel_rfl) (e_tnone t p (Value.int .i64 T.most) (Value.int .i64 T.dropped) (Value.slice A T.l.length c) w (show _ = _ from (hW).getG 0 rfl)) ?_); clear hA ac; intro  ac hA
  refine wpList_nil ?_
  refine thenN ?_
  refine wp_cond_false (hA.eval (by kernel_rfl)) ?_
  refine wp_skip ?_
  refine thenN ?_
  refine wp_seq ?_
  refine wp_region_lit ?_
  refine st_rd (v := Value.pointer (some ⟨t, 0, none⟩)) hA (by kernel_rfl) (by kernel_rfl) (by kernel_rfl) hW.cls (Rd.pure fun _ => by kernel_rfl) ?_; clear hA ac; intro ac hA
  refine st_rd (v := Value.pointer (some ⟨t, 0, none⟩)) hA (by kernel_rfl) (by kernel_rfl) (by kernel_rfl) hW.cls (Rd.pure fun _ => by kernel_rfl) ?_; clear hA ac; intro ac hA
  refine st_rd (v := Value.pointer (some ⟨t, 2, none⟩)) hA (by kernel_rfl) (by kernel_rfl) (by kernel_rfl) hW.cls (Rd.pure fun _ => by kernel_rfl) ?_; clear hA ac; intro ac hA
  refine st_rd (v := Value.int .i64 T.dropped) hA (by kernel_rfl) (by kernel_rfl) (by kernel_rfl) hW.cls (Rd.load (b := t) (i := 2) (by kernel_rfl) (fun _ hw => show _ = _ from (hw.1).getG 0 rfl) (by kernel_rfl)) ?_; clear hA ac; intro ac hA
  refine st_rd (v := Value.int .i64 T.dropped) hA (by kernel_rfl) (by kernel_rfl) (by kernel_rfl) hW.cls (Rd.pure fun _ => by kernel_rfl) ?_; clear hA ac; intro ac hA
  refine wpList_nil ?_
  refine thenN ?_
  refine wp_ret ?_
  refine ret1 (v := Value.int .i64 T.dropped) (by rfl) hA (Got.tmp hA (by kernel_rfl) (by kernel_rfl)) ?_
  clear hA
  exact ⟨retv (by rfl), rfl⟩

set_option maxRecDepth 100000 in
theorem e_thas (t : Nat) (p : Nat) (b : Nat) (A : Option Addr) (c : Nat) (T : Tab) (x : Pair) (w : World) (ho_t : (TabR t p b A c T).p w) (hl_t : ∀ x_ ∈ (TabR t p b A c T).fp, x_ < w.heap.size) : Calls Try.prog 22 #[Value.pointer (some ⟨t, 0, none⟩), x.v] w (fun e w' => e = .returned (Value.bool (decide ((look T.m x).getD 0 > 0))) ∧ Fr No w w') := by
  have _hu := ho_t; have _hv := hl_t; clear _hu _hv
  refine enter_E 17 Try.func22 rfl rfl (by kernel_rfl) (L := [(0, Value.pointer (some ⟨t, 0, none⟩)), (1, x.v)]) (by kernel_rfl) ?_
  intro ac hA
  have hW := Ws.start w No
  have hW := hW.objG (L := [Cel t #[Value.pointer (some ⟨p, 0, none⟩), Value.int .i64 T.most, Value.int .i64 T.dropped, Value.slice A T.l.length c] 61, Cel p #[Value.map (some b)] 91, mapR b Pair.v (fun a : Int => Value.int .i64 a) T.m, rowR 43 10 enFlag (Value.slice A T.l.length c) T.l]) ho_t hl_t
  clear ho_t hl_t
  refine wp_seq ?_
  refine wp_region_lit ?_
  refine st hA (by kernel_rfl) (by kernel_rfl) (by kernel_rfl) (Runs.cells (fun b => Value.pointer (some ⟨b, 0, none⟩)) #[Value.int .i64 x.a.f, Value.int .i64 x.a.pc, Value.int .i64 x.b.f, Value.int .i64 x.b.pc] 54 (fun _ => by kernel_rfl) hW ?_); clear hA ac hW; intro b1 w2 hW hb1 hfw2 ac hA
  refine st_rd (v := Value.bool false) hA (by kernel_rfl) (by kernel_rfl) (by kernel_rfl) hW.cls (Rd.pure fun _ => by kernel_rfl) ?_; clear hA ac; intro ac hA
  refine wpList_nil ?_
  refine thenN ?_
  refine wp_seq ?_
  refine q_region (by kernel_rfl) (by kernel_rfl) hW ?_
  refine sq_rd (v := Value.pointer (some ⟨t, 0, none⟩)) hA (by kernel_rfl) (by kernel_rfl) (by kernel_rfl) (Rd.pure fun _ => by kernel_rfl) ?_; clear hA ac; intro ac hA
  refine sq_call (v := Value.bool false) hA (by kernel_rfl) (by kernel_rfl) (by kernel_rfl) (fun _ => by kernel_rfl) (Cls.callSC fun wx hwx => e_tnone t p (Value.int .i64 T.most) (Value.int .i64 T.dropped) (Value.slice A T.l.length c) wx (show _ = _ from (hwx.1).getG 0 rfl)) ?_; clear hA ac; intro ac hA
  refine sq_rd (v := Value.bool true) hA (by kernel_rfl) (by kernel_rfl) (by kernel_rfl) (Rd.pure fun _ => by kernel_rfl) ?_; clear hA ac; intro ac hA
  refine sq_rd (v := Value.bool true) hA (by kernel_rfl) (by kernel_rfl) (by kernel_rfl) (Rd.pure fun _ => by kernel_rfl) ?_; clear hA ac; intro ac hA
  refine sq_rd (v := Value.pointer (some ⟨t, 0, none⟩)) hA (by kernel_rfl) (by kernel_rfl) (by kernel_rfl) (Rd.pure fun _ => by kernel_rfl) ?_; clear hA ac; intro ac hA
  refine sq_rd (v := Value.pointer (some ⟨t, 0, none⟩)) hA (by kernel_rfl) (by kernel_rfl) (by kernel_rfl) (Rd.pure fun _ => by kernel_rfl) ?_; clear hA ac; intro ac hA
  refine sq_rd (v := Value.pointer (some ⟨t, 0, none⟩)) hA (by kernel_rfl) (by kernel_rfl) (by kernel_rfl) (Rd.pure fun _ => by kernel_rfl) ?_; clear hA ac; intro ac hA
  refine sq_rd (v := Value.pointer (some ⟨t, 0, none⟩)) hA (by kernel_rfl) (by kernel_rfl) (by kernel_rfl) (Rd.pure fun _ => by kernel_rfl) ?_; clear hA ac; intro ac hA
  refine sq_rd (v := Value.pointer (some ⟨p, 0, none⟩)) hA (by kernel_rfl) (by kernel_rfl) (by kernel_rfl) (Rd.load (b := t) (i := 0) (by kernel_rfl) (fun _ hw => show _ = _ from (hw.1).getG 0 rfl) (by kernel_rfl)) ?_; clear hA ac; intro ac hA
  refine sq_rd (v := Value.agg #[Value.int .i64 x.a.f, Value.int .i64 x.a.pc, Value.int .i64 x.b.f, Value.int .i64 x.b.pc]) hA (by kernel_rfl) (by kernel_rfl) (by kernel_rfl) (Rd.load (b := b1) (i := 0) (by kernel_rfl) (fun _ hw => (hw.1).cel 0 rfl) (by kernel_rfl)) ?_; clear hA ac; intro ac hA
  refine sq_call (v := Value.bool (decide ((look T.m x).getD 0 > 0))) hA (by kernel_rfl) (by kernel_rfl) (by kernel_rfl) (fun _ => by kernel_rfl) (Cls.callNC fun wx hwx => e_phas p b T.m x wx (PairsR.mk ((hwx.1).getG 1 rfl) ((hwx.1).getG 2 rfl)).1 (PairsR.mk ((hwx.1).getG 1 rfl) ((hwx.1).getG 2 rfl)).2) ?_; clear hA ac; intro ac hA
  refine sq_rd (v := Value.bool (decide ((look T.m x).getD 0 > 0))) hA (by kernel_rfl) (by kernel_rfl) (by kernel_rfl) (Rd.pure fun _ => by kernel_rfl) ?_; clear hA ac; intro ac hA
  refine sq_rd (v := Value.bool (decide ((look T.m x).getD 0 > 0))) hA (by kernel_rfl) (by kernel_rfl) (by kernel_rfl) (Rd.pure fun _ => by kernel_rfl) ?_; clear hA ac; intro ac hA
  refine sq_nil ?_; intro w3 hww3; have hW := hww3.1; have hfw3 := hww3.2; clear hww3
  refine thenN ?_
  refine wp_ret ?_
  refine ret1 (v := Value.bool (decide ((look T.m x).getD 0 > 0))) (by rfl) hA (Got.tmp hA (by kernel_rfl) (by kernel_rfl)) ?_
  clear hA
  exact ⟨retv (by rfl), hW.fr⟩

set_option maxRecDepth 100000 in
theorem e_clone_Flag (A_l : Option Addr) (c_l : Nat) (l : List Flag) (w : World) (hr_l : RowAt w A_l 10 enFlag l) (hc_l : l.length ≤ c_l) (hl : l.length ≤ 500000) : Calls Try.prog 41 #[Value.slice A_l l.length c_l] w (Fresh 43 10 enFlag l w) := by
  have _hu := hc_l; have _hv := hr_l; clear _hu _hv
  have _hu := hl; clear _hu
  refine enter_E 8 Try.func41 rfl rfl (by kernel_rfl) (L := [(0, Value.slice A_l l.length c_l)]) (by kernel_rfl) ?_
  intro ac hA
  have hW := Ws.start w No
  have hW := hW.arg hr_l
  refine wp_seq ?_
  refine wp_region_lit ?_
  refine st_rd (v := Value.slice none 0 0) hA (by kernel_rfl) (by kernel_rfl) (by kernel_rfl) hW.cls (Rd.pure fun _ => by kernel_rfl) ?_; clear hA ac; intro ac hA
  refine wpList_nil ?_
  refine thenN ?_
  refine wp_seq ?_
  refine wp_seq ?_
  refine wp_region_lit ?_
  refine st_rd (v := Value.slice A_l l.length c_l) hA (by kernel_rfl) (by kernel_rfl) (by kernel_rfl) hW.cls (Rd.pure fun _ => by kernel_rfl) ?_; clear hA ac; intro ac hA
  refine st_rd (v := Value.bool (Option.isNone A_l)) hA (by kernel_rfl) (by kernel_rfl) (by kernel_rfl) hW.cls (Rd.pure fun _ => by cases A_l <;> kernel_rfl) ?_; clear hA ac; intro ac hA
  refine wpList_nil ?_
  refine thenN ?_
  refine wp_cond_split (t := Option.isNone A_l) (hA.eval (by kernel_rfl)) (fun h1 => ?_) (fun h1 => ?_)
  · skip
    obtain rfl : A_l = none := Option.isNone_iff_eq_none.1 h1
    have hnil := row_nil ((hW).getG 0 rfl)
    first
    | (exfalso; clear hA hW; omega)
    | (
        refine wp_seq ?_
        refine wp_region_lit ?_
        refine st_rd (v := Value.slice none 0 0) hA (by kernel_rfl) (by kernel_rfl) (by kernel_rfl) hW.cls (Rd.pure fun _ => by kernel_rfl) ?_; clear hA ac; intro ac hA
        refine wpList_nil ?_
        refine thenN ?_
        refine wp_ret ?_
        refine thenR ?_
        refine ret1 (v := Value.slice none 0 0) (by rfl) hA (Got.tmp hA (by kernel_rfl) (by kernel_rfl)) ?_
        clear hA
        refine ⟨_, rfl, ?_, hW.fr⟩
        rw [hnil]; exact World.ownsRow_nil _ _ _ _)
  · skip
    first
    | (exfalso; clear hA hW; omega)
    | (
        refine wp_skip ?_
        refine thenN ?_
        refine wp_seq ?_
        refine wp_region_lit ?_
        refine st hA (by kernel_rfl) (by kernel_rfl) (by kernel_rfl) (Runs.cells (fun b => Value.slice (some ⟨b, 0, none⟩) 0 0) #[] 43 (fun _ => by kernel_rfl) hW ?_); clear hA ac hW; intro b2 w3 hW hb2 hfw3 ac hA
        refine st_rd (v := Value.slice A_l l.length c_l) hA (by kernel_rfl) (by kernel_rfl) (by kernel_rfl) hW.cls (Rd.pure fun _ => by kernel_rfl) ?_; clear hA ac; intro ac hA
        have hW := hW.celRow (en := enFlag) (H' := [rowR 43 10 enFlag (Value.slice (some ⟨b2, 0, none⟩) ([] : List Flag).length ([] : List Flag).length) ([] : List Flag)]) 0 rfl ([] : List Flag) (by rfl) elt_Flag.len (by decide) rfl
        refine st hA (by kernel_rfl) (by kernel_rfl) (by kernel_rfl) (Runs.appOwn (B := A_l) (k := c_l) (E := 43) (sz := 10) (en := enFlag) (l := ([] : List Flag)) (m := l) (i := 0) (by kernel_rfl) (by kernel_rfl) elt_Flag (by kernel_rfl) hW rfl ((hW).getG 0 rfl) (by first | omega | (simp; done) | (simp; omega)) (by first | omega | (simp; done) | (simp; omega)) ?_); clear hA ac hW; intro A5 c6 w7 hW hcc6 ac hA
        refine st_rd (v := Value.slice A5 (([] : List Flag) ++ l).length c6) hA (by kernel_rfl) (by kernel_rfl) (by kernel_rfl) hW.cls (Rd.pure fun _ => by kernel_rfl) ?_; clear hA ac; intro ac hA
        refine wpList_nil ?_
        refine thenN ?_
        refine wp_ret ?_
        refine ret1 (v := Value.slice A5 (([] : List Flag) ++ l).length c6) (by rfl) hA (Got.tmp hA (by kernel_rfl) (by kernel_rfl)) ?_
        clear hA
        refine ⟨_, rfl, ?_, hW.fr⟩
        exact hW.fresh 0 rfl (fun _ h => h))

set_option maxRecDepth 100000 in
theorem e_reports (t : Nat) (p : Nat) (b : Nat) (A : Option Addr) (c : Nat) (T : Tab) (w : World) (ho_t : (TabR t p b A c T).p w) (hl_t : ∀ x_ ∈ (TabR t p b A c T).fp, x_ < w.heap.size) (hl : T.l.length ≤ 500000) : Calls Try.prog 19 #[Value.pointer (some ⟨t, 0, none⟩)] w (fun e w' => ∃ (lb : Array Value) (g : Res), e = .returned (Value.func (.func 42) #[] lb) ∧ Iter Try.prog 42 lb (fun x_ : Flag × Nat => #[Value.int .i64 ((x_.2 : Nat) : Int), x_.1.v]) (· = T.l.zipIdx) [g] ∧ g.from_ [] w w' ∧ Fr No w w') := by
  have _hu := ho_t; have _hv := hl_t; clear _hu _hv
  have _hu := hl; clear _hu
  refine enter_E 13 Try.func19 rfl rfl (by kernel_rfl) (L := [(0, Value.pointer (some ⟨t, 0, none⟩))]) (by kernel_rfl) ?_
  intro ac hA
  have hW := Ws.start w No
  have hW := hW.objG (L := [Cel t #[Value.pointer (some ⟨p, 0, none⟩), Value.int .i64 T.most, Value.int .i64 T.dropped, Value.slice A T.l.length c] 61, Cel p #[Value.map (some b)] 91, mapR b Pair.v (fun a : Int => Value.int .i64 a) T.m, rowR 43 10 enFlag (Value.slice A T.l.length c) T.l]) ho_t hl_t
  clear ho_t hl_t
  refine wp_seq ?_
  refine wp_region_lit ?_
  refine st_rd (v := Value.nilFunc) hA (by kernel_rfl) (by kernel_rfl) (by kernel_rfl) hW.cls (Rd.pure fun _ => by kernel_rfl) ?_; clear hA ac; intro ac hA
  refine wpList_nil ?_
  refine thenN ?_
  refine wp_seq ?_
  refine wp_region_lit ?_
  refine st hA (by kernel_rfl) (by kernel_rfl) (by kernel_rfl) (Runs.cells (fun b => Value.pointer (some ⟨b, 0, none⟩)) #[Value.slice none 0 0] 22 (fun _ => by kernel_rfl) hW ?_); clear hA ac hW; intro b1 w2 hW hb1 hfw2 ac hA
  refine wpList_nil ?_
  refine thenN ?_
  refine wp_seq ?_
  refine wp_seq ?_
  refine wp_region_lit ?_
  refine st_rd (v := Value.pointer (some ⟨t, 0, none⟩)) hA (by kernel_rfl) (by kernel_rfl) (by kernel_rfl) hW.cls (Rd.pure fun _ => by kernel_rfl) ?_; clear hA ac; intro ac hA
  refine st hA (by kernel_rfl) (by kernel_rfl) (by kernel_rfl) (Runs.callS (v := Value.bool false) (fun _ => by kernel_rfl) (e_tnone t p (Value.int .i64 T.most) (Value.int .i64 T.dropped) (Value.slice A T.l.length c) w2 (show _ = _ from (hW).getG 0 rfl)) ?_); clear hA ac; intro  ac hA
  refine st_rd (v := Value.bool true) hA (by kernel_rfl) (by kernel_rfl) (by kernel_rfl) hW.cls (Rd.pure fun _ => by kernel_rfl) ?_; clear hA ac; intro ac hA
  refine wpList_nil ?_
  refine thenN ?_
  refine wp_cond_true (hA.eval (by kernel_rfl)) ?_
  refine wp_region_lit ?_
  refine st_rd (v := Value.pointer (some ⟨t, 0, none⟩)) hA (by kernel_rfl) (by kernel_rfl) (by kernel_rfl) hW.cls (Rd.pure fun _ => by kernel_rfl) ?_; clear hA ac; intro ac hA
  refine st_rd (v := Value.pointer (some ⟨t, 0, none⟩)) hA (by kernel_rfl) (by kernel_rfl) (by kernel_rfl) hW.cls (Rd.pure fun _ => by kernel_rfl) ?_; clear hA ac; intro ac hA
  refine st_rd (v := Value.pointer (some ⟨t, 3, none⟩)) hA (by kernel_rfl) (by kernel_rfl) (by kernel_rfl) hW.cls (Rd.pure fun _ => by kernel_rfl) ?_; clear hA ac; intro ac hA
  refine st_rd (v := Value.slice A T.l.length c) hA (by kernel_rfl) (by kernel_rfl) (by kernel_rfl) hW.cls (Rd.load (b := t) (i := 3) (by kernel_rfl) (fun _ hw => show _ = _ from (hw.1).getG 0 rfl) (by kernel_rfl)) ?_; clear hA ac; intro ac hA
  refine st hA (by kernel_rfl) (by kernel_rfl) (by kernel_rfl) (Runs.callRow (E := 43) (sz := 10) (en := enFlag) (l := T.l) (fun _ => by kernel_rfl) hW (e_clone_Flag A c T.l w2 (rowR_at (E := 43) ((hW).getG 3 rfl) elt_Flag.len) (own_cap (E := 43) (sz := 10) (en := enFlag) ((hW).getG 3 rfl)) (by first | omega | (simp; done))) ?_); clear hA ac hW; intro A4 c5 w3 hW hcc5 hfw3 ac hA
  refine st hA (by kernel_rfl) (by kernel_rfl) (by kernel_rfl) (Runs.store (v := Value.slice A4 T.l.length c5) (b := b1) (j := 0) (n := 1) (cs' := #[Value.slice A4 T.l.length c5]) (H' := [rowR 43 10 enFlag (Value.slice A4 T.l.length c5) T.l, Cel b1 #[Value.slice A4 T.l.length c5] 22]) (by kernel_rfl) (by kernel_rfl) (by kernel_rfl) (by kernel_rfl) (by kernel_rfl) hW 1 (by rfl) (Nat.le_of_ble_eq_true (by kernel_rfl)) (by kernel_rfl) (by rfl) ?_); clear hA ac hW; intro w7 hW ac hA
  refine wpList_nil ?_
  refine thenN ?_
  refine wp_seq ?_
  refine wp_region_lit ?_
  refine st_rd (v := Value.func (.func 42) #[] #[Value.pointer (some ⟨b1, 0, none⟩)]) hA (by kernel_rfl) (by kernel_rfl) (by kernel_rfl) hW.cls (Rd.pure fun _ => by kernel_rfl) ?_; clear hA ac; intro ac hA
  refine st_rd (v := Value.func (.func 42) #[] #[Value.pointer (some ⟨b1, 0, none⟩)]) hA (by kernel_rfl) (by kernel_rfl) (by kernel_rfl) hW.cls (Rd.pure fun _ => by kernel_rfl) ?_; clear hA ac; intro ac hA
  refine wpList_nil ?_
  refine thenN ?_
  refine wp_ret ?_
  refine ret1 (v := Value.func (.func 42) #[] #[Value.pointer (some ⟨b1, 0, none⟩)]) (by rfl) hA (Got.tmp hA (by kernel_rfl) (by kernel_rfl)) ?_
  clear hA
  exact ⟨_, _, rfl, iter_many (it_42 b1 _ _ T.l (own_cap (hW.get 0 rfl)) (by omega)), from_many (froms_cons (hW.outOwn 1 rfl (fun _ h => h)) (froms_cons (hW.outRow 0 rfl elt_Flag.len (fun _ h => h)) froms_nil)), hW.fr⟩

end Go.Proofs.Ytgkhaoogfpnbbaa.L
