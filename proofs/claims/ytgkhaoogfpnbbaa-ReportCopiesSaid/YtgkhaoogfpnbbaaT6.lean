/- Contracts, walked by program over the engine's laws. -/
import Derived.Test.YtgkhaoogfpnbbaaProg
import Derived.Test.YtgkhaoogfpnbbaaT5
namespace Go.Proofs.Ytgkhaoogfpnbbaa.L
open Go.RowKit

set_option maxRecDepth 100000 in
theorem e_of27f (at_ : Int) (ea : Acc) (la : Acc) (w : World)  : Calls Try.prog 23 #[Value.int .i64 at_, ea.v, la.v] w (fun e w' => e = .returned ((⟨at_, 0, ea, la⟩ : Flag).v) ∧ Fr No w w') := by
  refine enter_E 11 Try.func23 rfl rfl (by kernel_rfl) (L := [(0, Value.int .i64 at_), (1, ea.v), (2, la.v)]) (by kernel_rfl) ?_
  intro ac hA
  have hW := Ws.start w No
  refine wp_seq ?_
  refine wp_region_lit ?_
  refine st hA (by kernel_rfl) (by kernel_rfl) (by kernel_rfl) (Runs.cells (fun b => Value.pointer (some ⟨b, 0, none⟩)) #[Value.int .i64 ea.g, Value.int .i64 ea.s.f, Value.int .i64 ea.s.pc, Value.int .i64 ea.k] 41 (fun _ => by kernel_rfl) hW ?_); clear hA ac hW; intro b1 w2 hW hb1 hfw2 ac hA
  refine st hA (by kernel_rfl) (by kernel_rfl) (by kernel_rfl) (Runs.cells (fun b => Value.pointer (some ⟨b, 0, none⟩)) #[Value.int .i64 la.g, Value.int .i64 la.s.f, Value.int .i64 la.s.pc, Value.int .i64 la.k] 41 (fun _ => by kernel_rfl) hW ?_); clear hA ac hW; intro b3 w4 hW hb3 hfw4 ac hA
  refine st hA (by kernel_rfl) (by kernel_rfl) (by kernel_rfl) (Runs.cells (fun b => Value.pointer (some ⟨b, 0, none⟩)) #[Value.int .i64 0, Value.int .u32 0, Value.int .i64 0, Value.int .i64 0, Value.int .i64 0, Value.int .i64 0, Value.int .i64 0, Value.int .i64 0, Value.int .i64 0, Value.int .i64 0] 43 (fun _ => by kernel_rfl) hW ?_); clear hA ac hW; intro b5 w6 hW hb5 hfw6 ac hA
  refine wpList_nil ?_
  refine thenN ?_
  refine wp_seq ?_
  refine wp_region_lit ?_
  refine st_rd (v := Value.int .i64 at_) hA (by kernel_rfl) (by kernel_rfl) (by kernel_rfl) hW.cls (Rd.pure fun _ => by kernel_rfl) ?_; clear hA ac; intro ac hA
  refine st_rd (v := Value.agg #[Value.int .i64 ea.g, Value.int .i64 ea.s.f, Value.int .i64 ea.s.pc, Value.int .i64 ea.k]) hA (by kernel_rfl) (by kernel_rfl) (by kernel_rfl) hW.cls (Rd.load (b := b1) (i := 0) (by kernel_rfl) (fun _ hw => (hw.1).cel 2 rfl) (by kernel_rfl)) ?_; clear hA ac; intro ac hA
  refine st_rd (v := Value.agg #[Value.int .i64 la.g, Value.int .i64 la.s.f, Value.int .i64 la.s.pc, Value.int .i64 la.k]) hA (by kernel_rfl) (by kernel_rfl) (by kernel_rfl) hW.cls (Rd.load (b := b3) (i := 0) (by kernel_rfl) (fun _ hw => (hw.1).cel 1 rfl) (by kernel_rfl)) ?_; clear hA ac; intro ac hA
  refine st_rd (v := Value.agg #[Value.int .i64 at_, Value.int .u32 0, Value.int .i64 ea.g, Value.int .i64 ea.s.f, Value.int .i64 ea.s.pc, Value.int .i64 ea.k, Value.int .i64 la.g, Value.int .i64 la.s.f, Value.int .i64 la.s.pc, Value.int .i64 la.k]) hA (by kernel_rfl) (by kernel_rfl) (by kernel_rfl) hW.cls (Rd.pure fun _ => by kernel_rfl) ?_; clear hA ac; intro ac hA
  refine st hA (by kernel_rfl) (by kernel_rfl) (by kernel_rfl) (Runs.store (v := Value.agg #[Value.int .i64 at_, Value.int .u32 0, Value.int .i64 ea.g, Value.int .i64 ea.s.f, Value.int .i64 ea.s.pc, Value.int .i64 ea.k, Value.int .i64 la.g, Value.int .i64 la.s.f, Value.int .i64 la.s.pc, Value.int .i64 la.k]) (b := b5) (j := 0) (n := 10) (cs' := #[Value.int .i64 at_, Value.int .u32 0, Value.int .i64 ea.g, Value.int .i64 ea.s.f, Value.int .i64 ea.s.pc, Value.int .i64 ea.k, Value.int .i64 la.g, Value.int .i64 la.s.f, Value.int .i64 la.s.pc, Value.int .i64 la.k]) (H' := [Cel b5 #[Value.int .i64 at_, Value.int .u32 0, Value.int .i64 ea.g, Value.int .i64 ea.s.f, Value.int .i64 ea.s.pc, Value.int .i64 ea.k, Value.int .i64 la.g, Value.int .i64 la.s.f, Value.int .i64 la.s.pc, Value.int .i64 la.k] 43, Cel b3 #[Value.int .i64 la.g, Value.int .i64 la.s.f, Value.int .i64 la.s.pc, Value.int .i64 la.k] 41, Cel b1 #[Value.int .i64 ea.g, Value.int .i64 ea.s.f, Value.int .i64 ea.s.pc, Value.int .i64 ea.k] 41]) (by kernel_rfl) (by kernel_rfl) (by kernel_rfl) (by kernel_rfl) (by kernel_rfl) hW 0 (by rfl) (Nat.le_of_ble_eq_true (by kernel_rfl)) (by kernel_rfl) (by rfl) ?_); clear hA ac hW; intro w7 hW ac hA
  refine wpList_nil ?_
  refine thenN ?_
  refine wp_ret ?_
  refine ret1 (v := Value.agg #[Value.int .i64 at_, Value.int .u32 0, Value.int .i64 ea.g, Value.int .i64 ea.s.f, Value.int .i64 ea.s.pc, Value.int .i64 ea.k, Value.int .i64 la.g, Value.int .i64 la.s.f, Value.int .i64 la.s.pc, Value.int .i64 la.k]) (by rfl) hA (Got.cell (b := b5) (i := 0) hA (by kernel_rfl) (by kernel_rfl) (hW.cel 0 rfl) (by kernel_rfl)) ?_
  clear hA
  exact ⟨retv (by rfl), hW.fr⟩

set_option maxRecDepth 100000 in
theorem e_is27 (t : Nat) (p : Nat) (b : Nat) (A : Option Addr) (c : Nat) (T : Tab) (most : Int) (A_L : Option Addr) (c_L : Nat) (L : List Flag) (A_P : Option Addr) (c_P : Nat) (P : List Pair) (x : Pair) (many : Int) (w : World) (ho_t : (TabR t p b A c T).p w) (hl_t : ∀ x_ ∈ (TabR t p b A c T).fp, x_ < w.heap.size) (hr_L : RowAt w A_L 10 enFlag L) (hc_L : L.length ≤ c_L) (hr_P : RowAt w A_P 4 enPair P) (hc_P : P.length ≤ c_P) (hG : Agree ⟨most, L, P⟩ T) (hl : T.l.length ≤ 1000) (hL : L.length ≤ 1000) (hP : P.length ≤ 1000) : Calls Try.prog 17 #[Value.pointer (some ⟨t, 0, none⟩), Value.agg #[Value.int .i64 most, Value.slice A_L L.length c_L, Value.slice A_P P.length c_P], x.v, Value.int .i64 many] w (fun e w' => e = .returned (Value.bool true) ∧ Fr No w w') := by
  have _hu := hc_L; have _hv := hr_L; clear _hu _hv
  have _hu := hc_P; have _hv := hr_P; clear _hu _hv
  have _hu := ho_t; have _hv := hl_t; clear _hu _hv
  have _hu := hG; clear _hu
  have _hu := hl; clear _hu
  have _hu := hL; clear _hu
  have _hu := hP; clear _hu
  obtain ⟨hg1, hg2, hg3, hg4, hg5⟩ := hG; simp only at hg1 hg2 hg3 hg5
  have hg6 := congrArg List.length hg2
  have hg7 : decide ((look T.m x).getD 0 > 0) = decide (x ∈ P) := by rw [Bool.eq_iff_iff]; simp only [decide_eq_true_eq]; rw [hg3 x]; have := hg4 x; unfold came at this ⊢; omega
  refine enter_F 82 Try.func17 rfl rfl (by kernel_rfl) (L := [(0, Value.pointer (some ⟨t, 0, none⟩)), (1, Value.agg #[Value.int .i64 most, Value.slice A_L L.length c_L, Value.slice A_P P.length c_P]), (2, x.v), (3, Value.int .i64 many)]) (by kernel_rfl) ?_
  intro ac hA
  have hW := Ws.start w No
  have hW := hW.arg hr_L
  have hW := hW.arg hr_P
  have hW := hW.addG (TabR t p b A c T) ho_t hl_t (by simp)
  clear ho_t hl_t
  refine wpIn_seq ?_
  refine wpIn_region_lit ?_
  refine stF hA (by kernel_rfl) (by kernel_rfl) (by kernel_rfl) (by kernel_rfl) (RunsF.of (Runs.cells (fun b => Value.pointer (some ⟨b, 0, none⟩)) #[Value.int .i64 most, Value.slice A_L L.length c_L, Value.slice A_P P.length c_P] 29 (fun _ => by kernel_rfl) hW ?_)); clear hA ac hW; intro b1 w2 hW hb1 hfw2 ac hA
  refine stF hA (by kernel_rfl) (by kernel_rfl) (by kernel_rfl) (by kernel_rfl) (RunsF.of (Runs.cells (fun b => Value.pointer (some ⟨b, 0, none⟩)) #[Value.int .i64 x.a.f, Value.int .i64 x.a.pc, Value.int .i64 x.b.f, Value.int .i64 x.b.pc] 54 (fun _ => by kernel_rfl) hW ?_)); clear hA ac hW; intro b3 w4 hW hb3 hfw4 ac hA
  refine stF hA (by kernel_rfl) (by kernel_rfl) (by kernel_rfl) (by kernel_rfl) (RunsF.of (Runs.cells (fun b => Value.pointer (some ⟨b, 0, none⟩)) #[Value.int .i64 many] 3 (fun _ => by kernel_rfl) hW ?_)); clear hA ac hW; intro b5 w6 hW hb5 hfw6 ac hA
  refine stF hA (by kernel_rfl) (by kernel_rfl) (by kernel_rfl) (by kernel_rfl) (RunsF.of (Runs.cells (fun b => Value.pointer (some ⟨b, 0, none⟩)) #[Value.bool false] 4 (fun _ => by kernel_rfl) hW ?_)); clear hA ac hW; intro b7 w8 hW hb7 hfw8 ac hA
  refine wpListIn_nil ?_
  refine thenN ?_
  refine wpIn_seq ?_
  refine wpIn_region_lit ?_
  refine st_rdF (v := Value.pointer (some ⟨t, 0, none⟩)) hA (by kernel_rfl) (by kernel_rfl) (by kernel_rfl) (by kernel_rfl) hW.cls (Rd.pure fun _ => by kernel_rfl) ?_; clear hA ac; intro ac hA
  refine stF hA (by kernel_rfl) (by kernel_rfl) (by kernel_rfl) (by kernel_rfl) (RunsF.of (Runs.call (fun _ => by kernel_rfl) (e_reports t p b A c T w8 ((hW).getG 0 rfl) ((hW).glt _ (List.mem_of_getElem? (i := 0) rfl)) (by first | omega | (simp; done))) ?_))
  rintro _ w9 ⟨lb10, g11, rfl, hIg11, hfg11, hfw9⟩; refine ⟨_, rfl, ?_⟩; have hW0 := hW; have hW := hW0.call hfw9; have hW := hW0.addFromAt hW hfg11 in_nil; clear hW0 hA ac; intro ac hA
  refine st_rdF (v := Value.func (.func 42) #[] lb10) hA (by kernel_rfl) (by kernel_rfl) (by kernel_rfl) (by kernel_rfl) hW.cls (Rd.pure fun _ => by kernel_rfl) ?_; clear hA ac; intro ac hA
  refine wpListIn_nil ?_
  refine thenN ?_
  refine wpIn_seq ?_
  refine wpIn_seq ?_
  refine q_regionF (by kernel_rfl) (by kernel_rfl) (by kernel_rfl) hW ?_
  refine sq_rd (v := Value.func (.func 42) #[] lb10) hA (by kernel_rfl) (by kernel_rfl) (by kernel_rfl) (Rd.pure fun _ => by kernel_rfl) ?_; clear hA ac; intro ac hA
  refine sq_rd (v := Value.bool false) hA (by kernel_rfl) (by kernel_rfl) (by kernel_rfl) (Rd.pure fun _ => by kernel_rfl) ?_; clear hA ac; intro ac hA
  refine sq_rd (v := Value.bool false) hA (by kernel_rfl) (by kernel_rfl) (by kernel_rfl) (Rd.pure fun _ => by kernel_rfl) ?_; clear hA ac; intro ac hA
  refine sq_rd (v := Value.pointer (some ⟨t, 0, none⟩)) hA (by kernel_rfl) (by kernel_rfl) (by kernel_rfl) (Rd.pure fun _ => by kernel_rfl) ?_; clear hA ac; intro ac hA
  refine sq_call (v := Value.int .i64 ((T.l.length : Nat) : Int)) hA (by kernel_rfl) (by kernel_rfl) (by kernel_rfl) (fun _ => by kernel_rfl) (Cls.callSC fun wx hwx => e_tlen t p b A c T wx ((hwx.1).getG 1 rfl) ((hwx.1).glt _ (List.mem_of_getElem? (i := 1) rfl))) ?_; clear hA ac; intro ac hA
  refine sq_rd (v := Value.pointer (some ⟨b1, 1, none⟩)) hA (by kernel_rfl) (by kernel_rfl) (by kernel_rfl) (Rd.pure fun _ => by kernel_rfl) ?_; clear hA ac; intro ac hA
  refine sq_rd (v := Value.slice A_L L.length c_L) hA (by kernel_rfl) (by kernel_rfl) (by kernel_rfl) (Rd.load (b := b1) (i := 1) (by kernel_rfl) (fun _ hw => (hw.1).cel 3 rfl) (by kernel_rfl)) ?_; clear hA ac; intro ac hA
  refine sq_rd (v := Value.int .i64 ((L.length : Nat) : Int)) hA (by kernel_rfl) (by kernel_rfl) (by kernel_rfl) (Rd.pure fun _ => by kernel_rfl) ?_; clear hA ac; intro ac hA
  refine sq_rd (v := Value.bool ((((T.l.length : Nat) : Int) : Int) != (((L.length : Nat) : Int) : Int))) hA (by kernel_rfl) (by kernel_rfl) (by kernel_rfl) (Rd.pure fun _ => by kernel_rfl) ?_; clear hA ac; intro ac hA
  refine sq_rd (v := Value.bool ((((T.l.length : Nat) : Int) : Int) != (((L.length : Nat) : Int) : Int))) hA (by kernel_rfl) (by kernel_rfl) (by kernel_rfl) (Rd.pure fun _ => by kernel_rfl) ?_; clear hA ac; intro ac hA
  refine sq_rd (v := Value.bool ((((T.l.length : Nat) : Int) : Int) != (((L.length : Nat) : Int) : Int))) hA (by kernel_rfl) (by kernel_rfl) (by kernel_rfl) (Rd.pure fun _ => by kernel_rfl) ?_; clear hA ac; intro ac hA
  rcases Bool.eq_false_or_eq_true ((((T.l.length : Nat) : Int) : Int) != (((L.length : Nat) : Int) : Int)) with h12 | h12
  · skip
    rw [h12] at hA
    have h12 := bne_iff_ne.1 h12
    first
    | (exfalso; clear hA hW; omega)
    | (exfalso; clear hA hW; exact absurd hg7 h12; done)
    | (
        refine sq_skip hA (by kernel_rfl) (by kernel_rfl) ?_; clear hA ac; intro ac hA
        refine sq_skip hA (by kernel_rfl) (by kernel_rfl) ?_; clear hA ac; intro ac hA
        refine sq_skip hA (by kernel_rfl) (by kernel_rfl) ?_; clear hA ac; intro ac hA
        refine sq_skip hA (by kernel_rfl) (by kernel_rfl) ?_; clear hA ac; intro ac hA
        refine sq_skip hA (by kernel_rfl) (by kernel_rfl) ?_; clear hA ac; intro ac hA
        refine sq_skip hA (by kernel_rfl) (by kernel_rfl) ?_; clear hA ac; intro ac hA
        refine sq_skip hA (by kernel_rfl) (by kernel_rfl) ?_; clear hA ac; intro ac hA
        refine sq_skip hA (by kernel_rfl) (by kernel_rfl) ?_; clear hA ac; intro ac hA
        refine sq_skip hA (by kernel_rfl) (by kernel_rfl) ?_; clear hA ac; intro ac hA
        refine sq_skip hA (by kernel_rfl) (by kernel_rfl) ?_; clear hA ac; intro ac hA
        refine sq_rd (v := Value.bool true) hA (by kernel_rfl) (by kernel_rfl) (by kernel_rfl) (Rd.pure fun _ => by kernel_rfl) ?_; clear hA ac; intro ac hA
        refine sq_rd (v := Value.bool true) hA (by kernel_rfl) (by kernel_rfl) (by kernel_rfl) (Rd.pure fun _ => by kernel_rfl) ?_; clear hA ac; intro ac hA
        refine sq_skip hA (by kernel_rfl) (by kernel_rfl) ?_; clear hA ac; intro ac hA
        refine sq_skip hA (by kernel_rfl) (by kernel_rfl) ?_; clear hA ac; intro ac hA
        refine sq_skip hA (by kernel_rfl) (by kernel_rfl) ?_; clear hA ac; intro ac hA
        refine sq_skip hA (by kernel_rfl) (by kernel_rfl) ?_; clear hA ac; intro ac hA
        refine sq_skip hA (by kernel_rfl) (by kernel_rfl) ?_; clear hA ac; intro ac hA
        refine sq_skip hA (by kernel_rfl) (by kernel_rfl) ?_; clear hA ac; intro ac hA
        refine sq_skip hA (by kernel_rfl) (by kernel_rfl) ?_; clear hA ac; intro ac hA
        refine sq_skip hA (by kernel_rfl) (by kernel_rfl) ?_; clear hA ac; intro ac hA
        refine sq_rd (v := Value.bool true) hA (by kernel_rfl) (by kernel_rfl) (by kernel_rfl) (Rd.pure fun _ => by kernel_rfl) ?_; clear hA ac; intro ac hA
        refine sq_nil ?_; intro w13 hww13; have hW := hww13.1; have hfw13 := hww13.2; clear hww13
        refine thenN ?_
        refine wpIn_cond_true (hA.eval (by kernel_rfl)) ?_
        refine wpIn_seq ?_
        refine wpIn_region_lit ?_
        refine stF hA (by kernel_rfl) (by kernel_rfl) (by kernel_rfl) (by kernel_rfl) (RunsF.of (Runs.store (v := Value.bool false) (b := b7) (j := 0) (n := 1) (cs' := #[Value.bool false]) (H' := [Cel b7 #[Value.bool false] 4, Cel b5 #[Value.int .i64 many] 3, Cel b3 #[Value.int .i64 x.a.f, Value.int .i64 x.a.pc, Value.int .i64 x.b.f, Value.int .i64 x.b.pc] 54, Cel b1 #[Value.int .i64 most, Value.slice A_L L.length c_L, Value.slice A_P P.length c_P] 29]) (by kernel_rfl) (by kernel_rfl) (by kernel_rfl) (by kernel_rfl) (by kernel_rfl) hW 0 (by rfl) (Nat.le_of_ble_eq_true (by kernel_rfl)) (by kernel_rfl) (by rfl) ?_)); clear hA ac hW; intro w14 hW ac hA
        refine wpListIn_nil ?_
        refine thenN ?_
        refine wpIn_ret ?_
        refine thenR ?_
        refine retF (.inl rfl) hA ?_
        refine leave1 (v := Value.bool false) (by rfl) (GotF.cell (b := b7) (i := 0) hA (by kernel_rfl) (by kernel_rfl) (hW.cel 0 rfl) (by kernel_rfl)) ?_
        clear hA
        exact ⟨retv (by (refine congrArg Value.bool (beq_iff_eq.2 ?_); omega)), hW.fr⟩)
  · skip
    rw [h12] at hA
    have h12 := of_bne_f h12
    first
    | (exfalso; clear hA hW; omega)
    | (exfalso; clear hA hW; exact absurd hg7 h12; done)
    | (
        refine sq_rd (v := Value.pointer (some ⟨t, 0, none⟩)) hA (by kernel_rfl) (by kernel_rfl) (by kernel_rfl) (Rd.pure fun _ => by kernel_rfl) ?_; clear hA ac; intro ac hA
        refine sq_call (v := Value.int .i64 T.dropped) hA (by kernel_rfl) (by kernel_rfl) (by kernel_rfl) (fun _ => by kernel_rfl) (Cls.callSC fun wx hwx => e_tdropped t p b A c T wx ((hwx.1).getG 1 rfl) ((hwx.1).glt _ (List.mem_of_getElem? (i := 1) rfl))) ?_; clear hA ac; intro ac hA
        refine sq_rd (v := Value.pointer (some ⟨b1, 2, none⟩)) hA (by kernel_rfl) (by kernel_rfl) (by kernel_rfl) (Rd.pure fun _ => by kernel_rfl) ?_; clear hA ac; intro ac hA
        refine sq_rd (v := Value.slice A_P P.length c_P) hA (by kernel_rfl) (by kernel_rfl) (by kernel_rfl) (Rd.load (b := b1) (i := 2) (by kernel_rfl) (fun _ hw => (hw.1).cel 3 rfl) (by kernel_rfl)) ?_; clear hA ac; intro ac hA
        refine sq_rd (v := Value.int .i64 ((P.length : Nat) : Int)) hA (by kernel_rfl) (by kernel_rfl) (by kernel_rfl) (Rd.pure fun _ => by kernel_rfl) ?_; clear hA ac; intro ac hA
        refine sq_rd (v := Value.pointer (some ⟨b1, 1, none⟩)) hA (by kernel_rfl) (by kernel_rfl) (by kernel_rfl) (Rd.pure fun _ => by kernel_rfl) ?_; clear hA ac; intro ac hA
        refine sq_rd (v := Value.slice A_L L.length c_L) hA (by kernel_rfl) (by kernel_rfl) (by kernel_rfl) (Rd.load (b := b1) (i := 1) (by kernel_rfl) (fun _ hw => (hw.1).cel 3 rfl) (by kernel_rfl)) ?_; clear hA ac; intro ac hA
        refine sq_rd (v := Value.int .i64 ((L.length : Nat) : Int)) hA (by kernel_rfl) (by kernel_rfl) (by kernel_rfl) (Rd.pure fun _ => by kernel_rfl) ?_; clear hA ac; intro ac hA
        refine sq_rd (v := Value.int .i64 ((((P.length : Nat) : Int) : Int) - ((L.length : Nat) : Int))) hA (by kernel_rfl) (by kernel_rfl) (by kernel_rfl) (Rd.pureE (v0 := Value.int .i64 (IntKind.i64.wrap ((((P.length : Nat) : Int) : Int) - ((L.length : Nat) : Int)))) (fun _ => by kernel_rfl) (congrArg (Value.int .i64) ((w_i64 (x := (((P.length : Nat) : Int) : Int) - ((L.length : Nat) : Int)) (by omega) (by omega)).trans (by omega)))) ?_; clear hA ac; intro ac hA
        refine sq_rd (v := Value.bool ((T.dropped : Int) != ((((P.length : Nat) : Int) : Int) - ((L.length : Nat) : Int) : Int))) hA (by kernel_rfl) (by kernel_rfl) (by kernel_rfl) (Rd.pure fun _ => by kernel_rfl) ?_; clear hA ac; intro ac hA
        refine sq_rd (v := Value.bool ((T.dropped : Int) != ((((P.length : Nat) : Int) : Int) - ((L.length : Nat) : Int) : Int))) hA (by kernel_rfl) (by kernel_rfl) (by kernel_rfl) (Rd.pure fun _ => by kernel_rfl) ?_; clear hA ac; intro ac hA
        refine sq_rd (v := Value.bool ((T.dropped : Int) != ((((P.length : Nat) : Int) : Int) - ((L.length : Nat) : Int) : Int))) hA (by kernel_rfl) (by kernel_rfl) (by kernel_rfl) (Rd.pure fun _ => by kernel_rfl) ?_; clear hA ac; intro ac hA
        rcases Bool.eq_false_or_eq_true ((T.dropped : Int) != ((((P.length : Nat) : Int) : Int) - ((L.length : Nat) : Int) : Int)) with h15 | h15
        · skip
          rw [h15] at hA
          have h15 := bne_iff_ne.1 h15
          first
          | (exfalso; clear hA hW; omega)
          | (exfalso; clear hA hW; exact absurd hg7 h15; done)
          | (
              refine sq_skip hA (by kernel_rfl) (by kernel_rfl) ?_; clear hA ac; intro ac hA
              refine sq_skip hA (by kernel_rfl) (by kernel_rfl) ?_; clear hA ac; intro ac hA
              refine sq_skip hA (by kernel_rfl) (by kernel_rfl) ?_; clear hA ac; intro ac hA
              refine sq_skip hA (by kernel_rfl) (by kernel_rfl) ?_; clear hA ac; intro ac hA
              refine sq_skip hA (by kernel_rfl) (by kernel_rfl) ?_; clear hA ac; intro ac hA
              refine sq_skip hA (by kernel_rfl) (by kernel_rfl) ?_; clear hA ac; intro ac hA
              refine sq_skip hA (by kernel_rfl) (by kernel_rfl) ?_; clear hA ac; intro ac hA
              refine sq_skip hA (by kernel_rfl) (by kernel_rfl) ?_; clear hA ac; intro ac hA
              refine sq_rd (v := Value.bool true) hA (by kernel_rfl) (by kernel_rfl) (by kernel_rfl) (Rd.pure fun _ => by kernel_rfl) ?_; clear hA ac; intro ac hA
              refine sq_nil ?_; intro w16 hww16; have hW := hww16.1; have hfw16 := hww16.2; clear hww16
              refine thenN ?_
              refine wpIn_cond_true (hA.eval (by kernel_rfl)) ?_
              refine wpIn_seq ?_
              refine wpIn_region_lit ?_
              refine stF hA (by kernel_rfl) (by kernel_rfl) (by kernel_rfl) (by kernel_rfl) (RunsF.of (Runs.store (v := Value.bool false) (b := b7) (j := 0) (n := 1) (cs' := #[Value.bool false]) (H' := [Cel b7 #[Value.bool false] 4, Cel b5 #[Value.int .i64 many] 3, Cel b3 #[Value.int .i64 x.a.f, Value.int .i64 x.a.pc, Value.int .i64 x.b.f, Value.int .i64 x.b.pc] 54, Cel b1 #[Value.int .i64 most, Value.slice A_L L.length c_L, Value.slice A_P P.length c_P] 29]) (by kernel_rfl) (by kernel_rfl) (by kernel_rfl) (by kernel_rfl) (by kernel_rfl) hW 0 (by rfl) (Nat.le_of_ble_eq_true (by kernel_rfl)) (by kernel_rfl) (by rfl) ?_)); clear hA ac hW; intro w17 hW ac hA
              refine wpListIn_nil ?_
              refine thenN ?_
              refine wpIn_ret ?_
              refine thenR ?_
              refine retF (.inl rfl) hA ?_
              refine leave1 (v := Value.bool false) (by rfl) (GotF.cell (b := b7) (i := 0) hA (by kernel_rfl) (by kernel_rfl) (hW.cel 0 rfl) (by kernel_rfl)) ?_
              clear hA
              exact ⟨retv (by (refine congrArg Value.bool (beq_iff_eq.2 ?_); omega)), hW.fr⟩)
        · skip
          rw [h15] at hA
          have h15 := of_bne_f h15
          first
          | (exfalso; clear hA hW; omega)
          | (exfalso; clear hA hW; exact absurd hg7 h15; done)
          | (
              refine sq_rd (v := Value.pointer (some ⟨t, 0, none⟩)) hA (by kernel_rfl) (by kernel_rfl) (by kernel_rfl) (Rd.pure fun _ => by kernel_rfl) ?_; clear hA ac; intro ac hA
              refine sq_rd (v := Value.agg #[Value.int .i64 x.a.f, Value.int .i64 x.a.pc, Value.int .i64 x.b.f, Value.int .i64 x.b.pc]) hA (by kernel_rfl) (by kernel_rfl) (by kernel_rfl) (Rd.load (b := b3) (i := 0) (by kernel_rfl) (fun _ hw => (hw.1).cel 2 rfl) (by kernel_rfl)) ?_; clear hA ac; intro ac hA
              refine sq_call (v := Value.bool (decide ((look T.m x).getD 0 > 0))) hA (by kernel_rfl) (by kernel_rfl) (by kernel_rfl) (fun _ => by kernel_rfl) (Cls.callNC fun wx hwx => e_thas t p b A c T x wx ((hwx.1).getG 1 rfl) ((hwx.1).glt _ (List.mem_of_getElem? (i := 1) rfl))) ?_; clear hA ac; intro ac hA
              refine sq_rd (v := Value.pointer (some ⟨b1, 2, none⟩)) hA (by kernel_rfl) (by kernel_rfl) (by kernel_rfl) (Rd.pure fun _ => by kernel_rfl) ?_; clear hA ac; intro ac hA
              refine sq_rd (v := Value.slice A_P P.length c_P) hA (by kernel_rfl) (by kernel_rfl) (by kernel_rfl) (Rd.load (b := b1) (i := 2) (by kernel_rfl) (fun _ hw => (hw.1).cel 3 rfl) (by kernel_rfl)) ?_; clear hA ac; intro ac hA
              refine sq_rd (v := Value.agg #[Value.int .i64 x.a.f, Value.int .i64 x.a.pc, Value.int .i64 x.b.f, Value.int .i64 x.b.pc]) hA (by kernel_rfl) (by kernel_rfl) (by kernel_rfl) (Rd.load (b := b3) (i := 0) (by kernel_rfl) (fun _ hw => (hw.1).cel 2 rfl) (by kernel_rfl)) ?_; clear hA ac; intro ac hA
              refine sq_call (v := Value.bool (decide (x ∈ P))) hA (by kernel_rfl) (by kernel_rfl) (by kernel_rfl) (fun _ => by kernel_rfl) (Cls.callNC fun wx hwx => e_has07 A_P c_P P x wx ((hwx.1).getG 2 rfl) (by first | assumption | omega | (simp; omega) | simp) (by first | omega | (simp; done))) ?_; clear hA ac; intro ac hA
              refine sq_rd (v := Value.bool (!((decide ((look T.m x).getD 0 > 0)) == (decide (x ∈ P))))) hA (by kernel_rfl) (by kernel_rfl) (by kernel_rfl) (Rd.pure fun _ => by kernel_rfl) ?_; clear hA ac; intro ac hA
              refine sq_rd (v := Value.bool (!((decide ((look T.m x).getD 0 > 0)) == (decide (x ∈ P))))) hA (by kernel_rfl) (by kernel_rfl) (by kernel_rfl) (Rd.pure fun _ => by kernel_rfl) ?_; clear hA ac; intro ac hA
              refine sq_nil ?_; intro w18 hww18; have hW := hww18.1; have hfw18 := hww18.2; clear hww18
              refine thenN ?_
              refine wpIn_cond_split (t := !((decide ((look T.m x).getD 0 > 0)) == (decide (x ∈ P)))) (hA.eval (by kernel_rfl)) (fun h19 => ?_) (fun h19 => ?_)
              · skip
                have h19 := bbne_t h19
                first
                | (exfalso; clear hA hW; omega)
                | (exfalso; clear hA hW; exact absurd hg7 h19; done)
                | (
                    refine wpIn_seq ?_
                    refine wpIn_region_lit ?_
                    refine stF hA (by kernel_rfl) (by kernel_rfl) (by kernel_rfl) (by kernel_rfl) (RunsF.of (Runs.store (v := Value.bool false) (b := b7) (j := 0) (n := 1) (cs' := #[Value.bool false]) (H' := [Cel b7 #[Value.bool false] 4, Cel b5 #[Value.int .i64 many] 3, Cel b3 #[Value.int .i64 x.a.f, Value.int .i64 x.a.pc, Value.int .i64 x.b.f, Value.int .i64 x.b.pc] 54, Cel b1 #[Value.int .i64 most, Value.slice A_L L.length c_L, Value.slice A_P P.length c_P] 29]) (by kernel_rfl) (by kernel_rfl) (by kernel_rfl) (by kernel_rfl) (by kernel_rfl) hW 0 (by rfl) (Nat.le_of_ble_eq_true (by kernel_rfl)) (by kernel_rfl) (by rfl) ?_)); clear hA ac hW; intro w20 hW ac hA
                    refine wpListIn_nil ?_
                    refine thenN ?_
                    refine wpIn_ret ?_
                    refine thenR ?_
                    refine retF (.inl rfl) hA ?_
                    refine leave1 (v := Value.bool false) (by rfl) (GotF.cell (b := b7) (i := 0) hA (by kernel_rfl) (by kernel_rfl) (hW.cel 0 rfl) (by kernel_rfl)) ?_
                    clear hA
                    exact ⟨retv (by (refine congrArg Value.bool (beq_iff_eq.2 ?_); omega)), hW.fr⟩)
              · skip
                have h19 := bbne_f h19
                first
                | (exfalso; clear hA hW; omega)
                | (exfalso; clear hA hW; exact absurd hg7 h19; done)
                | (
                    refine wpIn_skip ?_
                    refine thenN ?_
                    refine wpIn_seq ?_
                    refine wpIn_region_lit ?_
                    refine stF hA (by kernel_rfl) (by kernel_rfl) (by kernel_rfl) (by kernel_rfl) (RunsF.of (Runs.cells (fun b => Value.pointer (some ⟨b, 0, none⟩)) #[Value.int .i64 0] 3 (fun _ => by kernel_rfl) hW ?_)); clear hA ac hW; intro b21 w22 hW hb21 hfw22 ac hA
                    refine stF hA (by kernel_rfl) (by kernel_rfl) (by kernel_rfl) (by kernel_rfl) (RunsF.of (Runs.store (v := Value.int .i64 0) (b := b21) (j := 0) (n := 1) (cs' := #[Value.int .i64 0]) (H' := [Cel b21 #[Value.int .i64 0] 3, Cel b7 #[Value.bool false] 4, Cel b5 #[Value.int .i64 many] 3, Cel b3 #[Value.int .i64 x.a.f, Value.int .i64 x.a.pc, Value.int .i64 x.b.f, Value.int .i64 x.b.pc] 54, Cel b1 #[Value.int .i64 most, Value.slice A_L L.length c_L, Value.slice A_P P.length c_P] 29]) (by kernel_rfl) (by kernel_rfl) (by kernel_rfl) (by kernel_rfl) (by kernel_rfl) hW 0 (by rfl) (Nat.le_of_ble_eq_true (by kernel_rfl)) (by kernel_rfl) (by rfl) ?_)); clear hA ac hW; intro w23 hW ac hA
                    refine wpListIn_nil ?_
                    refine thenN ?_
                    refine wpIn_seq ?_
                    refine wpIn_seq ?_
                    refine wpIn_region_lit ?_
                    refine st_rdF (v := Value.func (.func 42) #[] lb10) hA (by kernel_rfl) (by kernel_rfl) (by kernel_rfl) (by kernel_rfl) hW.cls (Rd.pure fun _ => by kernel_rfl) ?_; clear hA ac; intro ac hA
                    refine wpListIn_nil ?_
                    refine thenN ?_
                    refine wpIn_block ?_
                    have hW := hW.share 4 rfl (H' := [Cel b21 #[Value.int .i64 0] 3, Cel b7 #[Value.bool false] 4, Cel b5 #[Value.int .i64 many] 3, Cel b3 #[Value.int .i64 x.a.f, Value.int .i64 x.a.pc, Value.int .i64 x.b.f, Value.int .i64 x.b.pc] 54]) rfl
                    have hW := hW.share 2 rfl (H' := [Cel b21 #[Value.int .i64 0] 3, Cel b7 #[Value.bool false] 4, Cel b3 #[Value.int .i64 x.a.f, Value.int .i64 x.a.pc, Value.int .i64 x.b.f, Value.int .i64 x.b.pc] 54]) rfl
                    refine wp_range (encs := (fun x_ : Flag × Nat => #[Value.int .i64 ((x_.2 : Nat) : Int), x_.1.v])) (Sx := (· = T.l.zipIdx)) hA (by kernel_rfl) (by kernel_rfl) (enters_of Try.func42 (by kernel_rfl) rfl) (by kernel_rfl) (fun _ => rfl) hIg11 (List.forall_mem_singleton.2 (List.mem_of_getElem? (i := 2) rfl)) (fun pre_ H_ => ∃ k : Nat, pre_ = T.l.zipIdx.take k ∧ k ≤ T.l.length ∧ (k = 0 ∨ ((k : Nat) : Int) < many) ∧ H_ = [Cel b21 #[Value.int .i64 ((k : Nat) : Int)] 3]) (fun c_ _ H_ => (c_ = .exit 0 ∧ ∃ k : Nat, (((k : Nat) : Int) + 1 ≥ many ∧ k < T.l.length ∧ (k = 0 ∨ ((k : Nat) : Int) < many)) ∧ H_ = [Cel b21 #[Value.int .i64 ((k + 1 : Nat) : Int)] 3])) (H := [Cel b21 #[Value.int .i64 0] 3]) (K := [Cel b7 #[Value.bool false] 4, Cel b3 #[Value.int .i64 x.a.f, Value.int .i64 x.a.pc, Value.int .i64 x.b.f, Value.int .i64 x.b.pc] 54]) (hW.pick [0, 1, 2] (by decide) rfl) ⟨0, rfl, Nat.zero_le _, by omega, rfl⟩ ?_ ?_ ?_
                    · skip
                      clear hA ac hW; intro l_24 rd_24 bs_24 pre_ x_ Hk_ w25 T_24 ac hrd_24 hbs_24 hbr_24 hok_ hJ_ hA hW hB_24 hT_24
                      obtain ⟨k, rfl, hk_, hm, rfl⟩ := hJ_
                      obtain ⟨y26, rfl, hy26, hlty26, hsny26⟩ := comes_zip hok_ hk_
                      replace hA : Fm 82 [] [(0, Value.pointer (some ⟨t, 0, none⟩)), (1, Value.agg #[Value.int .i64 most, Value.slice A_L L.length c_L, Value.slice A_P P.length c_P]), (2, x.v), (3, Value.int .i64 many), (5, Value.pointer (some ⟨b1, 0, none⟩)), (6, Value.pointer (some ⟨b3, 0, none⟩)), (7, Value.pointer (some ⟨b5, 0, none⟩)), (8, Value.pointer (some ⟨b7, 0, none⟩)), (9, Value.func (.func 42) #[] lb10), (10, Value.pointer (some ⟨b21, 0, none⟩)), (13, Value.pointer (some ⟨t, 0, none⟩)), (14, Value.func (.func 42) #[] lb10), (15, Value.func (.func 42) #[] lb10), (16, Value.bool false), (17, Value.bool false), (18, Value.pointer (some ⟨t, 0, none⟩)), (19, Value.int .i64 ((T.l.length : Nat) : Int)), (20, Value.pointer (some ⟨b1, 1, none⟩)), (21, Value.slice A_L L.length c_L), (22, Value.int .i64 ((L.length : Nat) : Int)), (23, Value.bool false), (24, Value.bool false), (25, Value.bool false), (26, Value.pointer (some ⟨t, 0, none⟩)), (27, Value.int .i64 T.dropped), (28, Value.pointer (some ⟨b1, 2, none⟩)), (29, Value.slice A_P P.length c_P), (30, Value.int .i64 ((P.length : Nat) : Int)), (31, Value.pointer (some ⟨b1, 1, none⟩)), (32, Value.slice A_L L.length c_L), (33, Value.int .i64 ((L.length : Nat) : Int)), (34, Value.int .i64 ((((P.length : Nat) : Int) : Int) - ((L.length : Nat) : Int))), (35, Value.bool false), (36, Value.bool false), (37, Value.bool false), (38, Value.pointer (some ⟨t, 0, none⟩)), (39, Value.agg #[Value.int .i64 x.a.f, Value.int .i64 x.a.pc, Value.int .i64 x.b.f, Value.int .i64 x.b.pc]), (40, Value.bool (decide ((look T.m x).getD 0 > 0))), (41, Value.pointer (some ⟨b1, 2, none⟩)), (42, Value.slice A_P P.length c_P), (43, Value.agg #[Value.int .i64 x.a.f, Value.int .i64 x.a.pc, Value.int .i64 x.b.f, Value.int .i64 x.b.pc]), (44, Value.bool (decide (x ∈ P))), (45, Value.bool (!((decide ((look T.m x).getD 0 > 0)) == (decide (x ∈ P))))), (46, Value.bool (!((decide ((look T.m x).getD 0 > 0)) == (decide (x ∈ P))))), (47, Value.func (.func 42) #[] lb10), (48, Value.int .i64 ((k : Nat) : Int)), (49, y26.v)] ac := hA.sub ⟨⟨by kernel_rfl, by kernel_rfl⟩, ⟨by kernel_rfl, by kernel_rfl⟩, ⟨by kernel_rfl, by kernel_rfl⟩, ⟨by kernel_rfl, by kernel_rfl⟩, ⟨by kernel_rfl, by kernel_rfl⟩, ⟨by kernel_rfl, by kernel_rfl⟩, ⟨by kernel_rfl, by kernel_rfl⟩, ⟨by kernel_rfl, by kernel_rfl⟩, ⟨by kernel_rfl, by kernel_rfl⟩, ⟨by kernel_rfl, by kernel_rfl⟩, ⟨by kernel_rfl, by kernel_rfl⟩, ⟨by kernel_rfl, by kernel_rfl⟩, ⟨by kernel_rfl, by kernel_rfl⟩, ⟨by kernel_rfl, by kernel_rfl⟩, ⟨by kernel_rfl, by kernel_rfl⟩, ⟨by kernel_rfl, by kernel_rfl⟩, ⟨by kernel_rfl, by kernel_rfl⟩, ⟨by kernel_rfl, by kernel_rfl⟩, ⟨by kernel_rfl, by kernel_rfl⟩, ⟨by kernel_rfl, by kernel_rfl⟩, ⟨by kernel_rfl, by kernel_rfl⟩, ⟨by kernel_rfl, by kernel_rfl⟩, ⟨by kernel_rfl, by kernel_rfl⟩, ⟨by kernel_rfl, by kernel_rfl⟩, ⟨by kernel_rfl, by kernel_rfl⟩, ⟨by kernel_rfl, by kernel_rfl⟩, ⟨by kernel_rfl, by kernel_rfl⟩, ⟨by kernel_rfl, by kernel_rfl⟩, ⟨by kernel_rfl, by kernel_rfl⟩, ⟨by kernel_rfl, by kernel_rfl⟩, ⟨by kernel_rfl, by kernel_rfl⟩, ⟨by kernel_rfl, by kernel_rfl⟩, ⟨by kernel_rfl, by kernel_rfl⟩, ⟨by kernel_rfl, by kernel_rfl⟩, ⟨by kernel_rfl, by kernel_rfl⟩, ⟨by kernel_rfl, by kernel_rfl⟩, ⟨by kernel_rfl, by kernel_rfl⟩, ⟨by kernel_rfl, by kernel_rfl⟩, ⟨by kernel_rfl, by kernel_rfl⟩, ⟨by kernel_rfl, by kernel_rfl⟩, ⟨by kernel_rfl, by kernel_rfl⟩, ⟨by kernel_rfl, by kernel_rfl⟩, ⟨by kernel_rfl, by kernel_rfl⟩, ⟨by kernel_rfl, by kernel_rfl⟩, ⟨by kernel_rfl, by kernel_rfl⟩, ⟨by kernel_rfl, by kernel_rfl⟩, ⟨by kernel_rfl, by kernel_rfl⟩, trivial⟩
                      refine wpIn_seq ?_
                      refine wpIn_region_lit ?_
                      refine st_rdF (v := Value.int .i64 ((k : Nat) : Int)) hA (by kernel_rfl) (by kernel_rfl) (by kernel_rfl) (by kernel_rfl) hW.cls (Rd.pure fun _ => by kernel_rfl) ?_; clear hA ac; intro ac hA
                      refine wpListIn_nil ?_
                      refine thenN ?_
                      refine wpIn_region_lit ?_
                      refine stF hA (by kernel_rfl) (by kernel_rfl) (by kernel_rfl) (by kernel_rfl) (RunsF.of (Runs.cells (fun b => Value.pointer (some ⟨b, 0, none⟩)) #[Value.int .i64 0, Value.int .u32 0, Value.int .i64 0, Value.int .i64 0, Value.int .i64 0, Value.int .i64 0, Value.int .i64 0, Value.int .i64 0, Value.int .i64 0, Value.int .i64 0] 43 (fun _ => by kernel_rfl) hW ?_)); clear hA ac hW; intro b27 w28 hW hb27 hfw28 ac hA
                      refine stF hA (by kernel_rfl) (by kernel_rfl) (by kernel_rfl) (by kernel_rfl) (RunsF.of (Runs.store (v := y26.v) (b := b27) (j := 0) (n := 10) (cs' := #[Value.int .i64 y26.at_, Value.int .u32 y26.addr, Value.int .i64 y26.e.g, Value.int .i64 y26.e.s.f, Value.int .i64 y26.e.s.pc, Value.int .i64 y26.e.k, Value.int .i64 y26.l.g, Value.int .i64 y26.l.s.f, Value.int .i64 y26.l.s.pc, Value.int .i64 y26.l.k]) (H' := [Cel b27 #[Value.int .i64 y26.at_, Value.int .u32 y26.addr, Value.int .i64 y26.e.g, Value.int .i64 y26.e.s.f, Value.int .i64 y26.e.s.pc, Value.int .i64 y26.e.k, Value.int .i64 y26.l.g, Value.int .i64 y26.l.s.f, Value.int .i64 y26.l.s.pc, Value.int .i64 y26.l.k] 43, rd_24, Cel b21 #[Value.int .i64 ((k : Nat) : Int)] 3]) (by kernel_rfl) (by kernel_rfl) (by kernel_rfl) (by kernel_rfl) (by kernel_rfl) hW 0 (by rfl) (Nat.le_of_ble_eq_true (by kernel_rfl)) (by kernel_rfl) (by rfl) ?_)); clear hA ac hW; intro w29 hW ac hA
                      refine wpListIn_nil ?_
                      refine thenN ?_
                      refine begun (bs := bs_24) (H' := [Cel b27 #[Value.int .i64 y26.at_, Value.int .u32 y26.addr, Value.int .i64 y26.e.g, Value.int .i64 y26.e.s.f, Value.int .i64 y26.e.s.pc, Value.int .i64 y26.e.k, Value.int .i64 y26.l.g, Value.int .i64 y26.l.s.f, Value.int .i64 y26.l.s.pc, Value.int .i64 y26.l.k] 43, bs_24, Cel b21 #[Value.int .i64 ((k : Nat) : Int)] 3]) hW 1 rfl (fun b hb => by rw [hbs_24] at hb; rw [hrd_24]; exact hb) rfl ?_; clear hW; intro w30 hW
                      refine wpIn_block ?_
                      refine wpIn_seq ?_
                      refine wpIn_seq ?_
                      refine q_regionF (by kernel_rfl) (by kernel_rfl) (by kernel_rfl) hW ?_
                      refine sq_rd (v := Value.int .i64 ((k : Nat) : Int)) hA (by kernel_rfl) (by kernel_rfl) (by kernel_rfl) (Rd.pure fun _ => by kernel_rfl) ?_; clear hA ac; intro ac hA
                      refine sq_rd (v := Value.int .i64 ((k : Nat) : Int)) hA (by kernel_rfl) (by kernel_rfl) (by kernel_rfl) (Rd.load (b := b21) (i := 0) (by kernel_rfl) (fun _ hw => (hw.1).cel 2 rfl) (by kernel_rfl)) ?_; clear hA ac; intro ac hA
                      refine sq_rd (v := Value.bool ((((k : Nat) : Int) : Int) != (((k : Nat) : Int) : Int))) hA (by kernel_rfl) (by kernel_rfl) (by kernel_rfl) (Rd.pure fun _ => by kernel_rfl) ?_; clear hA ac; intro ac hA
                      refine sq_rd (v := Value.bool ((((k : Nat) : Int) : Int) != (((k : Nat) : Int) : Int))) hA (by kernel_rfl) (by kernel_rfl) (by kernel_rfl) (Rd.pure fun _ => by kernel_rfl) ?_; clear hA ac; intro ac hA
                      rcases Bool.eq_false_or_eq_true ((((k : Nat) : Int) : Int) != (((k : Nat) : Int) : Int)) with h31 | h31
                      · skip
                        rw [h31] at hA
                        have h31 := bne_iff_ne.1 h31
                        first
                        | (exfalso; clear hA hW; omega)
                        | (exfalso; clear hA hW; exact absurd hg7 h31; done)
                        | (
                            fail)
                      · skip
                        rw [h31] at hA
                        have h31 := of_bne_f h31
                        first
                        | (exfalso; clear hA hW; omega)
                        | (exfalso; clear hA hW; exact absurd hg7 h31; done)
                        | (
                            refine sq_rd (v := Value.int .i64 ((k : Nat) : Int)) hA (by kernel_rfl) (by kernel_rfl) (by kernel_rfl) (Rd.load (b := b21) (i := 0) (by kernel_rfl) (fun _ hw => (hw.1).cel 2 rfl) (by kernel_rfl)) ?_; clear hA ac; intro ac hA
                            refine sq_rd (v := Value.pointer (some ⟨b1, 1, none⟩)) hA (by kernel_rfl) (by kernel_rfl) (by kernel_rfl) (Rd.pure fun _ => by kernel_rfl) ?_; clear hA ac; intro ac hA
                            refine sq_rd (v := Value.slice A_L L.length c_L) hA (by kernel_rfl) (by kernel_rfl) (by kernel_rfl) (Rd.load (b := b1) (i := 1) (by kernel_rfl) (fun _ hw => show _ = _ from (hw.1).getG 1 rfl) (by kernel_rfl)) ?_; clear hA ac; intro ac hA
                            refine sq_rd (v := Value.int .i64 ((L.length : Nat) : Int)) hA (by kernel_rfl) (by kernel_rfl) (by kernel_rfl) (Rd.pure fun _ => by kernel_rfl) ?_; clear hA ac; intro ac hA
                            refine sq_rd (v := Value.bool (decide ((((k : Nat) : Int) : Int) ≥ (((L.length : Nat) : Int) : Int)))) hA (by kernel_rfl) (by kernel_rfl) (by kernel_rfl) (Rd.pure fun _ => by kernel_rfl) ?_; clear hA ac; intro ac hA
                            refine sq_rd (v := Value.bool (decide ((((k : Nat) : Int) : Int) ≥ (((L.length : Nat) : Int) : Int)))) hA (by kernel_rfl) (by kernel_rfl) (by kernel_rfl) (Rd.pure fun _ => by kernel_rfl) ?_; clear hA ac; intro ac hA
                            refine sq_rd (v := Value.bool (decide ((((k : Nat) : Int) : Int) ≥ (((L.length : Nat) : Int) : Int)))) hA (by kernel_rfl) (by kernel_rfl) (by kernel_rfl) (Rd.pure fun _ => by kernel_rfl) ?_; clear hA ac; intro ac hA
                            rcases Bool.eq_false_or_eq_true (decide ((((k : Nat) : Int) : Int) ≥ (((L.length : Nat) : Int) : Int))) with h33 | h33
                            · skip
                              rw [h33] at hA
                              have h33 := of_decide_eq_true h33
                              first
                              | (exfalso; clear hA hW; omega)
                              | (exfalso; clear hA hW; exact absurd hg7 h33; done)
                              | (
                                  fail)
                            · skip
                              rw [h33] at hA
                              have h33 := of_decide_eq_false h33
                              first
                              | (exfalso; clear hA hW; omega)
                              | (exfalso; clear hA hW; exact absurd hg7 h33; done)
                              | (
                                  refine sq_rd (v := Value.agg #[Value.int .i64 y26.at_, Value.int .u32 y26.addr, Value.int .i64 y26.e.g, Value.int .i64 y26.e.s.f, Value.int .i64 y26.e.s.pc, Value.int .i64 y26.e.k, Value.int .i64 y26.l.g, Value.int .i64 y26.l.s.f, Value.int .i64 y26.l.s.pc, Value.int .i64 y26.l.k]) hA (by kernel_rfl) (by kernel_rfl) (by kernel_rfl) (Rd.load (b := b27) (i := 0) (by kernel_rfl) (fun _ hw => (hw.1).cel 0 rfl) (by kernel_rfl)) ?_; clear hA ac; intro ac hA
                                  refine sq_rd (v := Value.pointer (some ⟨b1, 1, none⟩)) hA (by kernel_rfl) (by kernel_rfl) (by kernel_rfl) (Rd.pure fun _ => by kernel_rfl) ?_; clear hA ac; intro ac hA
                                  refine sq_rd (v := Value.slice A_L L.length c_L) hA (by kernel_rfl) (by kernel_rfl) (by kernel_rfl) (Rd.load (b := b1) (i := 1) (by kernel_rfl) (fun _ hw => show _ = _ from (hw.1).getG 1 rfl) (by kernel_rfl)) ?_; clear hA ac; intro ac hA
                                  refine sq_rd (v := Value.int .i64 ((k : Nat) : Int)) hA (by kernel_rfl) (by kernel_rfl) (by kernel_rfl) (Rd.load (b := b21) (i := 0) (by kernel_rfl) (fun _ hw => (hw.1).cel 2 rfl) (by kernel_rfl)) ?_; clear hA ac; intro ac hA
                                  obtain ⟨y35, hy35⟩ : ∃ y, L[k]? = some y := ⟨_, List.getElem?_eq_getElem (by first | omega | (simp; done) | (simp; omega))⟩
                                  obtain ⟨b36, o37, rfl, hbb36⟩ := row_some ((hW).getG 5 rfl) hy35
                                  refine sq_rd (v := Value.pointer (some ⟨b36, o37 + k * 10, none⟩)) hA (by kernel_rfl) (by kernel_rfl) (by kernel_rfl) (Rd.indexAddr (e := 43) (sz := 10) (b := b36) (off := o37) (n := L.length) (c := c_L) (k := k) (by kernel_rfl) (by kernel_rfl) (by first | omega | (simp; done) | (simp; omega)) (fun _ => by kernel_rfl) (fun _ => by kernel_rfl)) ?_; clear hA ac; intro ac hA
                                  refine sq_rd (v := Value.agg #[Value.int .i64 y35.at_, Value.int .u32 y35.addr, Value.int .i64 y35.e.g, Value.int .i64 y35.e.s.f, Value.int .i64 y35.e.s.pc, Value.int .i64 y35.e.k, Value.int .i64 y35.l.g, Value.int .i64 y35.l.s.f, Value.int .i64 y35.l.s.pc, Value.int .i64 y35.l.k]) hA (by kernel_rfl) (by kernel_rfl) (by kernel_rfl) (Rd.loadRow (b := b36) (i := o37 + k * 10) (xs := [Value.int .i64 y35.at_, Value.int .u32 y35.addr, Value.int .i64 y35.e.g, Value.int .i64 y35.e.s.f, Value.int .i64 y35.e.s.pc, Value.int .i64 y35.e.k, Value.int .i64 y35.l.g, Value.int .i64 y35.l.s.f, Value.int .i64 y35.l.s.pc, Value.int .i64 y35.l.k]) (by kernel_rfl) (fun _ hw => row_ld ((hw.1).getG 5 rfl) hy35 (Fr.refl No _) (fun h => h) 0 10 (by kernel_rfl)) (by kernel_rfl)) ?_; clear hA ac; intro ac hA
                                  refine sq_rd (v := Value.bool (!decide (y26 = y35))) hA (by kernel_rfl) (by kernel_rfl) (by kernel_rfl) (Rd.neS (u := y26.v) (v := y35.v) (by kernel_rfl) (by kernel_rfl) rfl rfl (by kernel_rfl) (fun w => eq_Flag w y26 y35)) ?_; clear hA ac; intro ac hA
                                  refine sq_rd (v := Value.bool (!decide (y26 = y35))) hA (by kernel_rfl) (by kernel_rfl) (by kernel_rfl) (Rd.pure fun _ => by kernel_rfl) ?_; clear hA ac; intro ac hA
                                  refine sq_nil ?_; intro w38 hww38; have hW := hww38.1; have hfw38 := hww38.2; clear hww38
                                  refine thenN ?_
                                  refine wpIn_cond_split (t := !decide (y26 = y35)) (hA.eval (by kernel_rfl)) (fun h39 => ?_) (fun h39 => ?_)
                                  · skip
                                    have h39 := not_t h39
                                    have h39 := of_decide_eq_false h39
                                    have h39e := fun e => h39 ((Flag.eqi _ _).2 e)
                                    first
                                    | (exfalso; clear hA hW; omega)
                                    | (exfalso; clear hA hW; exact absurd hg7 h39; done)
                                    | (exfalso; clear hA hW; exact absurd (same_at hg2.symm hy26 hy35) h39; done)
                                    | (
                                        fail)
                                  · skip
                                    have h39 := not_f h39
                                    have h39 := of_decide_eq_true h39
                                    have h39e := (Flag.eqi _ _).1 h39
                                    first
                                    | (exfalso; clear hA hW; omega)
                                    | (exfalso; clear hA hW; exact absurd hg7 h39; done)
                                    | (exfalso; clear hA hW; exact absurd (same_at hg2.symm hy26 hy35) h39; done)
                                    | (
                                        refine wpIn_skip ?_
                                        refine thenN ?_
                                        refine wpIn_seq ?_
                                        refine wpIn_region_lit ?_
                                        refine st_rdF (v := Value.int .i64 ((k : Nat) : Int)) hA (by kernel_rfl) (by kernel_rfl) (by kernel_rfl) (by kernel_rfl) hW.cls (Rd.load (b := b21) (i := 0) (by kernel_rfl) (fun _ hw => (hw.1).cel 2 rfl) (by kernel_rfl)) ?_; clear hA ac; intro ac hA
                                        refine st_rdF (v := Value.int .i64 ((k + 1 : Nat) : Int)) hA (by kernel_rfl) (by kernel_rfl) (by kernel_rfl) (by kernel_rfl) hW.cls (Rd.pureE (v0 := Value.int .i64 (IntKind.i64.wrap ((((k : Nat) : Int) : Int) + 1))) (fun _ => by kernel_rfl) (congrArg (Value.int .i64) ((w_i64 (x := (((k : Nat) : Int) : Int) + 1) (by omega) (by omega)).trans (by omega)))) ?_; clear hA ac; intro ac hA
                                        refine stF hA (by kernel_rfl) (by kernel_rfl) (by kernel_rfl) (by kernel_rfl) (RunsF.of (Runs.store (v := Value.int .i64 ((k + 1 : Nat) : Int)) (b := b21) (j := 0) (n := 1) (cs' := #[Value.int .i64 ((k + 1 : Nat) : Int)]) (H' := [Cel b27 #[Value.int .i64 y26.at_, Value.int .u32 y26.addr, Value.int .i64 y26.e.g, Value.int .i64 y26.e.s.f, Value.int .i64 y26.e.s.pc, Value.int .i64 y26.e.k, Value.int .i64 y26.l.g, Value.int .i64 y26.l.s.f, Value.int .i64 y26.l.s.pc, Value.int .i64 y26.l.k] 43, bs_24, Cel b21 #[Value.int .i64 ((k + 1 : Nat) : Int)] 3]) (by kernel_rfl) (by kernel_rfl) (by kernel_rfl) (by kernel_rfl) (by kernel_rfl) hW 2 (by rfl) (Nat.le_of_ble_eq_true (by kernel_rfl)) (by kernel_rfl) (by rfl) ?_)); clear hA ac hW; intro w40 hW ac hA
                                        refine wpListIn_nil ?_
                                        refine thenN ?_
                                        refine wpIn_seq ?_
                                        refine wpIn_region_lit ?_
                                        refine st_rdF (v := Value.int .i64 ((k + 1 : Nat) : Int)) hA (by kernel_rfl) (by kernel_rfl) (by kernel_rfl) (by kernel_rfl) hW.cls (Rd.load (b := b21) (i := 0) (by kernel_rfl) (fun _ hw => (hw.1).cel 2 rfl) (by kernel_rfl)) ?_; clear hA ac; intro ac hA
                                        refine st_rdF (v := Value.int .i64 many) hA (by kernel_rfl) (by kernel_rfl) (by kernel_rfl) (by kernel_rfl) hW.cls (Rd.load (b := b5) (i := 0) (by kernel_rfl) (fun _ hw => show _ = _ from (hw.1).getG 0 rfl) (by kernel_rfl)) ?_; clear hA ac; intro ac hA
                                        refine st_rdF (v := Value.bool (decide ((((k + 1 : Nat) : Int) : Int) ≥ (many : Int)))) hA (by kernel_rfl) (by kernel_rfl) (by kernel_rfl) (by kernel_rfl) hW.cls (Rd.pure fun _ => by kernel_rfl) ?_; clear hA ac; intro ac hA
                                        refine wpListIn_nil ?_
                                        refine thenN ?_
                                        refine wpIn_cond_split (t := decide ((((k + 1 : Nat) : Int) : Int) ≥ (many : Int))) (hA.eval (by kernel_rfl)) (fun h41 => ?_) (fun h41 => ?_)
                                        · skip
                                          have h41 := of_decide_eq_true h41
                                          first
                                          | (exfalso; clear hA hW; omega)
                                          | (exfalso; clear hA hW; exact absurd hg7 h41; done)
                                          | (exfalso; clear hA hW; exact absurd (same_at hg2.symm hy26 hy35) h41; done)
                                          | (
                                              refine wpIn_exit ?_
                                              refine blkY (by kernel_rfl) ?_
                                              exact ⟨_, ⟨rfl, k, by omega, rfl⟩, (hW.pick [1, 2] (by decide) rfl).pickG [0, 1, 2, 3, 4, 5] rfl⟩)
                                        · skip
                                          have h41 := of_decide_eq_false h41
                                          first
                                          | (exfalso; clear hA hW; omega)
                                          | (exfalso; clear hA hW; exact absurd hg7 h41; done)
                                          | (exfalso; clear hA hW; exact absurd (same_at hg2.symm hy26 hy35) h41; done)
                                          | (
                                              refine wpIn_skip ?_
                                              refine blkN ?_
                                              exact ⟨_, ⟨k + 1, hsny26, hlty26, by omega, rfl⟩, (hW.pick [1, 2] (by decide) rfl).pickG [0, 1, 2, 3, 4, 5] rfl⟩))))
                    · skip
                      clear hA ac hW; intro D42 xs_ Hk_ w43 ac hS_ hJ_ hA hW
                      obtain ⟨k, hpre_, hk_, hm, rfl⟩ := hJ_
                      have hke : k = T.l.length := by have := congrArg List.length (hS_.symm.trans hpre_); simp at this; omega
                      clear hpre_ hS_
                      replace hW : Ws w No [Cel b21 #[Value.int .i64 ((k : Nat) : Int)] 3, DefR D42, Cel b7 #[Value.bool false] 4, Cel b3 #[Value.int .i64 x.a.f, Value.int .i64 x.a.pc, Value.int .i64 x.b.f, Value.int .i64 x.b.pc] 54] [Cel b5 #[Value.int .i64 many] 3, Cel b1 #[Value.int .i64 most, Value.slice A_L L.length c_L, Value.slice A_P P.length c_P] 29, g11, TabR t p b A c T, roR A_P 4 enPair P, roR A_L 10 enFlag L] w43 := hW
                      refine blkN ?_
                      refine thenN ?_
                      refine wpIn_seq ?_
                      refine wpIn_region_lit ?_
                      refine st_rdF (v := Value.int .i64 ((k : Nat) : Int)) hA (by kernel_rfl) (by kernel_rfl) (by kernel_rfl) (by kernel_rfl) hW.cls (Rd.load (b := b21) (i := 0) (by kernel_rfl) (fun _ hw => (hw.1).cel 0 rfl) (by kernel_rfl)) ?_; clear hA ac; intro ac hA
                      refine st_rdF (v := Value.pointer (some ⟨b1, 1, none⟩)) hA (by kernel_rfl) (by kernel_rfl) (by kernel_rfl) (by kernel_rfl) hW.cls (Rd.pure fun _ => by kernel_rfl) ?_; clear hA ac; intro ac hA
                      refine st_rdF (v := Value.slice A_L L.length c_L) hA (by kernel_rfl) (by kernel_rfl) (by kernel_rfl) (by kernel_rfl) hW.cls (Rd.load (b := b1) (i := 1) (by kernel_rfl) (fun _ hw => show _ = _ from (hw.1).getG 1 rfl) (by kernel_rfl)) ?_; clear hA ac; intro ac hA
                      refine st_rdF (v := Value.int .i64 ((L.length : Nat) : Int)) hA (by kernel_rfl) (by kernel_rfl) (by kernel_rfl) (by kernel_rfl) hW.cls (Rd.pure fun _ => by kernel_rfl) ?_; clear hA ac; intro ac hA
                      refine st_rdF (v := Value.int .i64 many) hA (by kernel_rfl) (by kernel_rfl) (by kernel_rfl) (by kernel_rfl) hW.cls (Rd.load (b := b5) (i := 0) (by kernel_rfl) (fun _ hw => show _ = _ from (hw.1).getG 0 rfl) (by kernel_rfl)) ?_; clear hA ac; intro ac hA
                      refine st_rdF (v := Value.int .i64 (max (1 : Int) (many : Int))) hA (by kernel_rfl) (by kernel_rfl) (by kernel_rfl) (by kernel_rfl) hW.cls (Rd.pureE (v0 := Value.int .i64 (if (many : Int) > (1 : Int) then (many : Int) else (1 : Int))) (fun _ => by kernel_rfl) (congrArg (Value.int .i64) (max_ _ _))) ?_; clear hA ac; intro ac hA
                      refine st_rdF (v := Value.int .i64 (min (((L.length : Nat) : Int) : Int) (max (1 : Int) (many : Int) : Int))) hA (by kernel_rfl) (by kernel_rfl) (by kernel_rfl) (by kernel_rfl) hW.cls (Rd.pureE (v0 := Value.int .i64 (if (max (1 : Int) (many : Int) : Int) < (((L.length : Nat) : Int) : Int) then (max (1 : Int) (many : Int) : Int) else (((L.length : Nat) : Int) : Int))) (fun _ => by kernel_rfl) (congrArg (Value.int .i64) (min_ _ _))) ?_; clear hA ac; intro ac hA
                      refine st_rdF (v := Value.bool ((((k : Nat) : Int) : Int) == (min (((L.length : Nat) : Int) : Int) (max (1 : Int) (many : Int) : Int) : Int))) hA (by kernel_rfl) (by kernel_rfl) (by kernel_rfl) (by kernel_rfl) hW.cls (Rd.pure fun _ => by kernel_rfl) ?_; clear hA ac; intro ac hA
                      refine stF hA (by kernel_rfl) (by kernel_rfl) (by kernel_rfl) (by kernel_rfl) (RunsF.of (Runs.store (v := Value.bool ((((k : Nat) : Int) : Int) == (min (((L.length : Nat) : Int) : Int) (max (1 : Int) (many : Int) : Int) : Int))) (b := b7) (j := 0) (n := 1) (cs' := #[Value.bool ((((k : Nat) : Int) : Int) == (min (((L.length : Nat) : Int) : Int) (max (1 : Int) (many : Int) : Int) : Int))]) (H' := [Cel b21 #[Value.int .i64 ((k : Nat) : Int)] 3, DefR D42, Cel b7 #[Value.bool ((((k : Nat) : Int) : Int) == (min (((L.length : Nat) : Int) : Int) (max (1 : Int) (many : Int) : Int) : Int))] 4, Cel b3 #[Value.int .i64 x.a.f, Value.int .i64 x.a.pc, Value.int .i64 x.b.f, Value.int .i64 x.b.pc] 54]) (by kernel_rfl) (by kernel_rfl) (by kernel_rfl) (by kernel_rfl) (by kernel_rfl) hW 2 (by rfl) (Nat.le_of_ble_eq_true (by kernel_rfl)) (by kernel_rfl) (by rfl) ?_)); clear hA ac hW; intro w44 hW ac hA
                      refine wpListIn_nil ?_
                      refine thenN ?_
                      refine wpIn_ret ?_
                      refine retF (.inl rfl) hA ?_
                      refine leaveD (H' := [Cel b21 #[Value.int .i64 ((k : Nat) : Int)] 3, Cel b7 #[Value.bool ((((k : Nat) : Int) : Int) == (min (((L.length : Nat) : Int) : Int) (max (1 : Int) (many : Int) : Int) : Int))] 4, Cel b3 #[Value.int .i64 x.a.f, Value.int .i64 x.a.pc, Value.int .i64 x.b.f, Value.int .i64 x.b.pc] 54]) hW 1 rfl rfl ?_; clear hW; intro w45 hW
                      refine leave1 (v := Value.bool ((((k : Nat) : Int) : Int) == (min (((L.length : Nat) : Int) : Int) (max (1 : Int) (many : Int) : Int) : Int))) (by rfl) (GotF.cell (b := b7) (i := 0) hA (by kernel_rfl) (by kernel_rfl) (hW.cel 1 rfl) (by kernel_rfl)) ?_
                      clear hA
                      exact ⟨retv (by (refine congrArg Value.bool (beq_iff_eq.2 ?_); omega)), hW.fr⟩
                    · skip
                      clear hA ac hW; intro D46 c_ pre_ Hk_ w47 ac hJ_ hA hW
                      rcases hJ_ with ⟨rfl, k, hx, rfl⟩
                      · skip
                        replace hW : Ws w No [Cel b21 #[Value.int .i64 ((k + 1 : Nat) : Int)] 3, DefR D46, Cel b7 #[Value.bool false] 4, Cel b3 #[Value.int .i64 x.a.f, Value.int .i64 x.a.pc, Value.int .i64 x.b.f, Value.int .i64 x.b.pc] 54] [Cel b5 #[Value.int .i64 many] 3, Cel b1 #[Value.int .i64 most, Value.slice A_L L.length c_L, Value.slice A_P P.length c_P] 29, g11, TabR t p b A c T, roR A_P 4 enPair P, roR A_L 10 enFlag L] w47 := hW
                        refine wpIn_exit ?_
                        refine blkX ?_
                        refine thenN ?_
                        refine wpIn_seq ?_
                        refine wpIn_region_lit ?_
                        refine st_rdF (v := Value.int .i64 ((k + 1 : Nat) : Int)) hA (by kernel_rfl) (by kernel_rfl) (by kernel_rfl) (by kernel_rfl) hW.cls (Rd.load (b := b21) (i := 0) (by kernel_rfl) (fun _ hw => (hw.1).cel 0 rfl) (by kernel_rfl)) ?_; clear hA ac; intro ac hA
                        refine st_rdF (v := Value.pointer (some ⟨b1, 1, none⟩)) hA (by kernel_rfl) (by kernel_rfl) (by kernel_rfl) (by kernel_rfl) hW.cls (Rd.pure fun _ => by kernel_rfl) ?_; clear hA ac; intro ac hA
                        refine st_rdF (v := Value.slice A_L L.length c_L) hA (by kernel_rfl) (by kernel_rfl) (by kernel_rfl) (by kernel_rfl) hW.cls (Rd.load (b := b1) (i := 1) (by kernel_rfl) (fun _ hw => show _ = _ from (hw.1).getG 1 rfl) (by kernel_rfl)) ?_; clear hA ac; intro ac hA
                        refine st_rdF (v := Value.int .i64 ((L.length : Nat) : Int)) hA (by kernel_rfl) (by kernel_rfl) (by kernel_rfl) (by kernel_rfl) hW.cls (Rd.pure fun _ => by kernel_rfl) ?_; clear hA ac; intro ac hA
                        refine st_rdF (v := Value.int .i64 many) hA (by kernel_rfl) (by kernel_rfl) (by kernel_rfl) (by kernel_rfl) hW.cls (Rd.load (b := b5) (i := 0) (by kernel_rfl) (fun _ hw => show _ = _ from (hw.1).getG 0 rfl) (by kernel_rfl)) ?_; clear hA ac; intro ac hA
                        refine st_rdF (v := Value.int .i64 (max (1 : Int) (many : Int))) hA (by kernel_rfl) (by kernel_rfl) (by kernel_rfl) (by kernel_rfl) hW.cls (Rd.pureE (v0 := Value.int .i64 (if (many : Int) > (1 : Int) then (many : Int) else (1 : Int))) (fun _ => by kernel_rfl) (congrArg (Value.int .i64) (max_ _ _))) ?_; clear hA ac; intro ac hA
                        refine st_rdF (v := Value.int .i64 (min (((L.length : Nat) : Int) : Int) (max (1 : Int) (many : Int) : Int))) hA (by kernel_rfl) (by kernel_rfl) (by kernel_rfl) (by kernel_rfl) hW.cls (Rd.pureE (v0 := Value.int .i64 (if (max (1 : Int) (many : Int) : Int) < (((L.length : Nat) : Int) : Int) then (max (1 : Int) (many : Int) : Int) else (((L.length : Nat) : Int) : Int))) (fun _ => by kernel_rfl) (congrArg (Value.int .i64) (min_ _ _))) ?_; clear hA ac; intro ac hA
                        refine st_rdF (v := Value.bool ((((k + 1 : Nat) : Int) : Int) == (min (((L.length : Nat) : Int) : Int) (max (1 : Int) (many : Int) : Int) : Int))) hA (by kernel_rfl) (by kernel_rfl) (by kernel_rfl) (by kernel_rfl) hW.cls (Rd.pure fun _ => by kernel_rfl) ?_; clear hA ac; intro ac hA
                        refine stF hA (by kernel_rfl) (by kernel_rfl) (by kernel_rfl) (by kernel_rfl) (RunsF.of (Runs.store (v := Value.bool ((((k + 1 : Nat) : Int) : Int) == (min (((L.length : Nat) : Int) : Int) (max (1 : Int) (many : Int) : Int) : Int))) (b := b7) (j := 0) (n := 1) (cs' := #[Value.bool ((((k + 1 : Nat) : Int) : Int) == (min (((L.length : Nat) : Int) : Int) (max (1 : Int) (many : Int) : Int) : Int))]) (H' := [Cel b21 #[Value.int .i64 ((k + 1 : Nat) : Int)] 3, DefR D46, Cel b7 #[Value.bool ((((k + 1 : Nat) : Int) : Int) == (min (((L.length : Nat) : Int) : Int) (max (1 : Int) (many : Int) : Int) : Int))] 4, Cel b3 #[Value.int .i64 x.a.f, Value.int .i64 x.a.pc, Value.int .i64 x.b.f, Value.int .i64 x.b.pc] 54]) (by kernel_rfl) (by kernel_rfl) (by kernel_rfl) (by kernel_rfl) (by kernel_rfl) hW 2 (by rfl) (Nat.le_of_ble_eq_true (by kernel_rfl)) (by kernel_rfl) (by rfl) ?_)); clear hA ac hW; intro w48 hW ac hA
                        refine wpListIn_nil ?_
                        refine thenN ?_
                        refine wpIn_ret ?_
                        refine retF (.inl rfl) hA ?_
                        refine leaveD (H' := [Cel b21 #[Value.int .i64 ((k + 1 : Nat) : Int)] 3, Cel b7 #[Value.bool ((((k + 1 : Nat) : Int) : Int) == (min (((L.length : Nat) : Int) : Int) (max (1 : Int) (many : Int) : Int) : Int))] 4, Cel b3 #[Value.int .i64 x.a.f, Value.int .i64 x.a.pc, Value.int .i64 x.b.f, Value.int .i64 x.b.pc] 54]) hW 1 rfl rfl ?_; clear hW; intro w49 hW
                        refine leave1 (v := Value.bool ((((k + 1 : Nat) : Int) : Int) == (min (((L.length : Nat) : Int) : Int) (max (1 : Int) (many : Int) : Int) : Int))) (by rfl) (GotF.cell (b := b7) (i := 0) hA (by kernel_rfl) (by kernel_rfl) (hW.cel 1 rfl) (by kernel_rfl)) ?_
                        clear hA
                        exact ⟨retv (by (refine congrArg Value.bool (beq_iff_eq.2 ?_); omega)), hW.fr⟩)))

end Go.Proofs.Ytgkhaoogfpnbbaa.L
