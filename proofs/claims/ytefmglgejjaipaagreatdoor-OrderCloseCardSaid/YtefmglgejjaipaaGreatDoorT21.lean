/- Contracts, walked by program over the engine's laws. -/
import Derived.Test.YtefmglgejjaipaaGreatDoorProg
import Derived.Test.YtefmglgejjaipaaGreatDoorT20
namespace Go.Proofs.YtefmglgejjaipaaGreatDoor.L
open Go.RowKit

def deEvent : List Value → Event
  | [.int _ a0, .int _ a1, .int _ a2, .int _ a3, .int _ a4, .int _ a5, .int _ a6, .int _ a7, .int _ a8] => ⟨a0, a1, ⟨a2, a3⟩, a4, a5, a6, a7, a8⟩
  | _ => ⟨0, 0, ⟨0, 0⟩, 0, 0, 0, 0, 0⟩
def wfEvent (x : Event) : Prop := (Lit.int .i64 x.g).wf = true ∧ (Lit.int .i64 x.kind).wf = true ∧ (Lit.int .i64 x.site.f).wf = true ∧ (Lit.int .i64 x.site.pc).wf = true ∧ (Lit.int .u32 x.addr).wf = true ∧ (Lit.int .i64 x.child).wf = true ∧ (Lit.int .i64 x.obj).wf = true ∧ (Lit.int .i64 x.n).wf = true ∧ (Lit.int .i64 x.trap).wf = true ∧ True
theorem deEvent_ok (cs : List Value) (h : cksOk [.int .i64, .int .i64, .int .i64, .int .i64, .int .u32, .int .i64, .int .i64, .int .i64, .int .i64] cs) : enEvent (deEvent cs) = cs ∧ wfEvent (deEvent cs) := by
  have hl := cksOk_length h
  match cs, hl, h with
  | [c0, c1, c2, c3, c4, c5, c6, c7, c8], _, ⟨⟨_, h0, w0⟩, ⟨_, h1, w1⟩, ⟨_, h2, w2⟩, ⟨_, h3, w3⟩, ⟨_, h4, w4⟩, ⟨_, h5, w5⟩, ⟨_, h6, w6⟩, ⟨_, h7, w7⟩, ⟨_, h8, w8⟩, _⟩ =>
    subst h0 h1 h2 h3 h4 h5 h6 h7 h8
    exact ⟨rfl, w0, w1, w2, w3, w4, w5, w6, w7, w8, trivial⟩
theorem flatEvent {v : Value} (h : cksOk [.int .i64, .int .i64, .int .i64, .int .i64, .int .u32, .int .i64, .int .i64, .int .i64, .int .i64] v.cells.toList) : ∃ x : Event, v = x.v ∧ wfEvent x := by
  have hl := cksOk_length h
  cases v with
  | agg a => exact ⟨deEvent a.toList, by have := (deEvent_ok _ h).1; have h2 := congrArg List.toArray this; exact congrArg Value.agg (h2.symm), (deEvent_ok _ h).2⟩
  | _ => simp [Value.cells] at hl
theorem few_len {l : List Event} {m : Int} (h : fewOk l m = true) : (l.length : Int) ≤ m := by unfold fewOk at h; rw [Bool.and_eq_true] at h; exact of_decide_eq_true h.2
theorem newErr_rng (l : List Event) : newErr l = 2 ∨ newErr l = 3 := by unfold newErr; split <;> simp
theorem wf_event {x : Event} (h : wfEvent x) : (-9223372036854775808 ≤ x.kind ∧ x.kind ≤ 9223372036854775807) ∧ 0 ≤ x.addr ∧ x.addr ≤ 4294967295 := by
  obtain ⟨-, h1, -, -, h2, -⟩ := h
  simp [Lit.wf, IntKind.min, IntKind.max] at h1 h2
  simp only [IntKind.bits, IntKind.signed] at h1 h2
  simp at h1 h2
  omega
set_option maxHeartbeats 4000000 in
set_option maxRecDepth 100000 in
theorem e_orderClose (A_l : Option Addr) (c_l : Nat) (l : List Event) (many : Int) (w : World) (hr_l : RowAt w A_l 9 enEvent l) (hc_l : l.length ≤ c_l) (hl : l.length ≤ 9223372036854775807) (hel : ∀ x ∈ l, (-9223372036854775808 ≤ x.kind ∧ x.kind ≤ 9223372036854775807) ∧ 0 ≤ x.addr ∧ x.addr ≤ 4294967295) (hmy : -9223372036854775808 ≤ many ∧ many ≤ 9223372036854775807) : Calls Tryz.prog 3 #[Value.slice A_l l.length c_l, Value.int .i64 many] w (fun e w' => e = .returned (Value.bool true) ∧ Fr No w w') := by
 have _hu := hc_l; have _hv := hr_l; clear _hu _hv
 have _hu := hl; clear _hu
 have _hu := hel; clear _hu
 have _hu := hmy; clear _hu
 refine enter_F 97 Tryz.func3 rfl rfl (by kernel_rfl) (L := [(0, Value.slice A_l l.length c_l), (1, Value.int .i64 many)]) (by kernel_rfl) ?_
 intro ac hA
 have hW := Ws.start w No
 have hW := hW.arg hr_l
 refine wpIn_seq ?_
 refine wpIn_region_lit ?_
 refine sf_s hA (RunsF.of (Runs.cells (fun b => Value.pointer (some ⟨b, 0, none⟩)) #[Value.int .i64 many] 3 (fun _ => by kernel_rfl) hW ?_)); clear hA ac hW; intro b1 w2 hW hb1 hfw2 ac hA
 refine sf_s hA (RunsF.of (Runs.cells (fun b => Value.pointer (some ⟨b, 0, none⟩)) #[Value.bool false] 4 (fun _ => by kernel_rfl) hW ?_)); clear hA ac hW; intro b3 w4 hW hb3 hfw4 ac hA
 refine wpListIn_nil ?_
 refine thenN ?_
 refine wpIn_seq ?_
 refine wpIn_seq ?_
 refine wpIn_region_lit ?_
 refine sf_p (Value.slice A_l l.length c_l) hA ?_; clear hA ac; intro ac hA
 refine sf_s hA (RunsF.of (Runs.callN (v := Value.bool (fewOk l (40))) (fun _ => by kernel_rfl) hW (e_lfew A_l c_l l (40) w4 ((hW).getG 0 rfl) (by first | assumption | omega | (simp; omega) | simp) hl hel (by decide) (by decide)) ?_)); clear hA ac hW; intro w5 hW hfw5 ac hA
 refine sf_p (Value.bool (!(fewOk l (40)))) hA ?_; clear hA ac; intro ac hA
 refine wpListIn_nil ?_
 refine thenN ?_
 refine wpIn_cond_split (t := !(fewOk l (40))) (hA.eval (by kernel_rfl)) (fun h6 => ?_) (fun h6 => ?_)
 ·
  have h6 := not_t h6
  first
  | (exfalso; clear hA hW; omega)
  | (exfalso; clear hA hW; exact h6 rfl; done)
  | (
   refine wpIn_seq ?_
   refine wpIn_region_lit ?_
   refine sf_s hA (RunsF.of (Runs.callN (v := Value.bool true) (fun _ => by kernel_rfl) hW (e_works w5) ?_)); clear hA ac hW; intro w7 hW hfw7 ac hA
   refine sf_s hA (RunsF.of (Runs.store (v := Value.bool true) (b := b3) (j := 0) (n := 1) (cs' := #[Value.bool true]) (H' := [Cel b3 #[Value.bool true] 4, Cel b1 #[Value.int .i64 many] 3]) (by kernel_rfl) (by kernel_rfl) (by kernel_rfl) (by kernel_rfl) (by kernel_rfl) hW 0 (by rfl) (Nat.le_of_ble_eq_true (by kernel_rfl)) (by kernel_rfl) (by rfl) ?_)); clear hA ac hW; intro w8 hW ac hA
   refine wpListIn_nil ?_
   refine thenN ?_
   refine wpIn_ret ?_
   refine thenR ?_
   refine retF (.inl rfl) hA ?_
   refine leave1 (v := Value.bool true) (by rfl) (GotF.cell (b := b3) (i := 0) hA (by kernel_rfl) (by kernel_rfl) (hW.cel 0 rfl) (by kernel_rfl)) ?_
   clear hA
   exact ⟨retv (by rfl), hW.fr⟩)
 have h6 := not_f h6
 first
 | (exfalso; clear hA hW; omega)
 | (exfalso; clear hA hW; exact h6 rfl; done)
 | (
  refine wpIn_skip ?_
  refine thenN ?_
  refine wpIn_seq ?_
  have hfl_ := few_len (show fewOk l 40 = true from h6)
  rcases Bool.eq_false_or_eq_true (decide (newOk l)) with h9 | h9
  ·
   have h9 := of_decide_eq_true h9
   first
   | (exfalso; clear hA hW; omega)
   | (exfalso; clear hA hW; exact h9 rfl; done)
   | (
    have hfl_ := few_len (show fewOk l 40 = true from h6)
    have hfl_ := few_len (show fewOk l 40 = true from h6)
    refine wpIn_region_lit ?_
    refine sf_p (Value.slice A_l l.length c_l) hA ?_; clear hA ac; intro ac hA
    refine sf_s hA (RunsF.of (Runs.call (fun _ => by kernel_rfl) (e_onew A_l c_l l w5 ((hW).getG 0 rfl) (by first | assumption | omega | (simp; omega) | simp) (by omega) (And.right (by assumption)) (fun x hx => (hel x hx).2)) ?_))
    rintro _ w10 ⟨n11, n12, n13, n14, n15, n16, n17, n18, n19, n20, rfl, hw10_hK, hu_⟩; refine ⟨_, rfl, ?_⟩; replace hW := hW.made hu_; clear hA ac; intro ac hA
    refine sf_p (Value.tuple #[Value.pointer (some ⟨n11, 0, none⟩), Value.int .i64 0]) hA fun ac hA => sf_p (Value.pointer (some ⟨n11, 0, none⟩)) hA fun ac hA => sf_p (Value.int .i64 0) hA fun ac hA => sf_p (Value.pointer (some ⟨n11, 0, none⟩)) hA fun ac hA => sf_p (Value.int .i64 0) hA fun ac hA => ?_
    refine wpListIn_nil ?_
    refine thenN ?_
    refine wpIn_seq ?_
    refine wpIn_region_lit ?_
    refine sf_p (Value.slice A_l l.length c_l) hA ?_; clear hA ac; intro ac hA
    refine sf_s hA (RunsF.of (Runs.call (fun _ => by kernel_rfl) (e_rnew A_l c_l l w10 ((hW).getG 0 rfl) (by first | assumption | omega | (simp; omega) | simp) (by omega) (And.right (by assumption)) hel) ?_))
    rintro _ w21 ⟨g22, AoL23, coL24, AoB25, coB26, rfl, hw21_hB, hccoL24, hccoB26, hkcoB26, hfcoL24, hfcoB26, hnfcoB26, hfw21⟩; refine ⟨_, rfl, ?_⟩; have hW0 := hW; have hW := hW0.call hfw21
    have hW := hW0.addFromAt hW hfcoL24 (in_cons (in_at 0 rfl) in_nil)
    have hW := hW0.addFromAt hW hfcoB26 (in_cons (in_at 0 rfl) in_nil)
    have hW := hW0.addFromAt hW hnfcoB26 (in_cons (in_at 0 rfl) in_nil)
    clear hW0 hA ac; intro ac hA
    refine sf_p (Value.tuple #[Value.agg #[Value.slice AoL23 (l).length coL24, Value.slice AoB25 (g22).length coB26], Value.int .i64 0]) hA fun ac hA => sf_p (Value.agg #[Value.slice AoL23 (l).length coL24, Value.slice AoB25 (g22).length coB26]) hA fun ac hA => sf_p (Value.int .i64 0) hA fun ac hA => ?_
    refine sf_s hA (RunsF.of (Runs.cells (fun b => Value.pointer (some ⟨b, 0, none⟩)) #[Value.slice none 0 0, Value.slice none 0 0] 31 (fun _ => by kernel_rfl) hW ?_)); clear hA ac hW; intro b27 w28 hW hb27 hfw28 ac hA
    refine sf_s hA (RunsF.of (Runs.store (v := Value.agg #[Value.slice AoL23 (l).length coL24, Value.slice AoB25 (g22).length coB26]) (b := b27) (j := 0) (n := 2) (cs' := #[Value.slice AoL23 (l).length coL24, Value.slice AoB25 (g22).length coB26]) (H' := [Cel b27 #[Value.slice AoL23 (l).length coL24, Value.slice AoB25 (g22).length coB26] 31, OrdR n11 n12 n13 l n14 n15 n16 n17 n18 n19 n20, Cel b3 #[Value.bool false] 4, Cel b1 #[Value.int .i64 many] 3]) (by kernel_rfl) (by kernel_rfl) (by kernel_rfl) (by kernel_rfl) (by kernel_rfl) hW 0 (by rfl) (Nat.le_of_ble_eq_true (by kernel_rfl)) (by kernel_rfl) (by rfl) ?_)); clear hA ac hW; intro w29 hW ac hA
    refine sf_p (Value.int .i64 0) hA ?_; clear hA ac; intro ac hA
    refine wpListIn_nil ?_
    refine thenN ?_
    refine wpIn_seq ?_
    refine wpIn_seq ?_
    have hok := hw10_hK; have hev := hok.ev; have hlc_ := hok.clen
    have hBr_ := hw21_hB; have hrc_ := rcl_eq l l.length; have hrl_ : (rclP l l.length).length = (closeP l l.length).length := (by rw [hrc_, List.length_map]); have hpl_ : (closeP l l.length).length ≤ 40 * 40 := Nat.le_trans (closeP_len l l.length) (Nat.mul_le_mul (by omega) (by omega))
    refine wpIn_region_lit ?_
    refine sf_p (Value.int .i64 0) hA fun ac hA => sf_p (Value.bool false) hA fun ac hA => ?_
    refine wpListIn_nil ?_
    refine thenN ?_
    refine wpIn_cond_false (hA.eval (by kernel_rfl)) ?_
    refine wpIn_skip ?_
    refine thenN ?_
    refine wpIn_seq ?_
    refine wpIn_region_lit ?_
    refine sf_q (Value.agg #[Value.slice AoL23 (l).length coL24, Value.slice AoB25 (g22).length coB26]) hA hW.cls (Rd.load (b := b27) (i := 0) (by kernel_rfl) (fun _ hw => (hw.1).cel 0 rfl) (by kernel_rfl)) ?_; clear hA ac; intro ac hA
    refine sf_s hA (RunsF.of (Runs.callRow (E := 41) (sz := 2) (en := enPr) (l := (rclP l l.length)) (fun _ => by kernel_rfl) hW (e_rclose AoL23 coL24 l AoB25 coB26 g22 w29 ((hW).getG 2 rfl) (by first | assumption | omega | (simp; omega) | simp) ((hW).getG 1 rfl) (by first | assumption | omega | (simp; omega) | simp) ((hW).getG 0 rfl) hkcoB26 (by omega) hBr_) ?_)); clear hA ac hW; intro A31 c32 w30 hW hcc32 hfw30 ac hA
    refine sf_s hA (RunsF.of (Runs.cells (fun b => Value.pointer (some ⟨b, 0, none⟩)) #[Value.slice none 0 0] 35 (fun _ => by kernel_rfl) hW ?_)); clear hA ac hW; intro b34 w35 hW hb34 hfw35 ac hA
    refine sf_s hA (RunsF.of (Runs.store (v := Value.slice A31 (rclP l l.length).length c32) (b := b34) (j := 0) (n := 1) (cs' := #[Value.slice A31 (rclP l l.length).length c32]) (H' := [Cel b34 #[Value.slice A31 (rclP l l.length).length c32] 35, rowR 41 2 enPr (Value.slice A31 (rclP l l.length).length c32) (rclP l l.length), Cel b27 #[Value.slice AoL23 (l).length coL24, Value.slice AoB25 (g22).length coB26] 31, OrdR n11 n12 n13 l n14 n15 n16 n17 n18 n19 n20, Cel b3 #[Value.bool false] 4, Cel b1 #[Value.int .i64 many] 3]) (by kernel_rfl) (by kernel_rfl) (by kernel_rfl) (by kernel_rfl) (by kernel_rfl) hW 0 (by rfl) (Nat.le_of_ble_eq_true (by kernel_rfl)) (by kernel_rfl) (by rfl) ?_)); clear hA ac hW; intro w36 hW ac hA
    refine wpListIn_nil ?_
    refine thenN ?_
    refine wpIn_seq ?_
    refine wpIn_region_lit ?_
    refine sf_p (Value.pointer (some ⟨n11, 0, none⟩)) hA ?_; clear hA ac; intro ac hA
    refine sf_s hA (RunsF.of (Runs.call (fun _ => by kernel_rfl) (e_oClose n11 n12 n13 l n14 n15 n16 n17 n18 n19 n20 w36 ((hW).get 3 rfl) ((hW).lt _ (List.mem_of_getElem? (i := 3) rfl)) hok (by omega)) ?_))
    rintro _ w37 ⟨lb38, g39, rfl, hIg39, hfg39, hfw37⟩; refine ⟨_, rfl, ?_⟩; have hW0 := hW; have hW := hW0.call hfw37; have hW := hW0.addFromAt hW hfg39 in_nil; clear hW0 hA ac; intro ac hA
    refine sf_p (Value.func (.func 31) #[] lb38) hA ?_; clear hA ac; intro ac hA
    refine wpListIn_nil ?_
    refine thenN ?_
    refine wpIn_seq ?_
    refine wpIn_seq ?_
    refine wpIn_region_lit ?_
    refine sf_p (Value.func (.func 31) #[] lb38) hA fun ac hA => sf_p (Value.bool false) hA fun ac hA => ?_
    refine wpListIn_nil ?_
    refine thenN ?_
    refine wpIn_cond_false (hA.eval (by kernel_rfl)) ?_
    refine wpIn_skip ?_
    refine thenN ?_
    refine wpIn_seq ?_
    refine wpIn_seq ?_
    refine wpIn_region_lit ?_
    refine sf_s hA (RunsF.of (Runs.cells (fun b => Value.pointer (some ⟨b, 0, none⟩)) #[Value.int .i64 0] 3 (fun _ => by kernel_rfl) hW ?_)); clear hA ac hW; intro b40 w41 hW hb40 hfw41 ac hA
    refine sf_s hA (RunsF.of (Runs.store (v := Value.int .i64 0) (b := b40) (j := 0) (n := 1) (cs' := #[Value.int .i64 0]) (H' := [Cel b40 #[Value.int .i64 0] 3, Cel b34 #[Value.slice A31 (rclP l l.length).length c32] 35, rowR 41 2 enPr (Value.slice A31 (rclP l l.length).length c32) (rclP l l.length), Cel b27 #[Value.slice AoL23 (l).length coL24, Value.slice AoB25 (g22).length coB26] 31, OrdR n11 n12 n13 l n14 n15 n16 n17 n18 n19 n20, Cel b3 #[Value.bool false] 4, Cel b1 #[Value.int .i64 many] 3]) (by kernel_rfl) (by kernel_rfl) (by kernel_rfl) (by kernel_rfl) (by kernel_rfl) hW 0 (by rfl) (Nat.le_of_ble_eq_true (by kernel_rfl)) (by kernel_rfl) (by rfl) ?_)); clear hA ac hW; intro w42 hW ac hA
    refine wpListIn_nil ?_
    refine thenN ?_
    refine wpIn_block ?_
    refine wpIn_loop_rounds 3 ?_
    rw [roundsIn_succ]
    refine wpIn_seq ?_
    refine wpIn_seq ?_
    refine wpIn_region_lit ?_
    refine sf_q (Value.int .i64 0) hA hW.cls (Rd.load (b := b40) (i := 0) (by kernel_rfl) (fun _ hw => (hw.1).cel 0 rfl) (by kernel_rfl)) fun ac hA => sf_p (Value.bool true) hA fun ac hA => ?_
    refine wpListIn_nil ?_
    refine thenN ?_
    refine wpIn_cond_true (hA.eval (by kernel_rfl)) ?_
    refine wpIn_skip ?_
    refine thenN ?_
    refine wpIn_seq ?_
    refine wpIn_block ?_
    refine wpIn_seq ?_
    refine wpIn_region_lit ?_
    refine sf_s hA (RunsF.of (Runs.cells (fun b => Value.pointer (some ⟨b, 0, none⟩)) #[Value.int .i64 0] 3 (fun _ => by kernel_rfl) hW ?_)); clear hA ac hW; intro b43 w44 hW hb43 hfw44 ac hA
    refine sf_s hA (RunsF.of (Runs.store (v := Value.int .i64 0) (b := b43) (j := 0) (n := 1) (cs' := #[Value.int .i64 0]) (H' := [Cel b43 #[Value.int .i64 0] 3, Cel b40 #[Value.int .i64 0] 3, Cel b34 #[Value.slice A31 (rclP l l.length).length c32] 35, rowR 41 2 enPr (Value.slice A31 (rclP l l.length).length c32) (rclP l l.length), Cel b27 #[Value.slice AoL23 (l).length coL24, Value.slice AoB25 (g22).length coB26] 31, OrdR n11 n12 n13 l n14 n15 n16 n17 n18 n19 n20, Cel b3 #[Value.bool false] 4, Cel b1 #[Value.int .i64 many] 3]) (by kernel_rfl) (by kernel_rfl) (by kernel_rfl) (by kernel_rfl) (by kernel_rfl) hW 0 (by rfl) (Nat.le_of_ble_eq_true (by kernel_rfl)) (by kernel_rfl) (by rfl) ?_)); clear hA ac hW; intro w45 hW ac hA
    refine wpListIn_nil ?_
    refine thenN ?_
    refine wpIn_seq ?_
    refine wpIn_seq ?_
    have hW := hW.share 3 rfl (H' := [Cel b43 #[Value.int .i64 0] 3, Cel b40 #[Value.int .i64 0] 3, Cel b34 #[Value.slice A31 (rclP l l.length).length c32] 35, Cel b27 #[Value.slice AoL23 (l).length coL24, Value.slice AoB25 (g22).length coB26] 31, OrdR n11 n12 n13 l n14 n15 n16 n17 n18 n19 n20, Cel b3 #[Value.bool false] 4, Cel b1 #[Value.int .i64 many] 3]) rfl
    have hW := hW.nestG (roR A31 2 enPr (rclP l l.length)) (rowR_at (E := 41) (hW.getG 0 rfl) elt_Pr.len) (fun _ hb_ => ⟨_, List.mem_of_getElem? (i := 0) rfl, rowR_fp _ hb_⟩)
    have hW := hW.share 2 rfl (H' := [Cel b43 #[Value.int .i64 0] 3, Cel b40 #[Value.int .i64 0] 3, Cel b27 #[Value.slice AoL23 (l).length coL24, Value.slice AoB25 (g22).length coB26] 31, OrdR n11 n12 n13 l n14 n15 n16 n17 n18 n19 n20, Cel b3 #[Value.bool false] 4, Cel b1 #[Value.int .i64 many] 3]) rfl
    replace hW : Ws w No [Cel b43 #[Value.int .i64 0] 3, Cel b40 #[Value.int .i64 0] 3, Cel b27 #[Value.slice AoL23 (l).length coL24, Value.slice AoB25 (g22).length coB26] 31, OrdR n11 n12 n13 l n14 n15 n16 n17 n18 n19 n20, Cel b3 #[Value.bool false] 4, Cel b1 #[Value.int .i64 many] 3] [Cel b34 #[Value.slice A31 (rclP l l.length).length c32] 35, roR A31 2 enPr (rclP l l.length), rowR 41 2 enPr (Value.slice A31 (rclP l l.length).length c32) (rclP l l.length), g39, nestR innerBV g22, roR AoB25 1 enBV g22, roR AoL23 9 enEvent l, roR A_l 9 enEvent l] w45 := hW
    refine wpIn_region_lit ?_
    refine sf_p (Value.func (.func 31) #[] lb38) hA ?_; clear hA ac; intro ac hA
    refine wpListIn_nil ?_
    refine thenN ?_
    refine wpIn_block ?_
    have hW := hW.share 5 rfl (H' := [Cel b43 #[Value.int .i64 0] 3, Cel b40 #[Value.int .i64 0] 3, Cel b27 #[Value.slice AoL23 (l).length coL24, Value.slice AoB25 (g22).length coB26] 31, OrdR n11 n12 n13 l n14 n15 n16 n17 n18 n19 n20, Cel b3 #[Value.bool false] 4]) rfl
    have hW := hW.share 1 rfl (H' := [Cel b43 #[Value.int .i64 0] 3, Cel b27 #[Value.slice AoL23 (l).length coL24, Value.slice AoB25 (g22).length coB26] 31, OrdR n11 n12 n13 l n14 n15 n16 n17 n18 n19 n20, Cel b3 #[Value.bool false] 4]) rfl
    refine wp_range (encs := (fun x_ : Two => #[Value.int .i64 x_.a, Value.int .i64 x_.b])) (Sx := (· = (closeP l l.length))) hA (by kernel_rfl) (by kernel_rfl) (enters_of Tryz.func31 (by kernel_rfl) rfl) (by kernel_rfl) (fun _ => rfl) hIg39 (List.forall_mem_singleton.2 (List.mem_of_getElem? (i := 5) rfl)) (fun pre_ H_ => ∃ k : Nat, pre_ = (closeP l l.length).take k ∧ k ≤ (closeP l l.length).length ∧ (k = 0 ∨ (k : Int) < many) ∧ H_ = [Cel b43 #[Value.int .i64 ((k : Nat) : Int)] 3]) (fun c_ _ H_ => (c_ = .exit 2 ∧ ∃ n : Nat, (1 ≤ n ∧ n ≤ (closeP l l.length).length ∧ (n : Int) ≥ many ∧ (n = 1 ∨ (n : Int) - 1 < many)) ∧ H_ = [Cel b43 #[Value.int .i64 ((n : Nat) : Int)] 3])) (H := [Cel b43 #[Value.int .i64 0] 3]) (K := [Cel b27 #[Value.slice AoL23 (l).length coL24, Value.slice AoB25 (g22).length coB26] 31, OrdR n11 n12 n13 l n14 n15 n16 n17 n18 n19 n20, Cel b3 #[Value.bool false] 4]) (hW.pick [0, 1, 2, 3] (by decide) rfl) ⟨0, rfl, Nat.zero_le _, by omega, rfl⟩ ?_ ?_ ?_
    ·
     clear hA ac hW; intro l_46 rd_46 bs_46 pre_ x_ Hk_ w47 T_46 ac hrd_46 hbs_46 hbr_46 hok_ hJ_ hA hW hB_46 hT_46
     obtain ⟨k, rfl, hk_, hm_, rfl⟩ := hJ_
     obtain ⟨y48, h_⟩ : ∃ y_, y_ = x_ := ⟨_, rfl⟩; subst h_; obtain ⟨hy48, hlty48, hsny48⟩ := comes_list hok_ hk_
     replace hA : Fm 97 [] [(0, Value.slice A_l l.length c_l), (1, Value.int .i64 many), (3, Value.pointer (some ⟨b1, 0, none⟩)), (4, Value.pointer (some ⟨b3, 0, none⟩)), (5, Value.pointer (some ⟨n11, 0, none⟩)), (6, Value.int .i64 0), (7, Value.pointer (some ⟨b27, 0, none⟩)), (8, Value.int .i64 0), (9, Value.pointer (some ⟨b34, 0, none⟩)), (10, Value.func (.func 31) #[] lb38), (11, Value.pointer (some ⟨b40, 0, none⟩)), (12, Value.pointer (some ⟨b43, 0, none⟩)), (15, Value.slice A_l l.length c_l), (16, Value.bool (fewOk l (40))), (17, Value.bool (!(fewOk l (40)))), (19, Value.tuple #[Value.pointer (some ⟨n11, 0, none⟩), Value.int .i64 0]), (20, Value.slice A_l l.length c_l), (21, Value.tuple #[Value.pointer (some ⟨n11, 0, none⟩), Value.int .i64 0]), (22, Value.pointer (some ⟨n11, 0, none⟩)), (23, Value.int .i64 0), (24, Value.tuple #[Value.agg #[Value.slice AoL23 (l).length coL24, Value.slice AoB25 (g22).length coB26], Value.int .i64 0]), (25, Value.slice A_l l.length c_l), (26, Value.tuple #[Value.agg #[Value.slice AoL23 (l).length coL24, Value.slice AoB25 (g22).length coB26], Value.int .i64 0]), (27, Value.agg #[Value.slice AoL23 (l).length coL24, Value.slice AoB25 (g22).length coB26]), (28, Value.int .i64 0), (29, Value.int .i64 0), (30, Value.bool false), (38, Value.agg #[Value.slice AoL23 (l).length coL24, Value.slice AoB25 (g22).length coB26]), (39, Value.slice A31 (rclP l l.length).length c32), (40, Value.pointer (some ⟨n11, 0, none⟩)), (41, Value.func (.func 31) #[] lb38), (42, Value.func (.func 31) #[] lb38), (43, Value.bool false), (44, Value.int .i64 0), (45, Value.bool true), (48, Value.func (.func 31) #[] lb38), (49, Value.int .i64 y48.a), (50, Value.int .i64 y48.b)] ac := hA.sub (by and_intros <;> first | kernel_rfl | trivial)
     refine wpIn_seq ?_
     refine wpIn_region_lit ?_
     refine sf_p (Value.int .i64 y48.a) hA ?_; clear hA ac; intro ac hA
     refine wpListIn_nil ?_
     refine thenN ?_
     refine wpIn_region_lit ?_
     refine sf_p (Value.int .i64 y48.b) hA ?_; clear hA ac; intro ac hA
     refine wpListIn_nil ?_
     refine thenN ?_
     refine begun (bs := bs_46) (H' := [bs_46, Cel b43 #[Value.int .i64 ((k : Nat) : Int)] 3]) hW 0 rfl (fun b hb => by rw [hbs_46] at hb; rw [hrd_46]; exact hb) rfl ?_; clear hW; intro w49 hW
     refine wpIn_block ?_
     refine wpIn_seq ?_
     refine wpIn_seq ?_
     refine wpIn_region_lit ?_
     refine sf_q (Value.int .i64 ((k : Nat) : Int)) hA hW.cls (Rd.load (b := b43) (i := 0) (by kernel_rfl) (fun _ hw => (hw.1).cel 1 rfl) (by kernel_rfl)) fun ac hA => sf_q (Value.slice A31 (rclP l l.length).length c32) hA hW.cls (Rd.load (b := b34) (i := 0) (by kernel_rfl) (fun _ hw => show _ = _ from (hw.1).getG 2 rfl) (by kernel_rfl)) fun ac hA => sf_p (Value.int .i64 (((rclP l l.length).length : Nat) : Int)) hA fun ac hA => sf_p (Value.bool (decide ((((k : Nat) : Int) : Int) ≥ ((((rclP l l.length).length : Nat) : Int) : Int)))) hA fun ac hA => sf_p (Value.bool (decide ((((k : Nat) : Int) : Int) ≥ ((((rclP l l.length).length : Nat) : Int) : Int)))) hA fun ac hA => ?_
     rcases Bool.eq_false_or_eq_true (decide ((((k : Nat) : Int) : Int) ≥ ((((rclP l l.length).length : Nat) : Int) : Int))) with h50 | h50
     ·
      rw [h50] at hA
      have h50 := of_decide_eq_true h50
      first
      | (exfalso; clear hA hW; omega)
      | (exfalso; clear hA hW; exact h50 rfl; done)
      | (
       fail)
     rw [h50] at hA
     have h50 := of_decide_eq_false h50
     first
     | (exfalso; clear hA hW; omega)
     | (exfalso; clear hA hW; exact h50 rfl; done)
     | (
      refine sf_q (Value.slice A31 (rclP l l.length).length c32) hA hW.cls (Rd.load (b := b34) (i := 0) (by kernel_rfl) (fun _ hw => show _ = _ from (hw.1).getG 2 rfl) (by kernel_rfl)) fun ac hA => sf_q (Value.int .i64 ((k : Nat) : Int)) hA hW.cls (Rd.load (b := b43) (i := 0) (by kernel_rfl) (fun _ hw => (hw.1).cel 1 rfl) (by kernel_rfl)) fun ac hA => ?_
      obtain ⟨y51, hy51⟩ : ∃ y, (rclP l l.length)[k]? = some y := ⟨_, List.getElem?_eq_getElem (by first | omega | (simp; done) | (simp; omega))⟩
      obtain ⟨b52, o53, rfl, hbb52⟩ := row_some ((hW).getG 3 rfl) hy51
      refine sf_q (Value.pointer (some ⟨b52, o53 + k * 2, none⟩)) hA hW.cls (Rd.indexAddr (e := 41) (sz := 2) (b := b52) (off := o53) (n := (rclP l l.length).length) (c := c32) (k := k) (by kernel_rfl) (by kernel_rfl) (by first | omega | (simp; done) | (simp; omega)) (fun _ => by kernel_rfl) (fun _ => by kernel_rfl)) fun ac hA => sf_q (Value.agg #[Value.int .i64 y51.i, Value.int .i64 y51.j]) hA hW.cls (Rd.loadRow (b := b52) (i := o53 + k * 2) (xs := [Value.int .i64 y51.i, Value.int .i64 y51.j]) (by kernel_rfl) (fun _ hw => row_ld ((hw.1).getG 3 rfl) hy51 (Fr.refl No _) (fun h => h) 0 2 (by kernel_rfl)) (by kernel_rfl)) fun ac hA => sf_p (Value.int .i64 y48.a) hA fun ac hA => sf_p (Value.int .i64 y48.b) hA fun ac hA => sf_p (Value.agg #[Value.int .i64 y48.a, Value.int .i64 y48.b]) hA fun ac hA => sf_q (Value.bool (!decide (y51 = (⟨y48.a, y48.b⟩ : Pr)))) hA hW.cls (Rd.neS (u := y51.v) (v := (⟨y48.a, y48.b⟩ : Pr).v) (by kernel_rfl) (by kernel_rfl) rfl rfl (by kernel_rfl) (fun w => eq_Pr w y51 (⟨y48.a, y48.b⟩ : Pr))) fun ac hA => sf_p (Value.bool (!decide (y51 = (⟨y48.a, y48.b⟩ : Pr)))) hA fun ac hA => ?_
      refine wpListIn_nil ?_
      refine thenN ?_
      refine wpIn_cond_split (t := !decide (y51 = (⟨y48.a, y48.b⟩ : Pr))) (hA.eval (by kernel_rfl)) (fun h54 => ?_) (fun h54 => ?_)
      ·
       have h54 := not_t h54
       have h54 := of_decide_eq_false h54
       have h54e := fun e => h54 ((Pr.eqi _ _).2 e)
       first
       | (exfalso; clear hA hW; omega)
       | (exfalso; clear hA hW; exact h54 rfl; done)
       | (exfalso; clear hA hW; exact h54 (by have q_ := hy51; rw [hrc_, List.getElem?_map, hy48] at q_; exact (Option.some.inj q_).symm); done)
       | (
        fail)
      have h54 := not_f h54
      have h54 := of_decide_eq_true h54
      have h54e := (Pr.eqi _ _).1 h54
      first
      | (exfalso; clear hA hW; omega)
      | (exfalso; clear hA hW; exact h54 rfl; done)
      | (
       refine wpIn_skip ?_
       refine thenN ?_
       refine wpIn_seq ?_
       refine wpIn_region_lit ?_
       refine sf_q (Value.int .i64 ((k : Nat) : Int)) hA hW.cls (Rd.load (b := b43) (i := 0) (by kernel_rfl) (fun _ hw => (hw.1).cel 1 rfl) (by kernel_rfl)) fun ac hA => sf_q (Value.int .i64 ((k + 1 : Nat) : Int)) hA hW.cls (Rd.pureE (v0 := Value.int .i64 (IntKind.i64.wrap ((((k : Nat) : Int) : Int) + 1))) (fun _ => by kernel_rfl) (congrArg (Value.int .i64) ((w_i64 (x := (((k : Nat) : Int) : Int) + 1) (by omega) (by omega)).trans (by omega)))) fun ac hA => ?_
       refine sf_s hA (RunsF.of (Runs.store (v := Value.int .i64 ((k + 1 : Nat) : Int)) (b := b43) (j := 0) (n := 1) (cs' := #[Value.int .i64 ((k + 1 : Nat) : Int)]) (H' := [bs_46, Cel b43 #[Value.int .i64 ((k + 1 : Nat) : Int)] 3]) (by kernel_rfl) (by kernel_rfl) (by kernel_rfl) (by kernel_rfl) (by kernel_rfl) hW 1 (by rfl) (Nat.le_of_ble_eq_true (by kernel_rfl)) (by kernel_rfl) (by rfl) ?_)); clear hA ac hW; intro w55 hW ac hA
       refine wpListIn_nil ?_
       refine thenN ?_
       refine wpIn_seq ?_
       refine wpIn_region_lit ?_
       refine sf_q (Value.int .i64 0) hA hW.cls (Rd.load (b := b40) (i := 0) (by kernel_rfl) (fun _ hw => show _ = _ from (hw.1).getG 0 rfl) (by kernel_rfl)) fun ac hA => sf_p (Value.bool true) hA fun ac hA => sf_p (Value.bool true) hA fun ac hA => sf_q (Value.int .i64 ((k + 1 : Nat) : Int)) hA hW.cls (Rd.load (b := b43) (i := 0) (by kernel_rfl) (fun _ hw => (hw.1).cel 1 rfl) (by kernel_rfl)) fun ac hA => sf_q (Value.int .i64 many) hA hW.cls (Rd.load (b := b1) (i := 0) (by kernel_rfl) (fun _ hw => show _ = _ from (hw.1).getG 1 rfl) (by kernel_rfl)) fun ac hA => sf_p (Value.bool (decide ((((k + 1 : Nat) : Int) : Int) ≥ (many : Int)))) hA fun ac hA => sf_p (Value.bool (decide ((((k + 1 : Nat) : Int) : Int) ≥ (many : Int)))) hA fun ac hA => ?_
       refine wpListIn_nil ?_
       refine thenN ?_
       refine wpIn_cond_split (t := decide ((((k + 1 : Nat) : Int) : Int) ≥ (many : Int))) (hA.eval (by kernel_rfl)) (fun h56 => ?_) (fun h56 => ?_)
       ·
        have h56 := of_decide_eq_true h56
        first
        | (exfalso; clear hA hW; omega)
        | (exfalso; clear hA hW; exact h56 rfl; done)
        | (
         refine wpIn_exit ?_
         refine blkY (by kernel_rfl) ?_
         exact ⟨_, ⟨rfl, k + 1, by omega, rfl⟩, (hW.pick [0, 1] (by decide) rfl).pickG [0, 1, 2, 3, 4, 5, 6, 7, 8, 9] rfl⟩)
       have h56 := of_decide_eq_false h56
       first
       | (exfalso; clear hA hW; omega)
       | (exfalso; clear hA hW; exact h56 rfl; done)
       | (
        refine wpIn_skip ?_
        refine blkN ?_
        exact ⟨_, ⟨k + 1, hsny48, hlty48, by omega, rfl⟩, (hW.pick [0, 1] (by decide) rfl).pickG [0, 1, 2, 3, 4, 5, 6, 7, 8, 9] rfl⟩)))
    ·
     clear hA ac hW; intro D57 xs_ Hk_ w58 ac hS_ hJ_ hA hW
     obtain ⟨k, hpre_, hk_, hm_, rfl⟩ := hJ_
     have hke : k = (closeP l l.length).length := by have := congrArg List.length (hS_.symm.trans hpre_); simp at this; omega
     clear hpre_ hS_
     replace hW : Ws w No [Cel b43 #[Value.int .i64 ((k : Nat) : Int)] 3, DefR D57, Cel b27 #[Value.slice AoL23 (l).length coL24, Value.slice AoB25 (g22).length coB26] 31, OrdR n11 n12 n13 l n14 n15 n16 n17 n18 n19 n20, Cel b3 #[Value.bool false] 4] [Cel b40 #[Value.int .i64 0] 3, Cel b1 #[Value.int .i64 many] 3, Cel b34 #[Value.slice A31 (rclP l l.length).length c32] 35, roR A31 2 enPr (rclP l l.length), rowR 41 2 enPr (Value.slice A31 (rclP l l.length).length c32) (rclP l l.length), g39, nestR innerBV g22, roR AoB25 1 enBV g22, roR AoL23 9 enEvent l, roR A_l 9 enEvent l] w58 := hW
     refine blkN ?_
     refine thenN ?_
     refine wpIn_seq ?_
     refine wpIn_region_lit ?_
     refine sf_q (Value.int .i64 0) hA hW.cls (Rd.load (b := b40) (i := 0) (by kernel_rfl) (fun _ hw => show _ = _ from (hw.1).getG 0 rfl) (by kernel_rfl)) fun ac hA => sf_p (Value.bool true) hA fun ac hA => sf_p (Value.bool true) hA fun ac hA => sf_q (Value.int .i64 ((k : Nat) : Int)) hA hW.cls (Rd.load (b := b43) (i := 0) (by kernel_rfl) (fun _ hw => (hw.1).cel 0 rfl) (by kernel_rfl)) fun ac hA => sf_q (Value.slice A31 (rclP l l.length).length c32) hA hW.cls (Rd.load (b := b34) (i := 0) (by kernel_rfl) (fun _ hw => show _ = _ from (hw.1).getG 2 rfl) (by kernel_rfl)) fun ac hA => sf_p (Value.int .i64 (((rclP l l.length).length : Nat) : Int)) hA fun ac hA => sf_q (Value.int .i64 many) hA hW.cls (Rd.load (b := b1) (i := 0) (by kernel_rfl) (fun _ hw => show _ = _ from (hw.1).getG 1 rfl) (by kernel_rfl)) fun ac hA => sf_q (Value.int .i64 (max (1 : Int) (many : Int))) hA hW.cls (Rd.pureE (v0 := Value.int .i64 (if (many : Int) > (1 : Int) then (many : Int) else (1 : Int))) (fun _ => by kernel_rfl) (congrArg (Value.int .i64) (max_ _ _))) fun ac hA => sf_q (Value.int .i64 (min ((((rclP l l.length).length : Nat) : Int) : Int) (max (1 : Int) (many : Int) : Int))) hA hW.cls (Rd.pureE (v0 := Value.int .i64 (if (max (1 : Int) (many : Int) : Int) < ((((rclP l l.length).length : Nat) : Int) : Int) then (max (1 : Int) (many : Int) : Int) else ((((rclP l l.length).length : Nat) : Int) : Int))) (fun _ => by kernel_rfl) (congrArg (Value.int .i64) (min_ _ _))) fun ac hA => sf_p (Value.bool ((((k : Nat) : Int) : Int) != (min ((((rclP l l.length).length : Nat) : Int) : Int) (max (1 : Int) (many : Int) : Int) : Int))) hA fun ac hA => sf_p (Value.bool ((((k : Nat) : Int) : Int) != (min ((((rclP l l.length).length : Nat) : Int) : Int) (max (1 : Int) (many : Int) : Int) : Int))) hA fun ac hA => sf_p (Value.bool ((((k : Nat) : Int) : Int) != (min ((((rclP l l.length).length : Nat) : Int) : Int) (max (1 : Int) (many : Int) : Int) : Int))) hA fun ac hA => ?_
     rcases Bool.eq_false_or_eq_true ((((k : Nat) : Int) : Int) != (min ((((rclP l l.length).length : Nat) : Int) : Int) (max (1 : Int) (many : Int) : Int) : Int)) with h59 | h59
     ·
      rw [h59] at hA
      have h59 := bne_iff_ne.1 h59
      first
      | (exfalso; clear hA hW; omega)
      | (exfalso; clear hA hW; exact h59 rfl; done)
      | (
       fail)
     rw [h59] at hA
     have h59 := of_bne_f h59
     first
     | (exfalso; clear hA hW; omega)
     | (exfalso; clear hA hW; exact h59 rfl; done)
     | (
      refine sf_q (Value.int .i64 0) hA hW.cls (Rd.load (b := b40) (i := 0) (by kernel_rfl) (fun _ hw => show _ = _ from (hw.1).getG 0 rfl) (by kernel_rfl)) fun ac hA => sf_p (Value.bool false) hA fun ac hA => sf_p (Value.bool false) hA fun ac hA => sf_k hA fun ac hA => sf_k hA fun ac hA => sf_k hA fun ac hA => sf_k hA fun ac hA => sf_p (Value.bool false) hA fun ac hA => sf_p (Value.bool false) hA fun ac hA => ?_
      refine wpListIn_nil ?_
      refine thenN ?_
      refine wpIn_cond_false (hA.eval (by kernel_rfl)) ?_
      refine wpIn_skip ?_
      refine blkN ?_
      refine thenN ?_
      refine wpIn_seq ?_
      refine wpIn_seq ?_
      refine wpIn_region_lit ?_
      refine sf_q (Value.int .i64 0) hA hW.cls (Rd.load (b := b40) (i := 0) (by kernel_rfl) (fun _ hw => show _ = _ from (hw.1).getG 0 rfl) (by kernel_rfl)) ?_; clear hA ac; intro ac hA
      refine wpListIn_nil ?_
      refine thenN ?_
      refine wpIn_region_lit ?_
      refine sf_s hA (RunsF.of (Runs.cells (fun b => Value.pointer (some ⟨b, 0, none⟩)) #[Value.int .i64 0] 3 (fun _ => by kernel_rfl) hW ?_)); clear hA ac hW; intro b60 w61 hW hb60 hfw61 ac hA
      refine sf_s hA (RunsF.of (Runs.store (v := Value.int .i64 0) (b := b60) (j := 0) (n := 1) (cs' := #[Value.int .i64 0]) (H' := [Cel b60 #[Value.int .i64 0] 3, Cel b43 #[Value.int .i64 ((k : Nat) : Int)] 3, DefR D57, Cel b27 #[Value.slice AoL23 (l).length coL24, Value.slice AoB25 (g22).length coB26] 31, OrdR n11 n12 n13 l n14 n15 n16 n17 n18 n19 n20, Cel b3 #[Value.bool false] 4]) (by kernel_rfl) (by kernel_rfl) (by kernel_rfl) (by kernel_rfl) (by kernel_rfl) hW 0 (by rfl) (Nat.le_of_ble_eq_true (by kernel_rfl)) (by kernel_rfl) (by rfl) ?_)); clear hA ac hW; intro w62 hW ac hA
      refine wpListIn_nil ?_
      refine thenN ?_
      refine wpIn_region_lit ?_
      refine sf_q (Value.int .i64 0) hA hW.cls (Rd.load (b := b60) (i := 0) (by kernel_rfl) (fun _ hw => (hw.1).cel 0 rfl) (by kernel_rfl)) fun ac hA => sf_q (Value.int .i64 1) hA hW.cls (Rd.pureE (v0 := Value.int .i64 (IntKind.i64.wrap ((0 : Int) + 1))) (fun _ => by kernel_rfl) (congrArg (Value.int .i64) ((w_i64 (x := (0 : Int) + 1) (by omega) (by omega)).trans (by omega)))) fun ac hA => ?_
      refine sf_s hA (RunsF.of (Runs.store (v := Value.int .i64 1) (b := b60) (j := 0) (n := 1) (cs' := #[Value.int .i64 1]) (H' := [Cel b60 #[Value.int .i64 1] 3, Cel b43 #[Value.int .i64 ((k : Nat) : Int)] 3, DefR D57, Cel b27 #[Value.slice AoL23 (l).length coL24, Value.slice AoB25 (g22).length coB26] 31, OrdR n11 n12 n13 l n14 n15 n16 n17 n18 n19 n20, Cel b3 #[Value.bool false] 4]) (by kernel_rfl) (by kernel_rfl) (by kernel_rfl) (by kernel_rfl) (by kernel_rfl) hW 0 (by rfl) (Nat.le_of_ble_eq_true (by kernel_rfl)) (by kernel_rfl) (by rfl) ?_)); clear hA ac hW; intro w63 hW ac hA
      refine wpListIn_nil ?_
      refine thenN ?_
      rw [roundsIn_succ]
      refine wpIn_seq ?_
      refine wpIn_seq ?_
      refine wpIn_region_lit ?_
      refine sf_q (Value.int .i64 1) hA hW.cls (Rd.load (b := b60) (i := 0) (by kernel_rfl) (fun _ hw => (hw.1).cel 0 rfl) (by kernel_rfl)) fun ac hA => sf_p (Value.bool true) hA fun ac hA => ?_
      refine wpListIn_nil ?_
      refine thenN ?_
      refine wpIn_cond_true (hA.eval (by kernel_rfl)) ?_
      refine wpIn_skip ?_
      refine thenN ?_
      refine wpIn_seq ?_
      refine wpIn_block ?_
      refine wpIn_seq ?_
      refine wpIn_region_lit ?_
      refine sf_s hA (RunsF.of (Runs.cells (fun b => Value.pointer (some ⟨b, 0, none⟩)) #[Value.int .i64 0] 3 (fun _ => by kernel_rfl) hW ?_)); clear hA ac hW; intro b64 w65 hW hb64 hfw65 ac hA
      refine sf_s hA (RunsF.of (Runs.store (v := Value.int .i64 0) (b := b64) (j := 0) (n := 1) (cs' := #[Value.int .i64 0]) (H' := [Cel b64 #[Value.int .i64 0] 3, Cel b60 #[Value.int .i64 1] 3, Cel b43 #[Value.int .i64 ((k : Nat) : Int)] 3, DefR D57, Cel b27 #[Value.slice AoL23 (l).length coL24, Value.slice AoB25 (g22).length coB26] 31, OrdR n11 n12 n13 l n14 n15 n16 n17 n18 n19 n20, Cel b3 #[Value.bool false] 4]) (by kernel_rfl) (by kernel_rfl) (by kernel_rfl) (by kernel_rfl) (by kernel_rfl) hW 0 (by rfl) (Nat.le_of_ble_eq_true (by kernel_rfl)) (by kernel_rfl) (by rfl) ?_)); clear hA ac hW; intro w66 hW ac hA
      refine wpListIn_nil ?_
      refine thenN ?_
      refine wpIn_seq ?_
      refine wpIn_seq ?_
      replace hW : Ws w No [Cel b64 #[Value.int .i64 0] 3, Cel b60 #[Value.int .i64 1] 3, DefR D57, Cel b27 #[Value.slice AoL23 (l).length coL24, Value.slice AoB25 (g22).length coB26] 31, OrdR n11 n12 n13 l n14 n15 n16 n17 n18 n19 n20, Cel b3 #[Value.bool false] 4] [Cel b40 #[Value.int .i64 0] 3, Cel b1 #[Value.int .i64 many] 3, Cel b34 #[Value.slice A31 (rclP l l.length).length c32] 35, roR A31 2 enPr (rclP l l.length), rowR 41 2 enPr (Value.slice A31 (rclP l l.length).length c32) (rclP l l.length), g39, nestR innerBV g22, roR AoB25 1 enBV g22, roR AoL23 9 enEvent l, roR A_l 9 enEvent l] w66 := hW.pick [0, 1, 3, 4, 5, 6] (by decide) rfl
      refine wpIn_region_lit ?_
      refine sf_p (Value.func (.func 31) #[] lb38) hA ?_; clear hA ac; intro ac hA
      refine wpListIn_nil ?_
      refine thenN ?_
      refine wpIn_block ?_
      have hW := hW.share 1 rfl (H' := [Cel b64 #[Value.int .i64 0] 3, DefR D57, Cel b27 #[Value.slice AoL23 (l).length coL24, Value.slice AoB25 (g22).length coB26] 31, OrdR n11 n12 n13 l n14 n15 n16 n17 n18 n19 n20, Cel b3 #[Value.bool false] 4]) rfl
      refine wp_range (encs := (fun x_ : Two => #[Value.int .i64 x_.a, Value.int .i64 x_.b])) (Sx := (· = (closeP l l.length))) hA (by kernel_rfl) (by kernel_rfl) (enters_of Tryz.func31 (by kernel_rfl) rfl) (by kernel_rfl) (fun _ => rfl) hIg39 (List.forall_mem_singleton.2 (List.mem_of_getElem? (i := 6) rfl)) (fun pre_ H_ => ∃ k : Nat, pre_ = (closeP l l.length).take k ∧ k ≤ (closeP l l.length).length ∧ H_ = [Cel b64 #[Value.int .i64 ((k : Nat) : Int)] 3]) (fun _ _ _ => False) (H := [Cel b64 #[Value.int .i64 0] 3]) (K := [DefR D57, Cel b27 #[Value.slice AoL23 (l).length coL24, Value.slice AoB25 (g22).length coB26] 31, OrdR n11 n12 n13 l n14 n15 n16 n17 n18 n19 n20, Cel b3 #[Value.bool false] 4]) (hW.pick [0, 1, 2, 3, 4] (by decide) rfl) ⟨0, rfl, Nat.zero_le _, rfl⟩ ?_ ?_ ?_
      ·
       clear hA ac hW; intro l_67 rd_67 bs_67 pre_ x_ Hk_ w68 T_67 ac hrd_67 hbs_67 hbr_67 hok_ hJ_ hA hW hB_67 hT_67
       obtain ⟨k, rfl, hk_, rfl⟩ := hJ_
       obtain ⟨y69, h_⟩ : ∃ y_, y_ = x_ := ⟨_, rfl⟩; subst h_; obtain ⟨hy69, hlty69, hsny69⟩ := comes_list hok_ hk_
       replace hA : Fm 97 [] [(0, Value.slice A_l l.length c_l), (1, Value.int .i64 many), (3, Value.pointer (some ⟨b1, 0, none⟩)), (4, Value.pointer (some ⟨b3, 0, none⟩)), (5, Value.pointer (some ⟨n11, 0, none⟩)), (6, Value.int .i64 0), (7, Value.pointer (some ⟨b27, 0, none⟩)), (8, Value.int .i64 0), (9, Value.pointer (some ⟨b34, 0, none⟩)), (10, Value.func (.func 31) #[] lb38), (11, Value.pointer (some ⟨b60, 0, none⟩)), (12, Value.pointer (some ⟨b64, 0, none⟩)), (15, Value.slice A_l l.length c_l), (16, Value.bool (fewOk l (40))), (17, Value.bool (!(fewOk l (40)))), (19, Value.tuple #[Value.pointer (some ⟨n11, 0, none⟩), Value.int .i64 0]), (20, Value.slice A_l l.length c_l), (21, Value.tuple #[Value.pointer (some ⟨n11, 0, none⟩), Value.int .i64 0]), (22, Value.pointer (some ⟨n11, 0, none⟩)), (23, Value.int .i64 0), (24, Value.tuple #[Value.agg #[Value.slice AoL23 (l).length coL24, Value.slice AoB25 (g22).length coB26], Value.int .i64 0]), (25, Value.slice A_l l.length c_l), (26, Value.tuple #[Value.agg #[Value.slice AoL23 (l).length coL24, Value.slice AoB25 (g22).length coB26], Value.int .i64 0]), (27, Value.agg #[Value.slice AoL23 (l).length coL24, Value.slice AoB25 (g22).length coB26]), (28, Value.int .i64 0), (29, Value.int .i64 0), (30, Value.bool false), (38, Value.agg #[Value.slice AoL23 (l).length coL24, Value.slice AoB25 (g22).length coB26]), (39, Value.slice A31 (rclP l l.length).length c32), (40, Value.pointer (some ⟨n11, 0, none⟩)), (41, Value.func (.func 31) #[] lb38), (42, Value.func (.func 31) #[] lb38), (43, Value.bool false), (44, Value.int .i64 1), (45, Value.bool true), (46, Value.int .i64 0), (47, Value.int .i64 1), (48, Value.func (.func 31) #[] lb38), (49, Value.int .i64 y69.a), (50, Value.int .i64 y69.b), (74, Value.int .i64 0), (75, Value.bool true), (76, Value.bool true), (78, Value.slice A31 (rclP l l.length).length c32), (79, Value.int .i64 (((rclP l l.length).length : Nat) : Int)), (80, Value.int .i64 many), (81, Value.int .i64 (max (1 : Int) (many : Int))), (82, Value.int .i64 (min ((((rclP l l.length).length : Nat) : Int) : Int) (max (1 : Int) (many : Int) : Int))), (83, Value.bool false), (84, Value.bool false), (85, Value.bool false), (86, Value.int .i64 0), (87, Value.bool false), (88, Value.bool false), (93, Value.bool false), (94, Value.bool false), (95, Value.int .i64 0)] ac := hA.sub (by and_intros <;> first | kernel_rfl | trivial)
       refine wpIn_seq ?_
       refine wpIn_region_lit ?_
       refine sf_p (Value.int .i64 y69.a) hA ?_; clear hA ac; intro ac hA
       refine wpListIn_nil ?_
       refine thenN ?_
       refine wpIn_region_lit ?_
       refine sf_p (Value.int .i64 y69.b) hA ?_; clear hA ac; intro ac hA
       refine wpListIn_nil ?_
       refine thenN ?_
       refine begun (bs := bs_67) (H' := [bs_67, Cel b64 #[Value.int .i64 ((k : Nat) : Int)] 3]) hW 0 rfl (fun b hb => by rw [hbs_67] at hb; rw [hrd_67]; exact hb) rfl ?_; clear hW; intro w70 hW
       refine wpIn_block ?_
       refine wpIn_seq ?_
       refine wpIn_seq ?_
       refine wpIn_region_lit ?_
       refine sf_q (Value.int .i64 ((k : Nat) : Int)) hA hW.cls (Rd.load (b := b64) (i := 0) (by kernel_rfl) (fun _ hw => (hw.1).cel 1 rfl) (by kernel_rfl)) fun ac hA => sf_q (Value.slice A31 (rclP l l.length).length c32) hA hW.cls (Rd.load (b := b34) (i := 0) (by kernel_rfl) (fun _ hw => show _ = _ from (hw.1).getG 3 rfl) (by kernel_rfl)) fun ac hA => sf_p (Value.int .i64 (((rclP l l.length).length : Nat) : Int)) hA fun ac hA => sf_p (Value.bool (decide ((((k : Nat) : Int) : Int) ≥ ((((rclP l l.length).length : Nat) : Int) : Int)))) hA fun ac hA => sf_p (Value.bool (decide ((((k : Nat) : Int) : Int) ≥ ((((rclP l l.length).length : Nat) : Int) : Int)))) hA fun ac hA => ?_
       rcases Bool.eq_false_or_eq_true (decide ((((k : Nat) : Int) : Int) ≥ ((((rclP l l.length).length : Nat) : Int) : Int))) with h71 | h71
       ·
        rw [h71] at hA
        have h71 := of_decide_eq_true h71
        first
        | (exfalso; clear hA hW; omega)
        | (exfalso; clear hA hW; exact h71 rfl; done)
        | (
         fail)
       rw [h71] at hA
       have h71 := of_decide_eq_false h71
       first
       | (exfalso; clear hA hW; omega)
       | (exfalso; clear hA hW; exact h71 rfl; done)
       | (
        refine sf_q (Value.slice A31 (rclP l l.length).length c32) hA hW.cls (Rd.load (b := b34) (i := 0) (by kernel_rfl) (fun _ hw => show _ = _ from (hw.1).getG 3 rfl) (by kernel_rfl)) fun ac hA => sf_q (Value.int .i64 ((k : Nat) : Int)) hA hW.cls (Rd.load (b := b64) (i := 0) (by kernel_rfl) (fun _ hw => (hw.1).cel 1 rfl) (by kernel_rfl)) fun ac hA => ?_
        obtain ⟨y72, hy72⟩ : ∃ y, (rclP l l.length)[k]? = some y := ⟨_, List.getElem?_eq_getElem (by first | omega | (simp; done) | (simp; omega))⟩
        obtain ⟨b73, o74, rfl, hbb73⟩ := row_some ((hW).getG 4 rfl) hy72
        refine sf_q (Value.pointer (some ⟨b73, o74 + k * 2, none⟩)) hA hW.cls (Rd.indexAddr (e := 41) (sz := 2) (b := b73) (off := o74) (n := (rclP l l.length).length) (c := c32) (k := k) (by kernel_rfl) (by kernel_rfl) (by first | omega | (simp; done) | (simp; omega)) (fun _ => by kernel_rfl) (fun _ => by kernel_rfl)) fun ac hA => sf_q (Value.agg #[Value.int .i64 y72.i, Value.int .i64 y72.j]) hA hW.cls (Rd.loadRow (b := b73) (i := o74 + k * 2) (xs := [Value.int .i64 y72.i, Value.int .i64 y72.j]) (by kernel_rfl) (fun _ hw => row_ld ((hw.1).getG 4 rfl) hy72 (Fr.refl No _) (fun h => h) 0 2 (by kernel_rfl)) (by kernel_rfl)) fun ac hA => sf_p (Value.int .i64 y69.a) hA fun ac hA => sf_p (Value.int .i64 y69.b) hA fun ac hA => sf_p (Value.agg #[Value.int .i64 y69.a, Value.int .i64 y69.b]) hA fun ac hA => sf_q (Value.bool (!decide (y72 = (⟨y69.a, y69.b⟩ : Pr)))) hA hW.cls (Rd.neS (u := y72.v) (v := (⟨y69.a, y69.b⟩ : Pr).v) (by kernel_rfl) (by kernel_rfl) rfl rfl (by kernel_rfl) (fun w => eq_Pr w y72 (⟨y69.a, y69.b⟩ : Pr))) fun ac hA => sf_p (Value.bool (!decide (y72 = (⟨y69.a, y69.b⟩ : Pr)))) hA fun ac hA => ?_
        refine wpListIn_nil ?_
        refine thenN ?_
        refine wpIn_cond_split (t := !decide (y72 = (⟨y69.a, y69.b⟩ : Pr))) (hA.eval (by kernel_rfl)) (fun h75 => ?_) (fun h75 => ?_)
        ·
         have h75 := not_t h75
         have h75 := of_decide_eq_false h75
         have h75e := fun e => h75 ((Pr.eqi _ _).2 e)
         first
         | (exfalso; clear hA hW; omega)
         | (exfalso; clear hA hW; exact h75 rfl; done)
         | (exfalso; clear hA hW; exact h75 (by have q_ := hy72; rw [hrc_, List.getElem?_map, hy69] at q_; exact (Option.some.inj q_).symm); done)
         | (
          fail)
        have h75 := not_f h75
        have h75 := of_decide_eq_true h75
        have h75e := (Pr.eqi _ _).1 h75
        first
        | (exfalso; clear hA hW; omega)
        | (exfalso; clear hA hW; exact h75 rfl; done)
        | (
         refine wpIn_skip ?_
         refine thenN ?_
         refine wpIn_seq ?_
         refine wpIn_region_lit ?_
         refine sf_q (Value.int .i64 ((k : Nat) : Int)) hA hW.cls (Rd.load (b := b64) (i := 0) (by kernel_rfl) (fun _ hw => (hw.1).cel 1 rfl) (by kernel_rfl)) fun ac hA => sf_q (Value.int .i64 ((k + 1 : Nat) : Int)) hA hW.cls (Rd.pureE (v0 := Value.int .i64 (IntKind.i64.wrap ((((k : Nat) : Int) : Int) + 1))) (fun _ => by kernel_rfl) (congrArg (Value.int .i64) ((w_i64 (x := (((k : Nat) : Int) : Int) + 1) (by omega) (by omega)).trans (by omega)))) fun ac hA => ?_
         refine sf_s hA (RunsF.of (Runs.store (v := Value.int .i64 ((k + 1 : Nat) : Int)) (b := b64) (j := 0) (n := 1) (cs' := #[Value.int .i64 ((k + 1 : Nat) : Int)]) (H' := [bs_67, Cel b64 #[Value.int .i64 ((k + 1 : Nat) : Int)] 3]) (by kernel_rfl) (by kernel_rfl) (by kernel_rfl) (by kernel_rfl) (by kernel_rfl) hW 1 (by rfl) (Nat.le_of_ble_eq_true (by kernel_rfl)) (by kernel_rfl) (by rfl) ?_)); clear hA ac hW; intro w76 hW ac hA
         refine wpListIn_nil ?_
         refine thenN ?_
         refine wpIn_seq ?_
         refine wpIn_region_lit ?_
         refine sf_q (Value.int .i64 1) hA hW.cls (Rd.load (b := b60) (i := 0) (by kernel_rfl) (fun _ hw => show _ = _ from (hw.1).getG 0 rfl) (by kernel_rfl)) fun ac hA => sf_p (Value.bool false) hA fun ac hA => sf_p (Value.bool false) hA fun ac hA => sf_k hA fun ac hA => sf_k hA fun ac hA => sf_k hA fun ac hA => sf_p (Value.bool false) hA fun ac hA => ?_
         refine wpListIn_nil ?_
         refine thenN ?_
         refine wpIn_cond_false (hA.eval (by kernel_rfl)) ?_
         refine wpIn_skip ?_
         refine blkN ?_
         exact ⟨_, ⟨k + 1, hsny69, hlty69, rfl⟩, (hW.pick [0, 1] (by decide) rfl).pickG [0, 1, 2, 3, 4, 5, 6, 7, 8, 9, 10] rfl⟩))
      ·
       clear hA ac hW; intro D77 xs_ Hk_ w78 ac hS_ hJ_ hA hW
       obtain ⟨k, hpre_, hk_, rfl⟩ := hJ_
       have hke : k = (closeP l l.length).length := by have := congrArg List.length (hS_.symm.trans hpre_); simp at this; omega
       clear hpre_ hS_
       replace hW : Ws w No [Cel b64 #[Value.int .i64 ((k : Nat) : Int)] 3, DefR D77, DefR D57, Cel b27 #[Value.slice AoL23 (l).length coL24, Value.slice AoB25 (g22).length coB26] 31, OrdR n11 n12 n13 l n14 n15 n16 n17 n18 n19 n20, Cel b3 #[Value.bool false] 4] [Cel b60 #[Value.int .i64 1] 3, Cel b40 #[Value.int .i64 0] 3, Cel b1 #[Value.int .i64 many] 3, Cel b34 #[Value.slice A31 (rclP l l.length).length c32] 35, roR A31 2 enPr (rclP l l.length), rowR 41 2 enPr (Value.slice A31 (rclP l l.length).length c32) (rclP l l.length), g39, nestR innerBV g22, roR AoB25 1 enBV g22, roR AoL23 9 enEvent l, roR A_l 9 enEvent l] w78 := hW
       refine blkN ?_
       refine thenN ?_
       refine wpIn_seq ?_
       refine wpIn_region_lit ?_
       refine sf_q (Value.int .i64 1) hA hW.cls (Rd.load (b := b60) (i := 0) (by kernel_rfl) (fun _ hw => show _ = _ from (hw.1).getG 0 rfl) (by kernel_rfl)) fun ac hA => sf_p (Value.bool false) hA fun ac hA => sf_p (Value.bool false) hA fun ac hA => sf_k hA fun ac hA => sf_k hA fun ac hA => sf_k hA fun ac hA => sf_k hA fun ac hA => sf_k hA fun ac hA => sf_k hA fun ac hA => sf_k hA fun ac hA => sf_p (Value.bool false) hA fun ac hA => sf_p (Value.bool false) hA fun ac hA => sf_q (Value.int .i64 1) hA hW.cls (Rd.load (b := b60) (i := 0) (by kernel_rfl) (fun _ hw => show _ = _ from (hw.1).getG 0 rfl) (by kernel_rfl)) fun ac hA => sf_p (Value.bool true) hA fun ac hA => ?_
       refine sf_p (Value.bool true) hA fun ac hA => sf_q (Value.int .i64 ((k : Nat) : Int)) hA hW.cls (Rd.load (b := b64) (i := 0) (by kernel_rfl) (fun _ hw => (hw.1).cel 0 rfl) (by kernel_rfl)) fun ac hA => sf_q (Value.slice A31 (rclP l l.length).length c32) hA hW.cls (Rd.load (b := b34) (i := 0) (by kernel_rfl) (fun _ hw => show _ = _ from (hw.1).getG 3 rfl) (by kernel_rfl)) fun ac hA => sf_p (Value.int .i64 (((rclP l l.length).length : Nat) : Int)) hA fun ac hA => sf_p (Value.bool ((((k : Nat) : Int) : Int) != ((((rclP l l.length).length : Nat) : Int) : Int))) hA fun ac hA => sf_p (Value.bool ((((k : Nat) : Int) : Int) != ((((rclP l l.length).length : Nat) : Int) : Int))) hA fun ac hA => sf_p (Value.bool ((((k : Nat) : Int) : Int) != ((((rclP l l.length).length : Nat) : Int) : Int))) hA fun ac hA => ?_
       refine wpListIn_nil ?_
       refine thenN ?_
       refine wpIn_cond_split (t := (((k : Nat) : Int) : Int) != ((((rclP l l.length).length : Nat) : Int) : Int)) (hA.eval (by kernel_rfl)) (fun h79 => ?_) (fun h79 => ?_)
       ·
        have h79 := bne_iff_ne.1 h79
        first
        | (exfalso; clear hA hW; omega)
        | (exfalso; clear hA hW; exact h79 rfl; done)
        | (
         refine wpIn_seq ?_
         refine wpIn_region_lit ?_
         refine sf_s hA (RunsF.of (Runs.store (v := Value.bool false) (b := b3) (j := 0) (n := 1) (cs' := #[Value.bool false]) (H' := [Cel b64 #[Value.int .i64 ((k : Nat) : Int)] 3, DefR D77, DefR D57, Cel b27 #[Value.slice AoL23 (l).length coL24, Value.slice AoB25 (g22).length coB26] 31, OrdR n11 n12 n13 l n14 n15 n16 n17 n18 n19 n20, Cel b3 #[Value.bool false] 4]) (by kernel_rfl) (by kernel_rfl) (by kernel_rfl) (by kernel_rfl) (by kernel_rfl) hW 5 (by rfl) (Nat.le_of_ble_eq_true (by kernel_rfl)) (by kernel_rfl) (by rfl) ?_)); clear hA ac hW; intro w80 hW ac hA
         refine wpListIn_nil ?_
         refine thenN ?_
         refine wpIn_ret ?_
         refine blkR ?_
         refine thenR ?_
         refine thenR ?_
         refine blkR ?_
         refine thenR ?_
         refine retF (.inl rfl) hA ?_
         refine leaveD (H' := [Cel b64 #[Value.int .i64 ((k : Nat) : Int)] 3, DefR D57, Cel b27 #[Value.slice AoL23 (l).length coL24, Value.slice AoB25 (g22).length coB26] 31, OrdR n11 n12 n13 l n14 n15 n16 n17 n18 n19 n20, Cel b3 #[Value.bool false] 4]) hW 1 rfl rfl ?_; clear hW; intro w81 hW
         refine leaveD (H' := [Cel b64 #[Value.int .i64 ((k : Nat) : Int)] 3, Cel b27 #[Value.slice AoL23 (l).length coL24, Value.slice AoB25 (g22).length coB26] 31, OrdR n11 n12 n13 l n14 n15 n16 n17 n18 n19 n20, Cel b3 #[Value.bool false] 4]) hW 1 rfl rfl ?_; clear hW; intro w82 hW
         refine leave1 (v := Value.bool false) (by rfl) (GotF.cell (b := b3) (i := 0) hA (by kernel_rfl) (by kernel_rfl) (hW.cel 3 rfl) (by kernel_rfl)) ?_
         clear hA
         exact ⟨retv (by rfl), hW.fr⟩)
       have h79 := of_bne_f h79
       first
       | (exfalso; clear hA hW; omega)
       | (exfalso; clear hA hW; exact h79 rfl; done)
       | (
        refine wpIn_skip ?_
        refine blkN ?_
        refine thenN ?_
        refine wpIn_seq ?_
        refine wpIn_seq ?_
        refine wpIn_region_lit ?_
        refine sf_q (Value.int .i64 1) hA hW.cls (Rd.load (b := b60) (i := 0) (by kernel_rfl) (fun _ hw => show _ = _ from (hw.1).getG 0 rfl) (by kernel_rfl)) ?_; clear hA ac; intro ac hA
        refine wpListIn_nil ?_
        refine thenN ?_
        refine wpIn_region_lit ?_
        refine sf_s hA (RunsF.of (Runs.cells (fun b => Value.pointer (some ⟨b, 0, none⟩)) #[Value.int .i64 0] 3 (fun _ => by kernel_rfl) hW ?_)); clear hA ac hW; intro b83 w84 hW hb83 hfw84 ac hA
        refine sf_s hA (RunsF.of (Runs.store (v := Value.int .i64 1) (b := b83) (j := 0) (n := 1) (cs' := #[Value.int .i64 1]) (H' := [Cel b83 #[Value.int .i64 1] 3, Cel b64 #[Value.int .i64 ((k : Nat) : Int)] 3, DefR D77, DefR D57, Cel b27 #[Value.slice AoL23 (l).length coL24, Value.slice AoB25 (g22).length coB26] 31, OrdR n11 n12 n13 l n14 n15 n16 n17 n18 n19 n20, Cel b3 #[Value.bool false] 4]) (by kernel_rfl) (by kernel_rfl) (by kernel_rfl) (by kernel_rfl) (by kernel_rfl) hW 0 (by rfl) (Nat.le_of_ble_eq_true (by kernel_rfl)) (by kernel_rfl) (by rfl) ?_)); clear hA ac hW; intro w85 hW ac hA
        refine wpListIn_nil ?_
        refine thenN ?_
        refine wpIn_region_lit ?_
        refine sf_q (Value.int .i64 1) hA hW.cls (Rd.load (b := b83) (i := 0) (by kernel_rfl) (fun _ hw => (hw.1).cel 0 rfl) (by kernel_rfl)) fun ac hA => sf_q (Value.int .i64 2) hA hW.cls (Rd.pureE (v0 := Value.int .i64 (IntKind.i64.wrap ((1 : Int) + 1))) (fun _ => by kernel_rfl) (congrArg (Value.int .i64) ((w_i64 (x := (1 : Int) + 1) (by omega) (by omega)).trans (by omega)))) fun ac hA => ?_
        refine sf_s hA (RunsF.of (Runs.store (v := Value.int .i64 2) (b := b83) (j := 0) (n := 1) (cs' := #[Value.int .i64 2]) (H' := [Cel b83 #[Value.int .i64 2] 3, Cel b64 #[Value.int .i64 ((k : Nat) : Int)] 3, DefR D77, DefR D57, Cel b27 #[Value.slice AoL23 (l).length coL24, Value.slice AoB25 (g22).length coB26] 31, OrdR n11 n12 n13 l n14 n15 n16 n17 n18 n19 n20, Cel b3 #[Value.bool false] 4]) (by kernel_rfl) (by kernel_rfl) (by kernel_rfl) (by kernel_rfl) (by kernel_rfl) hW 0 (by rfl) (Nat.le_of_ble_eq_true (by kernel_rfl)) (by kernel_rfl) (by rfl) ?_)); clear hA ac hW; intro w86 hW ac hA
        refine wpListIn_nil ?_
        refine thenN ?_
        rw [roundsIn_succ]
        refine wpIn_seq ?_
        refine wpIn_seq ?_
        refine wpIn_region_lit ?_
        refine sf_q (Value.int .i64 2) hA hW.cls (Rd.load (b := b83) (i := 0) (by kernel_rfl) (fun _ hw => (hw.1).cel 0 rfl) (by kernel_rfl)) fun ac hA => sf_p (Value.bool false) hA fun ac hA => ?_
        refine wpListIn_nil ?_
        refine thenN ?_
        refine wpIn_cond_false (hA.eval (by kernel_rfl)) ?_
        refine wpIn_exit ?_
        refine thenX ?_
        refine thenX ?_
        refine blkX ?_
        refine thenN ?_
        refine wpIn_seq ?_
        refine wpIn_region_lit ?_
        refine sf_s hA (RunsF.of (Runs.callN (v := Value.bool true) (fun _ => by kernel_rfl) hW (e_works w86) ?_)); clear hA ac hW; intro w87 hW hfw87 ac hA
        refine sf_s hA (RunsF.of (Runs.store (v := Value.bool true) (b := b3) (j := 0) (n := 1) (cs' := #[Value.bool true]) (H' := [Cel b83 #[Value.int .i64 2] 3, Cel b64 #[Value.int .i64 ((k : Nat) : Int)] 3, DefR D77, DefR D57, Cel b27 #[Value.slice AoL23 (l).length coL24, Value.slice AoB25 (g22).length coB26] 31, OrdR n11 n12 n13 l n14 n15 n16 n17 n18 n19 n20, Cel b3 #[Value.bool true] 4]) (by kernel_rfl) (by kernel_rfl) (by kernel_rfl) (by kernel_rfl) (by kernel_rfl) hW 6 (by rfl) (Nat.le_of_ble_eq_true (by kernel_rfl)) (by kernel_rfl) (by rfl) ?_)); clear hA ac hW; intro w88 hW ac hA
        refine wpListIn_nil ?_
        refine thenN ?_
        refine wpIn_ret ?_
        refine retF (.inl rfl) hA ?_
        refine leaveD (H' := [Cel b83 #[Value.int .i64 2] 3, Cel b64 #[Value.int .i64 ((k : Nat) : Int)] 3, DefR D57, Cel b27 #[Value.slice AoL23 (l).length coL24, Value.slice AoB25 (g22).length coB26] 31, OrdR n11 n12 n13 l n14 n15 n16 n17 n18 n19 n20, Cel b3 #[Value.bool true] 4]) hW 2 rfl rfl ?_; clear hW; intro w89 hW
        refine leaveD (H' := [Cel b83 #[Value.int .i64 2] 3, Cel b64 #[Value.int .i64 ((k : Nat) : Int)] 3, Cel b27 #[Value.slice AoL23 (l).length coL24, Value.slice AoB25 (g22).length coB26] 31, OrdR n11 n12 n13 l n14 n15 n16 n17 n18 n19 n20, Cel b3 #[Value.bool true] 4]) hW 2 rfl rfl ?_; clear hW; intro w90 hW
        refine leave1 (v := Value.bool true) (by rfl) (GotF.cell (b := b3) (i := 0) hA (by kernel_rfl) (by kernel_rfl) (hW.cel 4 rfl) (by kernel_rfl)) ?_
        clear hA
        exact ⟨retv (by rfl), hW.fr⟩)
      ·
       clear hA ac hW; intro D91 c_ pre_ Hk_ w92 ac hJ_ hA hW
       exact hJ_.elim)
    ·
     clear hA ac hW; intro D93 c_ pre_ Hk_ w94 ac hJ_ hA hW
     rcases hJ_ with ⟨rfl, n, hx_, rfl⟩
     ·
      replace hW : Ws w No [Cel b43 #[Value.int .i64 ((n : Nat) : Int)] 3, DefR D93, Cel b27 #[Value.slice AoL23 (l).length coL24, Value.slice AoB25 (g22).length coB26] 31, OrdR n11 n12 n13 l n14 n15 n16 n17 n18 n19 n20, Cel b3 #[Value.bool false] 4] [Cel b40 #[Value.int .i64 0] 3, Cel b1 #[Value.int .i64 many] 3, Cel b34 #[Value.slice A31 (rclP l l.length).length c32] 35, roR A31 2 enPr (rclP l l.length), rowR 41 2 enPr (Value.slice A31 (rclP l l.length).length c32) (rclP l l.length), g39, nestR innerBV g22, roR AoB25 1 enBV g22, roR AoL23 9 enEvent l, roR A_l 9 enEvent l] w94 := hW
      refine wpIn_exit ?_
      refine blkX ?_
      refine thenN ?_
      refine wpIn_seq ?_
      refine wpIn_region_lit ?_
      refine sf_q (Value.int .i64 0) hA hW.cls (Rd.load (b := b40) (i := 0) (by kernel_rfl) (fun _ hw => show _ = _ from (hw.1).getG 0 rfl) (by kernel_rfl)) fun ac hA => sf_p (Value.bool true) hA fun ac hA => sf_p (Value.bool true) hA fun ac hA => sf_q (Value.int .i64 ((n : Nat) : Int)) hA hW.cls (Rd.load (b := b43) (i := 0) (by kernel_rfl) (fun _ hw => (hw.1).cel 0 rfl) (by kernel_rfl)) fun ac hA => sf_q (Value.slice A31 (rclP l l.length).length c32) hA hW.cls (Rd.load (b := b34) (i := 0) (by kernel_rfl) (fun _ hw => show _ = _ from (hw.1).getG 2 rfl) (by kernel_rfl)) fun ac hA => sf_p (Value.int .i64 (((rclP l l.length).length : Nat) : Int)) hA fun ac hA => sf_q (Value.int .i64 many) hA hW.cls (Rd.load (b := b1) (i := 0) (by kernel_rfl) (fun _ hw => show _ = _ from (hw.1).getG 1 rfl) (by kernel_rfl)) fun ac hA => sf_q (Value.int .i64 (max (1 : Int) (many : Int))) hA hW.cls (Rd.pureE (v0 := Value.int .i64 (if (many : Int) > (1 : Int) then (many : Int) else (1 : Int))) (fun _ => by kernel_rfl) (congrArg (Value.int .i64) (max_ _ _))) fun ac hA => sf_q (Value.int .i64 (min ((((rclP l l.length).length : Nat) : Int) : Int) (max (1 : Int) (many : Int) : Int))) hA hW.cls (Rd.pureE (v0 := Value.int .i64 (if (max (1 : Int) (many : Int) : Int) < ((((rclP l l.length).length : Nat) : Int) : Int) then (max (1 : Int) (many : Int) : Int) else ((((rclP l l.length).length : Nat) : Int) : Int))) (fun _ => by kernel_rfl) (congrArg (Value.int .i64) (min_ _ _))) fun ac hA => sf_p (Value.bool ((((n : Nat) : Int) : Int) != (min ((((rclP l l.length).length : Nat) : Int) : Int) (max (1 : Int) (many : Int) : Int) : Int))) hA fun ac hA => sf_p (Value.bool ((((n : Nat) : Int) : Int) != (min ((((rclP l l.length).length : Nat) : Int) : Int) (max (1 : Int) (many : Int) : Int) : Int))) hA fun ac hA => sf_p (Value.bool ((((n : Nat) : Int) : Int) != (min ((((rclP l l.length).length : Nat) : Int) : Int) (max (1 : Int) (many : Int) : Int) : Int))) hA fun ac hA => ?_
      rcases Bool.eq_false_or_eq_true ((((n : Nat) : Int) : Int) != (min ((((rclP l l.length).length : Nat) : Int) : Int) (max (1 : Int) (many : Int) : Int) : Int)) with h95 | h95
      ·
       rw [h95] at hA
       have h95 := bne_iff_ne.1 h95
       first
       | (exfalso; clear hA hW; omega)
       | (exfalso; clear hA hW; exact h95 rfl; done)
       | (
        fail)
      rw [h95] at hA
      have h95 := of_bne_f h95
      first
      | (exfalso; clear hA hW; omega)
      | (exfalso; clear hA hW; exact h95 rfl; done)
      | (
       refine sf_q (Value.int .i64 0) hA hW.cls (Rd.load (b := b40) (i := 0) (by kernel_rfl) (fun _ hw => show _ = _ from (hw.1).getG 0 rfl) (by kernel_rfl)) fun ac hA => sf_p (Value.bool false) hA fun ac hA => sf_p (Value.bool false) hA fun ac hA => sf_k hA fun ac hA => sf_k hA fun ac hA => sf_k hA fun ac hA => sf_k hA fun ac hA => sf_p (Value.bool false) hA fun ac hA => sf_p (Value.bool false) hA fun ac hA => ?_
       refine wpListIn_nil ?_
       refine thenN ?_
       refine wpIn_cond_false (hA.eval (by kernel_rfl)) ?_
       refine wpIn_skip ?_
       refine blkN ?_
       refine thenN ?_
       refine wpIn_seq ?_
       refine wpIn_seq ?_
       refine wpIn_region_lit ?_
       refine sf_q (Value.int .i64 0) hA hW.cls (Rd.load (b := b40) (i := 0) (by kernel_rfl) (fun _ hw => show _ = _ from (hw.1).getG 0 rfl) (by kernel_rfl)) ?_; clear hA ac; intro ac hA
       refine wpListIn_nil ?_
       refine thenN ?_
       refine wpIn_region_lit ?_
       refine sf_s hA (RunsF.of (Runs.cells (fun b => Value.pointer (some ⟨b, 0, none⟩)) #[Value.int .i64 0] 3 (fun _ => by kernel_rfl) hW ?_)); clear hA ac hW; intro b96 w97 hW hb96 hfw97 ac hA
       refine sf_s hA (RunsF.of (Runs.store (v := Value.int .i64 0) (b := b96) (j := 0) (n := 1) (cs' := #[Value.int .i64 0]) (H' := [Cel b96 #[Value.int .i64 0] 3, Cel b43 #[Value.int .i64 ((n : Nat) : Int)] 3, DefR D93, Cel b27 #[Value.slice AoL23 (l).length coL24, Value.slice AoB25 (g22).length coB26] 31, OrdR n11 n12 n13 l n14 n15 n16 n17 n18 n19 n20, Cel b3 #[Value.bool false] 4]) (by kernel_rfl) (by kernel_rfl) (by kernel_rfl) (by kernel_rfl) (by kernel_rfl) hW 0 (by rfl) (Nat.le_of_ble_eq_true (by kernel_rfl)) (by kernel_rfl) (by rfl) ?_)); clear hA ac hW; intro w98 hW ac hA
       refine wpListIn_nil ?_
       refine thenN ?_
       refine wpIn_region_lit ?_
       refine sf_q (Value.int .i64 0) hA hW.cls (Rd.load (b := b96) (i := 0) (by kernel_rfl) (fun _ hw => (hw.1).cel 0 rfl) (by kernel_rfl)) fun ac hA => sf_q (Value.int .i64 1) hA hW.cls (Rd.pureE (v0 := Value.int .i64 (IntKind.i64.wrap ((0 : Int) + 1))) (fun _ => by kernel_rfl) (congrArg (Value.int .i64) ((w_i64 (x := (0 : Int) + 1) (by omega) (by omega)).trans (by omega)))) fun ac hA => ?_
       refine sf_s hA (RunsF.of (Runs.store (v := Value.int .i64 1) (b := b96) (j := 0) (n := 1) (cs' := #[Value.int .i64 1]) (H' := [Cel b96 #[Value.int .i64 1] 3, Cel b43 #[Value.int .i64 ((n : Nat) : Int)] 3, DefR D93, Cel b27 #[Value.slice AoL23 (l).length coL24, Value.slice AoB25 (g22).length coB26] 31, OrdR n11 n12 n13 l n14 n15 n16 n17 n18 n19 n20, Cel b3 #[Value.bool false] 4]) (by kernel_rfl) (by kernel_rfl) (by kernel_rfl) (by kernel_rfl) (by kernel_rfl) hW 0 (by rfl) (Nat.le_of_ble_eq_true (by kernel_rfl)) (by kernel_rfl) (by rfl) ?_)); clear hA ac hW; intro w99 hW ac hA
       refine wpListIn_nil ?_
       refine thenN ?_
       rw [roundsIn_succ]
       refine wpIn_seq ?_
       refine wpIn_seq ?_
       refine wpIn_region_lit ?_
       refine sf_q (Value.int .i64 1) hA hW.cls (Rd.load (b := b96) (i := 0) (by kernel_rfl) (fun _ hw => (hw.1).cel 0 rfl) (by kernel_rfl)) fun ac hA => sf_p (Value.bool true) hA fun ac hA => ?_
       refine wpListIn_nil ?_
       refine thenN ?_
       refine wpIn_cond_true (hA.eval (by kernel_rfl)) ?_
       refine wpIn_skip ?_
       refine thenN ?_
       refine wpIn_seq ?_
       refine wpIn_block ?_
       refine wpIn_seq ?_
       refine wpIn_region_lit ?_
       refine sf_s hA (RunsF.of (Runs.cells (fun b => Value.pointer (some ⟨b, 0, none⟩)) #[Value.int .i64 0] 3 (fun _ => by kernel_rfl) hW ?_)); clear hA ac hW; intro b100 w101 hW hb100 hfw101 ac hA
       refine sf_s hA (RunsF.of (Runs.store (v := Value.int .i64 0) (b := b100) (j := 0) (n := 1) (cs' := #[Value.int .i64 0]) (H' := [Cel b100 #[Value.int .i64 0] 3, Cel b96 #[Value.int .i64 1] 3, Cel b43 #[Value.int .i64 ((n : Nat) : Int)] 3, DefR D93, Cel b27 #[Value.slice AoL23 (l).length coL24, Value.slice AoB25 (g22).length coB26] 31, OrdR n11 n12 n13 l n14 n15 n16 n17 n18 n19 n20, Cel b3 #[Value.bool false] 4]) (by kernel_rfl) (by kernel_rfl) (by kernel_rfl) (by kernel_rfl) (by kernel_rfl) hW 0 (by rfl) (Nat.le_of_ble_eq_true (by kernel_rfl)) (by kernel_rfl) (by rfl) ?_)); clear hA ac hW; intro w102 hW ac hA
       refine wpListIn_nil ?_
       refine thenN ?_
       refine wpIn_seq ?_
       refine wpIn_seq ?_
       replace hW : Ws w No [Cel b100 #[Value.int .i64 0] 3, Cel b96 #[Value.int .i64 1] 3, DefR D93, Cel b27 #[Value.slice AoL23 (l).length coL24, Value.slice AoB25 (g22).length coB26] 31, OrdR n11 n12 n13 l n14 n15 n16 n17 n18 n19 n20, Cel b3 #[Value.bool false] 4] [Cel b40 #[Value.int .i64 0] 3, Cel b1 #[Value.int .i64 many] 3, Cel b34 #[Value.slice A31 (rclP l l.length).length c32] 35, roR A31 2 enPr (rclP l l.length), rowR 41 2 enPr (Value.slice A31 (rclP l l.length).length c32) (rclP l l.length), g39, nestR innerBV g22, roR AoB25 1 enBV g22, roR AoL23 9 enEvent l, roR A_l 9 enEvent l] w102 := hW.pick [0, 1, 3, 4, 5, 6] (by decide) rfl
       refine wpIn_region_lit ?_
       refine sf_p (Value.func (.func 31) #[] lb38) hA ?_; clear hA ac; intro ac hA
       refine wpListIn_nil ?_
       refine thenN ?_
       refine wpIn_block ?_
       have hW := hW.share 1 rfl (H' := [Cel b100 #[Value.int .i64 0] 3, DefR D93, Cel b27 #[Value.slice AoL23 (l).length coL24, Value.slice AoB25 (g22).length coB26] 31, OrdR n11 n12 n13 l n14 n15 n16 n17 n18 n19 n20, Cel b3 #[Value.bool false] 4]) rfl
       refine wp_range (encs := (fun x_ : Two => #[Value.int .i64 x_.a, Value.int .i64 x_.b])) (Sx := (· = (closeP l l.length))) hA (by kernel_rfl) (by kernel_rfl) (enters_of Tryz.func31 (by kernel_rfl) rfl) (by kernel_rfl) (fun _ => rfl) hIg39 (List.forall_mem_singleton.2 (List.mem_of_getElem? (i := 6) rfl)) (fun pre_ H_ => ∃ k : Nat, pre_ = (closeP l l.length).take k ∧ k ≤ (closeP l l.length).length ∧ H_ = [Cel b100 #[Value.int .i64 ((k : Nat) : Int)] 3]) (fun _ _ _ => False) (H := [Cel b100 #[Value.int .i64 0] 3]) (K := [DefR D93, Cel b27 #[Value.slice AoL23 (l).length coL24, Value.slice AoB25 (g22).length coB26] 31, OrdR n11 n12 n13 l n14 n15 n16 n17 n18 n19 n20, Cel b3 #[Value.bool false] 4]) (hW.pick [0, 1, 2, 3, 4] (by decide) rfl) ⟨0, rfl, Nat.zero_le _, rfl⟩ ?_ ?_ ?_
       ·
        clear hA ac hW; intro l_103 rd_103 bs_103 pre_ x_ Hk_ w104 T_103 ac hrd_103 hbs_103 hbr_103 hok_ hJ_ hA hW hB_103 hT_103
        obtain ⟨k, rfl, hk_, rfl⟩ := hJ_
        obtain ⟨y105, h_⟩ : ∃ y_, y_ = x_ := ⟨_, rfl⟩; subst h_; obtain ⟨hy105, hlty105, hsny105⟩ := comes_list hok_ hk_
        replace hA : Fm 97 [] [(0, Value.slice A_l l.length c_l), (1, Value.int .i64 many), (3, Value.pointer (some ⟨b1, 0, none⟩)), (4, Value.pointer (some ⟨b3, 0, none⟩)), (5, Value.pointer (some ⟨n11, 0, none⟩)), (6, Value.int .i64 0), (7, Value.pointer (some ⟨b27, 0, none⟩)), (8, Value.int .i64 0), (9, Value.pointer (some ⟨b34, 0, none⟩)), (10, Value.func (.func 31) #[] lb38), (11, Value.pointer (some ⟨b96, 0, none⟩)), (12, Value.pointer (some ⟨b100, 0, none⟩)), (15, Value.slice A_l l.length c_l), (16, Value.bool (fewOk l (40))), (17, Value.bool (!(fewOk l (40)))), (19, Value.tuple #[Value.pointer (some ⟨n11, 0, none⟩), Value.int .i64 0]), (20, Value.slice A_l l.length c_l), (21, Value.tuple #[Value.pointer (some ⟨n11, 0, none⟩), Value.int .i64 0]), (22, Value.pointer (some ⟨n11, 0, none⟩)), (23, Value.int .i64 0), (24, Value.tuple #[Value.agg #[Value.slice AoL23 (l).length coL24, Value.slice AoB25 (g22).length coB26], Value.int .i64 0]), (25, Value.slice A_l l.length c_l), (26, Value.tuple #[Value.agg #[Value.slice AoL23 (l).length coL24, Value.slice AoB25 (g22).length coB26], Value.int .i64 0]), (27, Value.agg #[Value.slice AoL23 (l).length coL24, Value.slice AoB25 (g22).length coB26]), (28, Value.int .i64 0), (29, Value.int .i64 0), (30, Value.bool false), (38, Value.agg #[Value.slice AoL23 (l).length coL24, Value.slice AoB25 (g22).length coB26]), (39, Value.slice A31 (rclP l l.length).length c32), (40, Value.pointer (some ⟨n11, 0, none⟩)), (41, Value.func (.func 31) #[] lb38), (42, Value.func (.func 31) #[] lb38), (43, Value.bool false), (44, Value.int .i64 1), (45, Value.bool true), (46, Value.int .i64 0), (47, Value.int .i64 1), (48, Value.func (.func 31) #[] lb38), (49, Value.int .i64 y105.a), (50, Value.int .i64 y105.b), (74, Value.int .i64 0), (75, Value.bool true), (76, Value.bool true), (78, Value.slice A31 (rclP l l.length).length c32), (79, Value.int .i64 (((rclP l l.length).length : Nat) : Int)), (80, Value.int .i64 many), (81, Value.int .i64 (max (1 : Int) (many : Int))), (82, Value.int .i64 (min ((((rclP l l.length).length : Nat) : Int) : Int) (max (1 : Int) (many : Int) : Int))), (83, Value.bool false), (84, Value.bool false), (85, Value.bool false), (86, Value.int .i64 0), (87, Value.bool false), (88, Value.bool false), (93, Value.bool false), (94, Value.bool false), (95, Value.int .i64 0)] ac := hA.sub (by and_intros <;> first | kernel_rfl | trivial)
        refine wpIn_seq ?_
        refine wpIn_region_lit ?_
        refine sf_p (Value.int .i64 y105.a) hA ?_; clear hA ac; intro ac hA
        refine wpListIn_nil ?_
        refine thenN ?_
        refine wpIn_region_lit ?_
        refine sf_p (Value.int .i64 y105.b) hA ?_; clear hA ac; intro ac hA
        refine wpListIn_nil ?_
        refine thenN ?_
        refine begun (bs := bs_103) (H' := [bs_103, Cel b100 #[Value.int .i64 ((k : Nat) : Int)] 3]) hW 0 rfl (fun b hb => by rw [hbs_103] at hb; rw [hrd_103]; exact hb) rfl ?_; clear hW; intro w106 hW
        refine wpIn_block ?_
        refine wpIn_seq ?_
        refine wpIn_seq ?_
        refine wpIn_region_lit ?_
        refine sf_q (Value.int .i64 ((k : Nat) : Int)) hA hW.cls (Rd.load (b := b100) (i := 0) (by kernel_rfl) (fun _ hw => (hw.1).cel 1 rfl) (by kernel_rfl)) fun ac hA => sf_q (Value.slice A31 (rclP l l.length).length c32) hA hW.cls (Rd.load (b := b34) (i := 0) (by kernel_rfl) (fun _ hw => show _ = _ from (hw.1).getG 3 rfl) (by kernel_rfl)) fun ac hA => sf_p (Value.int .i64 (((rclP l l.length).length : Nat) : Int)) hA fun ac hA => sf_p (Value.bool (decide ((((k : Nat) : Int) : Int) ≥ ((((rclP l l.length).length : Nat) : Int) : Int)))) hA fun ac hA => sf_p (Value.bool (decide ((((k : Nat) : Int) : Int) ≥ ((((rclP l l.length).length : Nat) : Int) : Int)))) hA fun ac hA => ?_
        rcases Bool.eq_false_or_eq_true (decide ((((k : Nat) : Int) : Int) ≥ ((((rclP l l.length).length : Nat) : Int) : Int))) with h107 | h107
        ·
         rw [h107] at hA
         have h107 := of_decide_eq_true h107
         first
         | (exfalso; clear hA hW; omega)
         | (exfalso; clear hA hW; exact h107 rfl; done)
         | (
          fail)
        rw [h107] at hA
        have h107 := of_decide_eq_false h107
        first
        | (exfalso; clear hA hW; omega)
        | (exfalso; clear hA hW; exact h107 rfl; done)
        | (
         refine sf_q (Value.slice A31 (rclP l l.length).length c32) hA hW.cls (Rd.load (b := b34) (i := 0) (by kernel_rfl) (fun _ hw => show _ = _ from (hw.1).getG 3 rfl) (by kernel_rfl)) fun ac hA => sf_q (Value.int .i64 ((k : Nat) : Int)) hA hW.cls (Rd.load (b := b100) (i := 0) (by kernel_rfl) (fun _ hw => (hw.1).cel 1 rfl) (by kernel_rfl)) fun ac hA => ?_
         obtain ⟨y108, hy108⟩ : ∃ y, (rclP l l.length)[k]? = some y := ⟨_, List.getElem?_eq_getElem (by first | omega | (simp; done) | (simp; omega))⟩
         obtain ⟨b109, o110, rfl, hbb109⟩ := row_some ((hW).getG 4 rfl) hy108
         refine sf_q (Value.pointer (some ⟨b109, o110 + k * 2, none⟩)) hA hW.cls (Rd.indexAddr (e := 41) (sz := 2) (b := b109) (off := o110) (n := (rclP l l.length).length) (c := c32) (k := k) (by kernel_rfl) (by kernel_rfl) (by first | omega | (simp; done) | (simp; omega)) (fun _ => by kernel_rfl) (fun _ => by kernel_rfl)) fun ac hA => sf_q (Value.agg #[Value.int .i64 y108.i, Value.int .i64 y108.j]) hA hW.cls (Rd.loadRow (b := b109) (i := o110 + k * 2) (xs := [Value.int .i64 y108.i, Value.int .i64 y108.j]) (by kernel_rfl) (fun _ hw => row_ld ((hw.1).getG 4 rfl) hy108 (Fr.refl No _) (fun h => h) 0 2 (by kernel_rfl)) (by kernel_rfl)) fun ac hA => sf_p (Value.int .i64 y105.a) hA fun ac hA => sf_p (Value.int .i64 y105.b) hA fun ac hA => sf_p (Value.agg #[Value.int .i64 y105.a, Value.int .i64 y105.b]) hA fun ac hA => sf_q (Value.bool (!decide (y108 = (⟨y105.a, y105.b⟩ : Pr)))) hA hW.cls (Rd.neS (u := y108.v) (v := (⟨y105.a, y105.b⟩ : Pr).v) (by kernel_rfl) (by kernel_rfl) rfl rfl (by kernel_rfl) (fun w => eq_Pr w y108 (⟨y105.a, y105.b⟩ : Pr))) fun ac hA => sf_p (Value.bool (!decide (y108 = (⟨y105.a, y105.b⟩ : Pr)))) hA fun ac hA => ?_
         refine wpListIn_nil ?_
         refine thenN ?_
         refine wpIn_cond_split (t := !decide (y108 = (⟨y105.a, y105.b⟩ : Pr))) (hA.eval (by kernel_rfl)) (fun h111 => ?_) (fun h111 => ?_)
         ·
          have h111 := not_t h111
          have h111 := of_decide_eq_false h111
          have h111e := fun e => h111 ((Pr.eqi _ _).2 e)
          first
          | (exfalso; clear hA hW; omega)
          | (exfalso; clear hA hW; exact h111 rfl; done)
          | (exfalso; clear hA hW; exact h111 (by have q_ := hy108; rw [hrc_, List.getElem?_map, hy105] at q_; exact (Option.some.inj q_).symm); done)
          | (
           fail)
         have h111 := not_f h111
         have h111 := of_decide_eq_true h111
         have h111e := (Pr.eqi _ _).1 h111
         first
         | (exfalso; clear hA hW; omega)
         | (exfalso; clear hA hW; exact h111 rfl; done)
         | (
          refine wpIn_skip ?_
          refine thenN ?_
          refine wpIn_seq ?_
          refine wpIn_region_lit ?_
          refine sf_q (Value.int .i64 ((k : Nat) : Int)) hA hW.cls (Rd.load (b := b100) (i := 0) (by kernel_rfl) (fun _ hw => (hw.1).cel 1 rfl) (by kernel_rfl)) fun ac hA => sf_q (Value.int .i64 ((k + 1 : Nat) : Int)) hA hW.cls (Rd.pureE (v0 := Value.int .i64 (IntKind.i64.wrap ((((k : Nat) : Int) : Int) + 1))) (fun _ => by kernel_rfl) (congrArg (Value.int .i64) ((w_i64 (x := (((k : Nat) : Int) : Int) + 1) (by omega) (by omega)).trans (by omega)))) fun ac hA => ?_
          refine sf_s hA (RunsF.of (Runs.store (v := Value.int .i64 ((k + 1 : Nat) : Int)) (b := b100) (j := 0) (n := 1) (cs' := #[Value.int .i64 ((k + 1 : Nat) : Int)]) (H' := [bs_103, Cel b100 #[Value.int .i64 ((k + 1 : Nat) : Int)] 3]) (by kernel_rfl) (by kernel_rfl) (by kernel_rfl) (by kernel_rfl) (by kernel_rfl) hW 1 (by rfl) (Nat.le_of_ble_eq_true (by kernel_rfl)) (by kernel_rfl) (by rfl) ?_)); clear hA ac hW; intro w112 hW ac hA
          refine wpListIn_nil ?_
          refine thenN ?_
          refine wpIn_seq ?_
          refine wpIn_region_lit ?_
          refine sf_q (Value.int .i64 1) hA hW.cls (Rd.load (b := b96) (i := 0) (by kernel_rfl) (fun _ hw => show _ = _ from (hw.1).getG 0 rfl) (by kernel_rfl)) fun ac hA => sf_p (Value.bool false) hA fun ac hA => sf_p (Value.bool false) hA fun ac hA => sf_k hA fun ac hA => sf_k hA fun ac hA => sf_k hA fun ac hA => sf_p (Value.bool false) hA fun ac hA => ?_
          refine wpListIn_nil ?_
          refine thenN ?_
          refine wpIn_cond_false (hA.eval (by kernel_rfl)) ?_
          refine wpIn_skip ?_
          refine blkN ?_
          exact ⟨_, ⟨k + 1, hsny105, hlty105, rfl⟩, (hW.pick [0, 1] (by decide) rfl).pickG [0, 1, 2, 3, 4, 5, 6, 7, 8, 9, 10] rfl⟩))
       ·
        clear hA ac hW; intro D113 xs_ Hk_ w114 ac hS_ hJ_ hA hW
        obtain ⟨k, hpre_, hk_, rfl⟩ := hJ_
        have hke : k = (closeP l l.length).length := by have := congrArg List.length (hS_.symm.trans hpre_); simp at this; omega
        clear hpre_ hS_
        replace hW : Ws w No [Cel b100 #[Value.int .i64 ((k : Nat) : Int)] 3, DefR D113, DefR D93, Cel b27 #[Value.slice AoL23 (l).length coL24, Value.slice AoB25 (g22).length coB26] 31, OrdR n11 n12 n13 l n14 n15 n16 n17 n18 n19 n20, Cel b3 #[Value.bool false] 4] [Cel b96 #[Value.int .i64 1] 3, Cel b40 #[Value.int .i64 0] 3, Cel b1 #[Value.int .i64 many] 3, Cel b34 #[Value.slice A31 (rclP l l.length).length c32] 35, roR A31 2 enPr (rclP l l.length), rowR 41 2 enPr (Value.slice A31 (rclP l l.length).length c32) (rclP l l.length), g39, nestR innerBV g22, roR AoB25 1 enBV g22, roR AoL23 9 enEvent l, roR A_l 9 enEvent l] w114 := hW
        refine blkN ?_
        refine thenN ?_
        refine wpIn_seq ?_
        refine wpIn_region_lit ?_
        refine sf_q (Value.int .i64 1) hA hW.cls (Rd.load (b := b96) (i := 0) (by kernel_rfl) (fun _ hw => show _ = _ from (hw.1).getG 0 rfl) (by kernel_rfl)) fun ac hA => sf_p (Value.bool false) hA fun ac hA => sf_p (Value.bool false) hA fun ac hA => sf_k hA fun ac hA => sf_k hA fun ac hA => sf_k hA fun ac hA => sf_k hA fun ac hA => sf_k hA fun ac hA => sf_k hA fun ac hA => sf_k hA fun ac hA => sf_p (Value.bool false) hA fun ac hA => sf_p (Value.bool false) hA fun ac hA => sf_q (Value.int .i64 1) hA hW.cls (Rd.load (b := b96) (i := 0) (by kernel_rfl) (fun _ hw => show _ = _ from (hw.1).getG 0 rfl) (by kernel_rfl)) fun ac hA => sf_p (Value.bool true) hA fun ac hA => ?_
        refine sf_p (Value.bool true) hA fun ac hA => sf_q (Value.int .i64 ((k : Nat) : Int)) hA hW.cls (Rd.load (b := b100) (i := 0) (by kernel_rfl) (fun _ hw => (hw.1).cel 0 rfl) (by kernel_rfl)) fun ac hA => sf_q (Value.slice A31 (rclP l l.length).length c32) hA hW.cls (Rd.load (b := b34) (i := 0) (by kernel_rfl) (fun _ hw => show _ = _ from (hw.1).getG 3 rfl) (by kernel_rfl)) fun ac hA => sf_p (Value.int .i64 (((rclP l l.length).length : Nat) : Int)) hA fun ac hA => sf_p (Value.bool ((((k : Nat) : Int) : Int) != ((((rclP l l.length).length : Nat) : Int) : Int))) hA fun ac hA => sf_p (Value.bool ((((k : Nat) : Int) : Int) != ((((rclP l l.length).length : Nat) : Int) : Int))) hA fun ac hA => sf_p (Value.bool ((((k : Nat) : Int) : Int) != ((((rclP l l.length).length : Nat) : Int) : Int))) hA fun ac hA => ?_
        refine wpListIn_nil ?_
        refine thenN ?_
        refine wpIn_cond_split (t := (((k : Nat) : Int) : Int) != ((((rclP l l.length).length : Nat) : Int) : Int)) (hA.eval (by kernel_rfl)) (fun h115 => ?_) (fun h115 => ?_)
        ·
         have h115 := bne_iff_ne.1 h115
         first
         | (exfalso; clear hA hW; omega)
         | (exfalso; clear hA hW; exact h115 rfl; done)
         | (
          refine wpIn_seq ?_
          refine wpIn_region_lit ?_
          refine sf_s hA (RunsF.of (Runs.store (v := Value.bool false) (b := b3) (j := 0) (n := 1) (cs' := #[Value.bool false]) (H' := [Cel b100 #[Value.int .i64 ((k : Nat) : Int)] 3, DefR D113, DefR D93, Cel b27 #[Value.slice AoL23 (l).length coL24, Value.slice AoB25 (g22).length coB26] 31, OrdR n11 n12 n13 l n14 n15 n16 n17 n18 n19 n20, Cel b3 #[Value.bool false] 4]) (by kernel_rfl) (by kernel_rfl) (by kernel_rfl) (by kernel_rfl) (by kernel_rfl) hW 5 (by rfl) (Nat.le_of_ble_eq_true (by kernel_rfl)) (by kernel_rfl) (by rfl) ?_)); clear hA ac hW; intro w116 hW ac hA
          refine wpListIn_nil ?_
          refine thenN ?_
          refine wpIn_ret ?_
          refine blkR ?_
          refine thenR ?_
          refine thenR ?_
          refine blkR ?_
          refine thenR ?_
          refine retF (.inl rfl) hA ?_
          refine leaveD (H' := [Cel b100 #[Value.int .i64 ((k : Nat) : Int)] 3, DefR D93, Cel b27 #[Value.slice AoL23 (l).length coL24, Value.slice AoB25 (g22).length coB26] 31, OrdR n11 n12 n13 l n14 n15 n16 n17 n18 n19 n20, Cel b3 #[Value.bool false] 4]) hW 1 rfl rfl ?_; clear hW; intro w117 hW
          refine leaveD (H' := [Cel b100 #[Value.int .i64 ((k : Nat) : Int)] 3, Cel b27 #[Value.slice AoL23 (l).length coL24, Value.slice AoB25 (g22).length coB26] 31, OrdR n11 n12 n13 l n14 n15 n16 n17 n18 n19 n20, Cel b3 #[Value.bool false] 4]) hW 1 rfl rfl ?_; clear hW; intro w118 hW
          refine leave1 (v := Value.bool false) (by rfl) (GotF.cell (b := b3) (i := 0) hA (by kernel_rfl) (by kernel_rfl) (hW.cel 3 rfl) (by kernel_rfl)) ?_
          clear hA
          exact ⟨retv (by rfl), hW.fr⟩)
        have h115 := of_bne_f h115
        first
        | (exfalso; clear hA hW; omega)
        | (exfalso; clear hA hW; exact h115 rfl; done)
        | (
         refine wpIn_skip ?_
         refine blkN ?_
         refine thenN ?_
         refine wpIn_seq ?_
         refine wpIn_seq ?_
         refine wpIn_region_lit ?_
         refine sf_q (Value.int .i64 1) hA hW.cls (Rd.load (b := b96) (i := 0) (by kernel_rfl) (fun _ hw => show _ = _ from (hw.1).getG 0 rfl) (by kernel_rfl)) ?_; clear hA ac; intro ac hA
         refine wpListIn_nil ?_
         refine thenN ?_
         refine wpIn_region_lit ?_
         refine sf_s hA (RunsF.of (Runs.cells (fun b => Value.pointer (some ⟨b, 0, none⟩)) #[Value.int .i64 0] 3 (fun _ => by kernel_rfl) hW ?_)); clear hA ac hW; intro b119 w120 hW hb119 hfw120 ac hA
         refine sf_s hA (RunsF.of (Runs.store (v := Value.int .i64 1) (b := b119) (j := 0) (n := 1) (cs' := #[Value.int .i64 1]) (H' := [Cel b119 #[Value.int .i64 1] 3, Cel b100 #[Value.int .i64 ((k : Nat) : Int)] 3, DefR D113, DefR D93, Cel b27 #[Value.slice AoL23 (l).length coL24, Value.slice AoB25 (g22).length coB26] 31, OrdR n11 n12 n13 l n14 n15 n16 n17 n18 n19 n20, Cel b3 #[Value.bool false] 4]) (by kernel_rfl) (by kernel_rfl) (by kernel_rfl) (by kernel_rfl) (by kernel_rfl) hW 0 (by rfl) (Nat.le_of_ble_eq_true (by kernel_rfl)) (by kernel_rfl) (by rfl) ?_)); clear hA ac hW; intro w121 hW ac hA
         refine wpListIn_nil ?_
         refine thenN ?_
         refine wpIn_region_lit ?_
         refine sf_q (Value.int .i64 1) hA hW.cls (Rd.load (b := b119) (i := 0) (by kernel_rfl) (fun _ hw => (hw.1).cel 0 rfl) (by kernel_rfl)) fun ac hA => sf_q (Value.int .i64 2) hA hW.cls (Rd.pureE (v0 := Value.int .i64 (IntKind.i64.wrap ((1 : Int) + 1))) (fun _ => by kernel_rfl) (congrArg (Value.int .i64) ((w_i64 (x := (1 : Int) + 1) (by omega) (by omega)).trans (by omega)))) fun ac hA => ?_
         refine sf_s hA (RunsF.of (Runs.store (v := Value.int .i64 2) (b := b119) (j := 0) (n := 1) (cs' := #[Value.int .i64 2]) (H' := [Cel b119 #[Value.int .i64 2] 3, Cel b100 #[Value.int .i64 ((k : Nat) : Int)] 3, DefR D113, DefR D93, Cel b27 #[Value.slice AoL23 (l).length coL24, Value.slice AoB25 (g22).length coB26] 31, OrdR n11 n12 n13 l n14 n15 n16 n17 n18 n19 n20, Cel b3 #[Value.bool false] 4]) (by kernel_rfl) (by kernel_rfl) (by kernel_rfl) (by kernel_rfl) (by kernel_rfl) hW 0 (by rfl) (Nat.le_of_ble_eq_true (by kernel_rfl)) (by kernel_rfl) (by rfl) ?_)); clear hA ac hW; intro w122 hW ac hA
         refine wpListIn_nil ?_
         refine thenN ?_
         rw [roundsIn_succ]
         refine wpIn_seq ?_
         refine wpIn_seq ?_
         refine wpIn_region_lit ?_
         refine sf_q (Value.int .i64 2) hA hW.cls (Rd.load (b := b119) (i := 0) (by kernel_rfl) (fun _ hw => (hw.1).cel 0 rfl) (by kernel_rfl)) fun ac hA => sf_p (Value.bool false) hA fun ac hA => ?_
         refine wpListIn_nil ?_
         refine thenN ?_
         refine wpIn_cond_false (hA.eval (by kernel_rfl)) ?_
         refine wpIn_exit ?_
         refine thenX ?_
         refine thenX ?_
         refine blkX ?_
         refine thenN ?_
         refine wpIn_seq ?_
         refine wpIn_region_lit ?_
         refine sf_s hA (RunsF.of (Runs.callN (v := Value.bool true) (fun _ => by kernel_rfl) hW (e_works w122) ?_)); clear hA ac hW; intro w123 hW hfw123 ac hA
         refine sf_s hA (RunsF.of (Runs.store (v := Value.bool true) (b := b3) (j := 0) (n := 1) (cs' := #[Value.bool true]) (H' := [Cel b119 #[Value.int .i64 2] 3, Cel b100 #[Value.int .i64 ((k : Nat) : Int)] 3, DefR D113, DefR D93, Cel b27 #[Value.slice AoL23 (l).length coL24, Value.slice AoB25 (g22).length coB26] 31, OrdR n11 n12 n13 l n14 n15 n16 n17 n18 n19 n20, Cel b3 #[Value.bool true] 4]) (by kernel_rfl) (by kernel_rfl) (by kernel_rfl) (by kernel_rfl) (by kernel_rfl) hW 6 (by rfl) (Nat.le_of_ble_eq_true (by kernel_rfl)) (by kernel_rfl) (by rfl) ?_)); clear hA ac hW; intro w124 hW ac hA
         refine wpListIn_nil ?_
         refine thenN ?_
         refine wpIn_ret ?_
         refine retF (.inl rfl) hA ?_
         refine leaveD (H' := [Cel b119 #[Value.int .i64 2] 3, Cel b100 #[Value.int .i64 ((k : Nat) : Int)] 3, DefR D93, Cel b27 #[Value.slice AoL23 (l).length coL24, Value.slice AoB25 (g22).length coB26] 31, OrdR n11 n12 n13 l n14 n15 n16 n17 n18 n19 n20, Cel b3 #[Value.bool true] 4]) hW 2 rfl rfl ?_; clear hW; intro w125 hW
         refine leaveD (H' := [Cel b119 #[Value.int .i64 2] 3, Cel b100 #[Value.int .i64 ((k : Nat) : Int)] 3, Cel b27 #[Value.slice AoL23 (l).length coL24, Value.slice AoB25 (g22).length coB26] 31, OrdR n11 n12 n13 l n14 n15 n16 n17 n18 n19 n20, Cel b3 #[Value.bool true] 4]) hW 2 rfl rfl ?_; clear hW; intro w126 hW
         refine leave1 (v := Value.bool true) (by rfl) (GotF.cell (b := b3) (i := 0) hA (by kernel_rfl) (by kernel_rfl) (hW.cel 4 rfl) (by kernel_rfl)) ?_
         clear hA
         exact ⟨retv (by rfl), hW.fr⟩)
       ·
        clear hA ac hW; intro D127 c_ pre_ Hk_ w128 ac hJ_ hA hW
        exact hJ_.elim))
  have h9 := of_decide_eq_false h9
  first
  | (exfalso; clear hA hW; omega)
  | (exfalso; clear hA hW; exact h9 rfl; done)
  | (
   have hfl_ := few_len (show fewOk l 40 = true from h6)
   have hfl_ := few_len (show fewOk l 40 = true from h6)
   refine wpIn_region_lit ?_
   refine sf_p (Value.slice A_l l.length c_l) hA ?_; clear hA ac; intro ac hA
   refine sf_s hA (RunsF.of (Runs.callN (v := Value.tuple #[Value.pointer none, Value.int .i64 (newErr l)]) (fun _ => by kernel_rfl) hW (e_onewB A_l c_l l w5 ((hW).getG 0 rfl) (by first | assumption | omega | (simp; omega) | simp) (by assumption) (fun x hx => (hel x hx).2)) ?_)); clear hA ac hW; intro w129 hW hfw129 ac hA
   refine sf_p (Value.tuple #[Value.pointer none, Value.int .i64 (newErr l)]) hA fun ac hA => sf_p (Value.pointer none) hA fun ac hA => sf_p (Value.int .i64 (newErr l)) hA fun ac hA => sf_p (Value.pointer none) hA fun ac hA => sf_p (Value.int .i64 (newErr l)) hA fun ac hA => ?_
   refine wpListIn_nil ?_
   refine thenN ?_
   refine wpIn_seq ?_
   refine wpIn_region_lit ?_
   refine sf_p (Value.slice A_l l.length c_l) hA ?_; clear hA ac; intro ac hA
   refine sf_s hA (RunsF.of (Runs.callN (v := Value.tuple #[Value.agg #[Value.slice none 0 0, Value.slice none 0 0], Value.int .i64 (newErr l)]) (fun _ => by kernel_rfl) hW (e_rnewB A_l c_l l w129 ((hW).getG 0 rfl) (by first | assumption | omega | (simp; omega) | simp) (by assumption) hl hel) ?_)); clear hA ac hW; intro w130 hW hfw130 ac hA
   refine sf_p (Value.tuple #[Value.agg #[Value.slice none 0 0, Value.slice none 0 0], Value.int .i64 (newErr l)]) hA fun ac hA => sf_p (Value.agg #[Value.slice none 0 0, Value.slice none 0 0]) hA fun ac hA => sf_p (Value.int .i64 (newErr l)) hA fun ac hA => ?_
   refine sf_s hA (RunsF.of (Runs.cells (fun b => Value.pointer (some ⟨b, 0, none⟩)) #[Value.slice none 0 0, Value.slice none 0 0] 31 (fun _ => by kernel_rfl) hW ?_)); clear hA ac hW; intro b131 w132 hW hb131 hfw132 ac hA
   refine sf_s hA (RunsF.of (Runs.store (v := Value.agg #[Value.slice none 0 0, Value.slice none 0 0]) (b := b131) (j := 0) (n := 2) (cs' := #[Value.slice none 0 0, Value.slice none 0 0]) (H' := [Cel b131 #[Value.slice none 0 0, Value.slice none 0 0] 31, Cel b3 #[Value.bool false] 4, Cel b1 #[Value.int .i64 many] 3]) (by kernel_rfl) (by kernel_rfl) (by kernel_rfl) (by kernel_rfl) (by kernel_rfl) hW 0 (by rfl) (Nat.le_of_ble_eq_true (by kernel_rfl)) (by kernel_rfl) (by rfl) ?_)); clear hA ac hW; intro w133 hW ac hA
   refine sf_p (Value.int .i64 (newErr l)) hA ?_; clear hA ac; intro ac hA
   refine wpListIn_nil ?_
   refine thenN ?_
   refine wpIn_seq ?_
   refine wpIn_seq ?_
   have hne_ := newErr_rng l
   refine wpIn_region_lit ?_
   refine sf_p (Value.int .i64 (newErr l)) hA fun ac hA => sf_p (Value.bool ((newErr l : Int) != (0 : Int))) hA fun ac hA => ?_
   refine wpListIn_nil ?_
   refine thenN ?_
   refine wpIn_cond_split (t := (newErr l : Int) != (0 : Int)) (hA.eval (by kernel_rfl)) (fun h134 => ?_) (fun h134 => ?_)
   ·
    have h134 := bne_iff_ne.1 h134
    first
    | (exfalso; clear hA hW; omega)
    | (exfalso; clear hA hW; exact h134 rfl; done)
    | (
     refine wpIn_seq ?_
     refine wpIn_region_lit ?_
     refine sf_p (Value.int .i64 (newErr l)) hA ?_; clear hA ac; intro ac hA
     refine sf_s hA (RunsF.of (Runs.callN (v := Value.int .i64 (newErr l)) (fun _ => by kernel_rfl) hW (e_num (newErr l) w133) ?_)); clear hA ac hW; intro w135 hW hfw135 ac hA
     refine sf_p (Value.int .i64 (newErr l)) hA fun ac hA => sf_p (Value.bool (((newErr l) : Int) == (newErr l : Int))) hA fun ac hA => sf_p (Value.bool (((newErr l) : Int) == (newErr l : Int))) hA fun ac hA => ?_
     rcases Bool.eq_false_or_eq_true (((newErr l) : Int) == (newErr l : Int)) with h136 | h136
     ·
      rw [h136] at hA
      have h136 := eq_of_beq h136
      first
      | (exfalso; clear hA hW; omega)
      | (exfalso; clear hA hW; exact h136 rfl; done)
      | (
       refine sf_s hA (RunsF.of (Runs.callN (v := Value.bool true) (fun _ => by kernel_rfl) hW (e_works w135) ?_)); clear hA ac hW; intro w137 hW hfw137 ac hA
       refine sf_p (Value.bool true) hA ?_; clear hA ac; intro ac hA
       refine sf_s hA (RunsF.of (Runs.store (v := Value.bool true) (b := b3) (j := 0) (n := 1) (cs' := #[Value.bool true]) (H' := [Cel b131 #[Value.slice none 0 0, Value.slice none 0 0] 31, Cel b3 #[Value.bool true] 4, Cel b1 #[Value.int .i64 many] 3]) (by kernel_rfl) (by kernel_rfl) (by kernel_rfl) (by kernel_rfl) (by kernel_rfl) hW 1 (by rfl) (Nat.le_of_ble_eq_true (by kernel_rfl)) (by kernel_rfl) (by rfl) ?_)); clear hA ac hW; intro w138 hW ac hA
       refine wpListIn_nil ?_
       refine thenN ?_
       refine wpIn_ret ?_
       refine thenR ?_
       refine retF (.inl rfl) hA ?_
       refine leave1 (v := Value.bool true) (by rfl) (GotF.cell (b := b3) (i := 0) hA (by kernel_rfl) (by kernel_rfl) (hW.cel 1 rfl) (by kernel_rfl)) ?_
       clear hA
       exact ⟨retv (by rfl), hW.fr⟩)
     rw [h136] at hA
     have h136 := ne_of_beq_false h136
     first
     | (exfalso; clear hA hW; omega)
     | (exfalso; clear hA hW; exact h136 rfl; done)
     | (
      fail))
   have h134 := of_bne_f h134
   first
   | (exfalso; clear hA hW; omega)
   | (exfalso; clear hA hW; exact h134 rfl; done)
   | (
    fail)))

theorem orderClose_walk (A : Option Addr) (len cap : Nat) (l : List Event) (many : Int) (w : World) (hl : l.length = len) (hc : len ≤ cap) (hm : cap ≤ maxLen) (hw : ∀ x ∈ l, wfEvent x) (hr : RowAt w A 9 enEvent l) (hy : Lit.wf (.int .i64 many)) :
    Calls Tryz.prog 3 #[.slice A len cap, .int .i64 many] w fun e w' => e = .returned (.bool true) ∧ Fr No w w' := by
  subst hl
  exact e_orderClose A cap l many w hr hc (by have : maxLen ≤ 9223372036854775807 := by decide
                                              omega) (fun x hx => wf_event (hw x hx)) (by simpa [Lit.wf, IntKind.min, IntKind.max, IntKind.bits, IntKind.signed] using hy)

end Go.Proofs.YtefmglgejjaipaaGreatDoor.L
