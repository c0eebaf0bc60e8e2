/- Contracts, walked by program over the engine's laws. -/
import Derived.Test.YtjegpelofdopmaaGreatDoorProg
import Derived.Test.YtjegpelofdopmaaGreatDoorT25
namespace Go.Proofs.YtjegpelofdopmaaGreatDoor.L
open Go.RowKit
open Go.Value renaming int → vI, slice → vS, bool → vB, pointer → vP, func → vF, agg → vA, map → vM, tuple → vT

def deEvent : List Value → Event
  | [.int _ a0, .int _ a1, .int _ a2, .int _ a3, .int _ a4, .int _ a5, .int _ a6, .int _ a7, .int _ a8] => ⟨a0, a1, ⟨a2, a3⟩, a4, a5, a6, a7, a8⟩
  | _ => ⟨0, 0, ⟨0, 0⟩, 0, 0, 0, 0, 0⟩
def wfEvent (x : Event) : Prop := (Lit.int .i64 x.g).wf = true ∧ (Lit.int .i64 x.kind).wf = true ∧ (Lit.int .i64 x.site.f).wf = true ∧ (Lit.int .i64 x.site.pc).wf = true ∧ (Lit.int .u32 x.addr).wf = true ∧ (Lit.int .i64 x.child).wf = true ∧ (Lit.int .i64 x.obj).wf = true ∧ (Lit.int .i64 x.n).wf = true ∧ (Lit.int .i64 x.trap).wf = true ∧ True
theorem deEvent_ok (cs : List Value) (h : cksOk [.int .i64, .int .i64, .int .i64, .int .i64, .int .u32, .int .i64, .int .i64, .int .i64, .int .i64] cs) : enEvent (deEvent cs) = cs ∧ wfEvent (deEvent cs) := by
  have hl := cksOk_length h
  match cs, hl, h with
  | [c0, c1, c2, c3, c4, c5, c6, c7, c8], _, ⟨⟨_, h0, w0⟩, ⟨_, h1, w1⟩, ⟨_, h2, w2⟩, ⟨_, h3, w3⟩, ⟨_, h4, w4⟩, ⟨_, h5, w5⟩, ⟨_, h6, w6⟩, ⟨_, h7, w7⟩, ⟨_, h8, w8⟩, _⟩ =>
    subst h0 h1 h2 h3 h4 h5 h6 h7 h8
    exact ⟨rfl, w0, w1, w2, w3, w4, w5, w6, w7, w8, trivial⟩
theorem flatEvent {v : Value} (h : cksOk [.int .i64, .int .i64, .int .i64, .int .i64, .int .u32, .int .i64, .int .i64, .int .i64, .int .i64] v.cells.toList) : ∃ x : Event, v = x.v ∧ wfEvent x := by
  have hl := cksOk_length h
  cases v with
  | agg a => exact ⟨deEvent a.toList, by have := (deEvent_ok _ h).1; have h2 := congrArg List.toArray this; exact congrArg vA (h2.symm), (deEvent_ok _ h).2⟩
  | _ => simp [Value.cells] at hl
theorem few_len {l : List Event} {m : Int} (h : fewOk l m = true) : (l.length : Int) ≤ m := by unfold fewOk at h; rw [Bool.and_eq_true] at h; exact of_decide_eq_true h.2
theorem wf_event {x : Event} (h : wfEvent x) : ((-9223372036854775808 ≤ x.kind ∧ x.kind ≤ 9223372036854775807) ∧ 0 ≤ x.addr ∧ x.addr ≤ 4294967295) ∧ (-9223372036854775808 ≤ x.g ∧ x.g ≤ 9223372036854775807 ∧ -9223372036854775808 ≤ x.child ∧ x.child ≤ 9223372036854775807) ∧ -9223372036854775808 ≤ x.obj ∧ x.obj ≤ 9223372036854775807 := by
  obtain ⟨h0, h1, -, -, h2, h3, h4, -⟩ := h
  simp [Lit.wf, IntKind.min, IntKind.max] at h0 h1 h2 h3 h4
  simp only [IntKind.bits, IntKind.signed] at h0 h1 h2 h3 h4
  simp at h0 h1 h2 h3 h4
  omega
structure TwoE where
  ea : Event
  eb : Event
deriving DecidableEq
def TwoE.v (x : TwoE) : Value := .agg #[.int .i64 x.ea.g, .int .i64 x.ea.kind, .int .i64 x.ea.site.f, .int .i64 x.ea.site.pc, .int .u32 x.ea.addr, .int .i64 x.ea.child, .int .i64 x.ea.obj, .int .i64 x.ea.n, .int .i64 x.ea.trap, .int .i64 x.eb.g, .int .i64 x.eb.kind, .int .i64 x.eb.site.f, .int .i64 x.eb.site.pc, .int .u32 x.eb.addr, .int .i64 x.eb.child, .int .i64 x.eb.obj, .int .i64 x.eb.n, .int .i64 x.eb.trap]
def enTwoE (x : TwoE) : List Value := [.int .i64 x.ea.g, .int .i64 x.ea.kind, .int .i64 x.ea.site.f, .int .i64 x.ea.site.pc, .int .u32 x.ea.addr, .int .i64 x.ea.child, .int .i64 x.ea.obj, .int .i64 x.ea.n, .int .i64 x.ea.trap, .int .i64 x.eb.g, .int .i64 x.eb.kind, .int .i64 x.eb.site.f, .int .i64 x.eb.site.pc, .int .u32 x.eb.addr, .int .i64 x.eb.child, .int .i64 x.eb.obj, .int .i64 x.eb.n, .int .i64 x.eb.trap]
def deTwoE : List Value → TwoE
  | [.int _ a0, .int _ a1, .int _ a2, .int _ a3, .int _ a4, .int _ a5, .int _ a6, .int _ a7, .int _ a8, .int _ a9, .int _ a10, .int _ a11, .int _ a12, .int _ a13, .int _ a14, .int _ a15, .int _ a16, .int _ a17] => ⟨⟨a0, a1, ⟨a2, a3⟩, a4, a5, a6, a7, a8⟩, ⟨a9, a10, ⟨a11, a12⟩, a13, a14, a15, a16, a17⟩⟩
  | _ => ⟨⟨0, 0, ⟨0, 0⟩, 0, 0, 0, 0, 0⟩, ⟨0, 0, ⟨0, 0⟩, 0, 0, 0, 0, 0⟩⟩
def wfTwoE (x : TwoE) : Prop := (Lit.int .i64 x.ea.g).wf = true ∧ (Lit.int .i64 x.ea.kind).wf = true ∧ (Lit.int .i64 x.ea.site.f).wf = true ∧ (Lit.int .i64 x.ea.site.pc).wf = true ∧ (Lit.int .u32 x.ea.addr).wf = true ∧ (Lit.int .i64 x.ea.child).wf = true ∧ (Lit.int .i64 x.ea.obj).wf = true ∧ (Lit.int .i64 x.ea.n).wf = true ∧ (Lit.int .i64 x.ea.trap).wf = true ∧ (Lit.int .i64 x.eb.g).wf = true ∧ (Lit.int .i64 x.eb.kind).wf = true ∧ (Lit.int .i64 x.eb.site.f).wf = true ∧ (Lit.int .i64 x.eb.site.pc).wf = true ∧ (Lit.int .u32 x.eb.addr).wf = true ∧ (Lit.int .i64 x.eb.child).wf = true ∧ (Lit.int .i64 x.eb.obj).wf = true ∧ (Lit.int .i64 x.eb.n).wf = true ∧ (Lit.int .i64 x.eb.trap).wf = true ∧ True
theorem deTwoE_ok (cs : List Value) (h : cksOk [.int .i64, .int .i64, .int .i64, .int .i64, .int .u32, .int .i64, .int .i64, .int .i64, .int .i64, .int .i64, .int .i64, .int .i64, .int .i64, .int .u32, .int .i64, .int .i64, .int .i64, .int .i64] cs) : enTwoE (deTwoE cs) = cs ∧ wfTwoE (deTwoE cs) := by
  have hl := cksOk_length h
  match cs, hl, h with
  | [c0, c1, c2, c3, c4, c5, c6, c7, c8, c9, c10, c11, c12, c13, c14, c15, c16, c17], _, ⟨⟨_, h0, w0⟩, ⟨_, h1, w1⟩, ⟨_, h2, w2⟩, ⟨_, h3, w3⟩, ⟨_, h4, w4⟩, ⟨_, h5, w5⟩, ⟨_, h6, w6⟩, ⟨_, h7, w7⟩, ⟨_, h8, w8⟩, ⟨_, h9, w9⟩, ⟨_, h10, w10⟩, ⟨_, h11, w11⟩, ⟨_, h12, w12⟩, ⟨_, h13, w13⟩, ⟨_, h14, w14⟩, ⟨_, h15, w15⟩, ⟨_, h16, w16⟩, ⟨_, h17, w17⟩, _⟩ =>
    subst h0 h1 h2 h3 h4 h5 h6 h7 h8 h9 h10 h11 h12 h13 h14 h15 h16 h17
    exact ⟨rfl, w0, w1, w2, w3, w4, w5, w6, w7, w8, w9, w10, w11, w12, w13, w14, w15, w16, w17, trivial⟩
theorem flatTwoE {v : Value} (h : cksOk [.int .i64, .int .i64, .int .i64, .int .i64, .int .u32, .int .i64, .int .i64, .int .i64, .int .i64, .int .i64, .int .i64, .int .i64, .int .i64, .int .u32, .int .i64, .int .i64, .int .i64, .int .i64] v.cells.toList) : ∃ x : TwoE, v = x.v ∧ wfTwoE x := by
  have hl := cksOk_length h
  cases v with
  | agg a => exact ⟨deTwoE a.toList, by have := (deTwoE_ok _ h).1; have h2 := congrArg List.toArray this; exact congrArg vA (h2.symm), (deTwoE_ok _ h).2⟩
  | _ => simp [Value.cells] at hl
theorem wf_two {x : TwoE} (h : wfTwoE x) : (((-9223372036854775808 ≤ x.ea.kind ∧ x.ea.kind ≤ 9223372036854775807) ∧ 0 ≤ x.ea.addr ∧ x.ea.addr ≤ 4294967295) ∧ (-9223372036854775808 ≤ x.ea.g ∧ x.ea.g ≤ 9223372036854775807 ∧ -9223372036854775808 ≤ x.ea.child ∧ x.ea.child ≤ 9223372036854775807) ∧ -9223372036854775808 ≤ x.ea.obj ∧ x.ea.obj ≤ 9223372036854775807) ∧ (((-9223372036854775808 ≤ x.eb.kind ∧ x.eb.kind ≤ 9223372036854775807) ∧ 0 ≤ x.eb.addr ∧ x.eb.addr ≤ 4294967295) ∧ (-9223372036854775808 ≤ x.eb.g ∧ x.eb.g ≤ 9223372036854775807 ∧ -9223372036854775808 ≤ x.eb.child ∧ x.eb.child ≤ 9223372036854775807) ∧ -9223372036854775808 ≤ x.eb.obj ∧ x.eb.obj ≤ 9223372036854775807) := by
  have h' : wfEvent x.ea ∧ wfEvent x.eb := by unfold wfTwoE at h; unfold wfEvent; simp only [and_true] at h ⊢; simpa only [and_assoc] using h
  exact ⟨wf_event h'.1, wf_event h'.2⟩
theorem e_sortedN (w : World) : Calls Tryz.prog 58 #[.slice none 0 0, .func (.func 59) #[] #[]] w fun e w' => e = .returned (.slice none 0 0) ∧ Fr No w w' :=
  (e_sorted (A := none) (c := 0) (l := []) w ⟨by simp [flat], .inl ⟨rfl, rfl⟩⟩ (by simp) (by simp)).mono fun e w' ⟨he, _, _, _, hu⟩ => ⟨he, hu.1.mono fun i _ hi => by simp [rowR, Value.ownBlock] at hi⟩
set_option maxRecDepth 100000 in
theorem e_knone_nil  (w : World)  : Calls Tryz.prog 31 #[vP none] w (fun e w' => e = .returned (vB true) ∧ w = w') := by
 refine enter_E 12 Tryz.func31 rfl rfl (by kernel_rfl) (L := [(0, vP none)]) (by kernel_rfl) ?_
 intro ac hA
 have hW := Ws.start w No
 refine wr <| st_p (vB false) hA ?_; clear hA ac; intro ac hA
 refine wn <| wr <| st_p (vP none) hA fun ac hA => st_p (vB true) hA fun ac hA => st_p (vB true) hA fun ac hA => st_k hA fun ac hA => st_k hA fun ac hA => st_k hA fun ac hA => st_k hA fun ac hA => st_k hA fun ac hA => st_p (vB true) hA fun ac hA => st_p (vB true) hA fun ac hA => wn <| wp_ret <| r1 (vB true) hA ?_
 clear hA
 exact ⟨retv (by rfl), rfl⟩

set_option maxRecDepth 100000 in
theorem e_kcome_nil (x : Event) (w : World)  : Calls Tryz.prog 12 #[vP none, x.v] w (fun e w' => e = .returned (vT #[vI .u64 0, vI .i64 1]) ∧ Fr No w w') := by
 refine enter_E 69 Tryz.func12 rfl rfl (by kernel_rfl) (L := [(0, vP none), (1, x.v)]) (by kernel_rfl) ?_
 intro ac hA
 have hW := Ws.start w No
 refine wr <| st_s hA (Runs.cells (fun b => pA b 0) #[vI .i64 x.g, vI .i64 x.kind, vI .i64 x.site.f, vI .i64 x.site.pc, vI .u32 x.addr, vI .i64 x.child, vI .i64 x.obj, vI .i64 x.n, vI .i64 x.trap] 42 (fun _ => by kernel_rfl) hW ?_); clear hA ac hW; intro b1 w2 hW hb1 hfw2 ac hA
 refine st_p (vI .u64 0) hA fun ac hA => st_p (vI .i64 0) hA fun ac hA => wn <| wp_fwd (l := 0) rfl <| wr <| st_p (vS none 0 0) hA ?_; clear hA ac; intro ac hA
 refine wn <| wp_seq <| wr <| st_p (vI .i64 1) hA ?_; clear hA ac; intro ac hA
 refine wn <| wr <| st_p (vP none) hA ?_; clear hA ac; intro ac hA
 refine st_s hA (Runs.callS (v := vB true) (fun _ => by kernel_rfl) (e_knone_nil w2) ?_); clear hA ac; intro  ac hA
 refine wn <| wp_cond_true (hA.eval (by kernel_rfl)) <| wp_goto <| thenG <| fwdG <| wp_seq <| wp_skip <| thenN <| wr <| st_p (vI .i64 1) hA fun ac hA => st_p (vI .u64 0) hA fun ac hA => st_p (vI .i64 1) hA fun ac hA => wn <| wp_ret <| nogR <| ret2 (v1 := vI .u64 0) (v2 := vI .i64 1) (by rfl) hA (Got.tmp hA (by kernel_rfl) (by kernel_rfl)) (Got.tmp hA (by kernel_rfl) (by kernel_rfl)) ?_
 clear hA
 exact ⟨retv (by rfl), hW.fr⟩

set_option maxRecDepth 100000 in
theorem e_kall_nil (A_l : Option Addr) (c_l : Nat) (l : List Event) (w : World) (hr_l : RowAt w A_l 9 enEvent l) (hc_l : l.length ≤ c_l) : Calls Tryz.prog 22 #[vP none, vS A_l l.length c_l] w (fun e w' => e = .returned (vT #[vS none 0 0, vI .i64 1]) ∧ Fr No w w') := by
 have _hu := hc_l; have _hv := hr_l; clear _hu _hv
 refine enter_E 34 Tryz.func22 rfl rfl (by kernel_rfl) (L := [(0, vP none), (1, vS A_l l.length c_l)]) (by kernel_rfl) ?_
 intro ac hA
 have hW := Ws.start w No
 have hW := hW.arg hr_l
 refine wr <| st_p (vS none 0 0) hA fun ac hA => st_p (vI .i64 0) hA fun ac hA => wn <| wp_seq <| wr <| st_p (vP none) hA ?_; clear hA ac; intro ac hA
 refine st_s hA (Runs.callS (v := vB true) (fun _ => by kernel_rfl) (e_knone_nil w) ?_); clear hA ac; intro  ac hA
 refine wn <| wp_cond_true (hA.eval (by kernel_rfl)) <| wr <| st_p (vS none 0 0) hA fun ac hA => st_p (vI .i64 1) hA fun ac hA => wn <| wp_ret <| thenR <| ret2 (v1 := vS none 0 0) (v2 := vI .i64 1) (by rfl) hA (Got.tmp hA (by kernel_rfl) (by kernel_rfl)) (Got.tmp hA (by kernel_rfl) (by kernel_rfl)) ?_
 clear hA
 exact ⟨retv (by rfl), hW.fr⟩

set_option maxRecDepth 100000 in
theorem e_kof_nil (g : Int) (w : World)  : Calls Tryz.prog 11 #[vP none, vI .i64 g] w (fun e w' => e = .returned (vS none 0 0) ∧ Fr No w w') := by
 refine enter_E 15 Tryz.func11 rfl rfl (by kernel_rfl) (L := [(0, vP none), (1, vI .i64 g)]) (by kernel_rfl) ?_
 intro ac hA
 have hW := Ws.start w No
 refine wr <| st_p (vS none 0 0) hA ?_; clear hA ac; intro ac hA
 refine wn <| wp_seq <| wr <| st_p (vP none) hA ?_; clear hA ac; intro ac hA
 refine st_s hA (Runs.callS (v := vB true) (fun _ => by kernel_rfl) (e_knone_nil w) ?_); clear hA ac; intro  ac hA
 refine wn <| wp_cond_true (hA.eval (by kernel_rfl)) <| wr <| st_p (vS none 0 0) hA ?_; clear hA ac; intro ac hA
 refine wn <| wp_ret <| thenR <| r1 (vS none 0 0) hA ?_
 clear hA
 exact ⟨retv (by rfl), hW.fr⟩

set_option maxRecDepth 100000 in
theorem e_kthing_nil (k : Int) (o : Int) (w : World)  : Calls Tryz.prog 25 #[vP none, vI .i64 k, vI .i64 o] w (fun e w' => e = .returned (vS none 0 0) ∧ Fr No w w') := by
 refine enter_E 19 Tryz.func25 rfl rfl (by kernel_rfl) (L := [(0, vP none), (1, vI .i64 k), (2, vI .i64 o)]) (by kernel_rfl) ?_
 intro ac hA
 have hW := Ws.start w No
 refine wr <| st_p (vS none 0 0) hA ?_; clear hA ac; intro ac hA
 refine wn <| wp_seq <| wr <| st_p (vP none) hA ?_; clear hA ac; intro ac hA
 refine st_s hA (Runs.callS (v := vB true) (fun _ => by kernel_rfl) (e_knone_nil w) ?_); clear hA ac; intro  ac hA
 refine wn <| wp_cond_true (hA.eval (by kernel_rfl)) <| wr <| st_p (vS none 0 0) hA ?_; clear hA ac; intro ac hA
 refine wn <| wp_ret <| thenR <| r1 (vS none 0 0) hA ?_
 clear hA
 exact ⟨retv (by rfl), hW.fr⟩

set_option maxRecDepth 100000 in
theorem e_kfull_nil (g : Int) (w : World)  : Calls Tryz.prog 26 #[vP none, vI .i64 g] w (fun e w' => e = .returned (vB false) ∧ Fr No w w') := by
 refine enter_E 29 Tryz.func26 rfl rfl (by kernel_rfl) (L := [(0, vP none), (1, vI .i64 g)]) (by kernel_rfl) ?_
 intro ac hA
 have hW := Ws.start w No
 refine wr <| st_p (vB false) hA ?_; clear hA ac; intro ac hA
 refine wn <| wp_seq <| q_region (by kernel_rfl) (by kernel_rfl) hW <| sq_p (vP none) hA ?_; clear hA ac; intro ac hA
 refine sq_call (v := vB true) hA (by kernel_rfl) (by kernel_rfl) (by kernel_rfl) (fun _ => by kernel_rfl) (Cls.callSC fun wx hwx => e_knone_nil wx) ?_; clear hA ac; intro ac hA
 refine sq_p (vB false) hA fun ac hA => sq_p (vB false) hA fun ac hA => sq_k hA fun ac hA => sq_k hA fun ac hA => sq_k hA fun ac hA => sq_k hA fun ac hA => sq_k hA fun ac hA => sq_k hA fun ac hA => sq_p (vB false) hA fun ac hA => sq_p (vB false) hA fun ac hA => sq_k hA fun ac hA => sq_k hA fun ac hA => sq_k hA fun ac hA => sq_k hA fun ac hA => sq_k hA fun ac hA => sq_k hA fun ac hA => sq_k hA fun ac hA => sq_k hA fun ac hA => sq_k hA fun ac hA => sq_k hA fun ac hA => sq_k hA fun ac hA => sq_p (vB false) hA fun ac hA => sq_p (vB false) hA fun ac hA => sq_nil ?_; intro w1 hww1; have hW := hww1.1; have hfw1 := hww1.2; clear hww1
 refine thenN <| wp_ret <| r1 (vB false) hA ?_
 clear hA
 exact ⟨retv (by rfl), hW.fr⟩

set_option maxRecDepth 100000 in
theorem e_kcopy_nil  (w : World)  : Calls Tryz.prog 23 #[vP none] w (fun e w' => e = .returned (vP none) ∧ Fr No w w') := by
 refine enter_E 24 Tryz.func23 rfl rfl (by kernel_rfl) (L := [(0, vP none)]) (by kernel_rfl) ?_
 intro ac hA
 have hW := Ws.start w No
 refine wr <| st_p (vP none) hA ?_; clear hA ac; intro ac hA
 refine wn <| wp_seq <| wr <| st_p (vP none) hA ?_; clear hA ac; intro ac hA
 refine st_s hA (Runs.callS (v := vB true) (fun _ => by kernel_rfl) (e_knone_nil w) ?_); clear hA ac; intro  ac hA
 refine wn <| wp_cond_true (hA.eval (by kernel_rfl)) <| wr <| st_p (vP none) hA ?_; clear hA ac; intro ac hA
 refine wn <| wp_ret <| thenR <| r1 (vP none) hA ?_
 clear hA
 exact ⟨retv (by rfl), hW.fr⟩

set_option maxRecDepth 100000 in
theorem e_kbegun_nil  (w : World)  : Calls Tryz.prog 24 #[vP none] w (fun e w' => ∃ (lb : Array Value) (g : Res), e = .returned (vF (.func 60) #[] lb) ∧ Iter Tryz.prog 60 lb (fun x_ : One5 => #[vI .i64 x_.gx, vI .u64 x_.ax]) (· = ([] : List One5)) [g] ∧ g.from_ [] w w' ∧ Fr No w w') := by
 refine enter_E 40 Tryz.func24 rfl rfl (by kernel_rfl) (L := [(0, vP none)]) (by kernel_rfl) ?_
 intro ac hA
 have hW := Ws.start w No
 refine wr <| st_p (Value.nilFunc) hA ?_; clear hA ac; intro ac hA
 refine wn <| wr <| st_s hA (Runs.cells (fun b => pA b 0) #[vS none 0 0] 116 (fun _ => by kernel_rfl) hW ?_); clear hA ac hW; intro b1 w2 hW hb1 hfw2 ac hA
 refine wn <| wp_seq <| wr <| st_p (vP none) hA ?_; clear hA ac; intro ac hA
 refine st_s hA (Runs.callS (v := vB true) (fun _ => by kernel_rfl) (e_knone_nil w2) ?_); clear hA ac; intro  ac hA
 refine st_p (vB false) hA ?_; clear hA ac; intro ac hA
 refine wn <| wp_cond_false (hA.eval (by kernel_rfl)) <| wp_skip <| thenN <| wr <| st_q (vS none 0 0) hA hW.cls (rl b1 0 0) ?_; clear hA ac; intro ac hA
 refine st_s hA (Runs.callN (v := vS none 0 0) (fun _ => by kernel_rfl) hW (e_sortedN w2) ?_); clear hA ac hW; intro w3 hW hfw3 ac hA
 refine st_s hA (Runs.store (v := vS none 0 0) (b := b1) (j := 0) (n := 1) (cs' := #[vS none 0 0]) (H' := [Cel b1 #[vS none 0 0] 116]) (by kernel_rfl) (by kernel_rfl) (by kernel_rfl) (by kernel_rfl) (by kernel_rfl) hW 0 (by rfl) (Nat.le_of_ble_eq_true (by kernel_rfl)) (by kernel_rfl) (by rfl) ?_); clear hA ac hW; intro w4 hW ac hA
 refine wn <| wr <| st_p (vF (.func 60) #[] #[pA b1 0]) hA fun ac hA => st_p (vF (.func 60) #[] #[pA b1 0]) hA fun ac hA => wn <| wp_ret <| r1 (vF (.func 60) #[] #[pA b1 0]) hA ?_
 clear hA
 exact ⟨_, _, rfl, iter_many (it_60 b1 none 0 [] (by simp) (by simp)), from_many (froms_cons (hW.outOwn 0 rfl (fun _ h => h)) (froms_cons from_nil froms_nil)), hW.fr⟩

set_option maxRecDepth 100000 in
theorem e_knone_z (c : Nat) (w : World) (ho_c : w.heap[c]? = some (.cells #[vM none, vM none, vI .u64 0] 77 (0, 0))) : Calls Tryz.prog 31 #[pA c 0] w (fun e w' => e = .returned (vB true) ∧ w = w') := by
 have _hu := ho_c; clear _hu
 refine enter_E 12 Tryz.func31 rfl rfl (by kernel_rfl) (L := [(0, pA c 0)]) (by kernel_rfl) ?_
 intro ac hA
 have hW := Ws.start w No
 have hW := hW.celG ho_c
 refine wr <| st_p (vB false) hA ?_; clear hA ac; intro ac hA
 refine wn <| wr <| st_p (pA c 0) hA fun ac hA => st_p (vB false) hA fun ac hA => st_p (vB false) hA fun ac hA => st_p (pA c 0) hA fun ac hA => st_p (pA c 0) hA fun ac hA => st_p (pA c 2) hA fun ac hA => st_q (vI .u64 0) hA hW.cls (Rd.load (b := c) (i := 2) (by kernel_rfl) (fun _ hw => show _ = _ from (hw.1).getG 0 rfl) (by kernel_rfl)) fun ac hA => st_p (vB true) hA fun ac hA => st_p (vB true) hA fun ac hA => st_p (vB true) hA fun ac hA => wn <| wp_ret <| r1 (vB true) hA ?_
 clear hA
 exact ⟨retv (by rfl), rfl⟩

set_option maxRecDepth 100000 in
theorem e_kcome_z (c : Nat) (x : Event) (w : World) (ho_c : w.heap[c]? = some (.cells #[vM none, vM none, vI .u64 0] 77 (0, 0))) : Calls Tryz.prog 12 #[pA c 0, x.v] w (fun e w' => e = .returned (vT #[vI .u64 0, vI .i64 1]) ∧ Fr No w w') := by
 have _hu := ho_c; clear _hu
 refine enter_E 69 Tryz.func12 rfl rfl (by kernel_rfl) (L := [(0, pA c 0), (1, x.v)]) (by kernel_rfl) ?_
 intro ac hA
 have hW := Ws.start w No
 have hW := hW.celG ho_c
 refine wr <| st_s hA (Runs.cells (fun b => pA b 0) #[vI .i64 x.g, vI .i64 x.kind, vI .i64 x.site.f, vI .i64 x.site.pc, vI .u32 x.addr, vI .i64 x.child, vI .i64 x.obj, vI .i64 x.n, vI .i64 x.trap] 42 (fun _ => by kernel_rfl) hW ?_); clear hA ac hW; intro b1 w2 hW hb1 hfw2 ac hA
 refine st_p (vI .u64 0) hA fun ac hA => st_p (vI .i64 0) hA fun ac hA => wn <| wp_fwd (l := 0) rfl <| wr <| st_p (vS none 0 0) hA ?_; clear hA ac; intro ac hA
 refine wn <| wp_seq <| wr <| st_p (vI .i64 1) hA ?_; clear hA ac; intro ac hA
 refine wn <| wr <| st_p (pA c 0) hA ?_; clear hA ac; intro ac hA
 refine st_s hA (Runs.callS (v := vB true) (fun _ => by kernel_rfl) (e_knone_z c w2 (show _ = _ from (hW).getG 0 rfl)) ?_); clear hA ac; intro  ac hA
 refine wn <| wp_cond_true (hA.eval (by kernel_rfl)) <| wp_goto <| thenG <| fwdG <| wp_seq <| wp_skip <| thenN <| wr <| st_p (vI .i64 1) hA fun ac hA => st_p (vI .u64 0) hA fun ac hA => st_p (vI .i64 1) hA fun ac hA => wn <| wp_ret <| nogR <| ret2 (v1 := vI .u64 0) (v2 := vI .i64 1) (by rfl) hA (Got.tmp hA (by kernel_rfl) (by kernel_rfl)) (Got.tmp hA (by kernel_rfl) (by kernel_rfl)) ?_
 clear hA
 exact ⟨retv (by rfl), hW.fr⟩

set_option maxRecDepth 100000 in
theorem e_kall_z (c : Nat) (A_l : Option Addr) (c_l : Nat) (l : List Event) (w : World) (ho_c : w.heap[c]? = some (.cells #[vM none, vM none, vI .u64 0] 77 (0, 0))) (hr_l : RowAt w A_l 9 enEvent l) (hc_l : l.length ≤ c_l) : Calls Tryz.prog 22 #[pA c 0, vS A_l l.length c_l] w (fun e w' => e = .returned (vT #[vS none 0 0, vI .i64 1]) ∧ Fr No w w') := by
 have _hu := hc_l; have _hv := hr_l; clear _hu _hv
 have _hu := ho_c; clear _hu
 refine enter_E 34 Tryz.func22 rfl rfl (by kernel_rfl) (L := [(0, pA c 0), (1, vS A_l l.length c_l)]) (by kernel_rfl) ?_
 intro ac hA
 have hW := Ws.start w No
 have hW := hW.arg hr_l
 have hW := hW.celG ho_c
 refine wr <| st_p (vS none 0 0) hA fun ac hA => st_p (vI .i64 0) hA fun ac hA => wn <| wp_seq <| wr <| st_p (pA c 0) hA ?_; clear hA ac; intro ac hA
 refine st_s hA (Runs.callS (v := vB true) (fun _ => by kernel_rfl) (e_knone_z c w (show _ = _ from (hW).getG 0 rfl)) ?_); clear hA ac; intro  ac hA
 refine wn <| wp_cond_true (hA.eval (by kernel_rfl)) <| wr <| st_p (vS none 0 0) hA fun ac hA => st_p (vI .i64 1) hA fun ac hA => wn <| wp_ret <| thenR <| ret2 (v1 := vS none 0 0) (v2 := vI .i64 1) (by rfl) hA (Got.tmp hA (by kernel_rfl) (by kernel_rfl)) (Got.tmp hA (by kernel_rfl) (by kernel_rfl)) ?_
 clear hA
 exact ⟨retv (by rfl), hW.fr⟩

set_option maxRecDepth 100000 in
theorem e_kof_z (c : Nat) (g : Int) (w : World) (ho_c : w.heap[c]? = some (.cells #[vM none, vM none, vI .u64 0] 77 (0, 0))) : Calls Tryz.prog 11 #[pA c 0, vI .i64 g] w (fun e w' => e = .returned (vS none 0 0) ∧ Fr No w w') := by
 have _hu := ho_c; clear _hu
 refine enter_E 15 Tryz.func11 rfl rfl (by kernel_rfl) (L := [(0, pA c 0), (1, vI .i64 g)]) (by kernel_rfl) ?_
 intro ac hA
 have hW := Ws.start w No
 have hW := hW.celG ho_c
 refine wr <| st_p (vS none 0 0) hA ?_; clear hA ac; intro ac hA
 refine wn <| wp_seq <| wr <| st_p (pA c 0) hA ?_; clear hA ac; intro ac hA
 refine st_s hA (Runs.callS (v := vB true) (fun _ => by kernel_rfl) (e_knone_z c w (show _ = _ from (hW).getG 0 rfl)) ?_); clear hA ac; intro  ac hA
 refine wn <| wp_cond_true (hA.eval (by kernel_rfl)) <| wr <| st_p (vS none 0 0) hA ?_; clear hA ac; intro ac hA
 refine wn <| wp_ret <| thenR <| r1 (vS none 0 0) hA ?_
 clear hA
 exact ⟨retv (by rfl), hW.fr⟩

set_option maxRecDepth 100000 in
theorem e_kthing_z (c : Nat) (k : Int) (o : Int) (w : World) (ho_c : w.heap[c]? = some (.cells #[vM none, vM none, vI .u64 0] 77 (0, 0))) : Calls Tryz.prog 25 #[pA c 0, vI .i64 k, vI .i64 o] w (fun e w' => e = .returned (vS none 0 0) ∧ Fr No w w') := by
 have _hu := ho_c; clear _hu
 refine enter_E 19 Tryz.func25 rfl rfl (by kernel_rfl) (L := [(0, pA c 0), (1, vI .i64 k), (2, vI .i64 o)]) (by kernel_rfl) ?_
 intro ac hA
 have hW := Ws.start w No
 have hW := hW.celG ho_c
 refine wr <| st_p (vS none 0 0) hA ?_; clear hA ac; intro ac hA
 refine wn <| wp_seq <| wr <| st_p (pA c 0) hA ?_; clear hA ac; intro ac hA
 refine st_s hA (Runs.callS (v := vB true) (fun _ => by kernel_rfl) (e_knone_z c w (show _ = _ from (hW).getG 0 rfl)) ?_); clear hA ac; intro  ac hA
 refine wn <| wp_cond_true (hA.eval (by kernel_rfl)) <| wr <| st_p (vS none 0 0) hA ?_; clear hA ac; intro ac hA
 refine wn <| wp_ret <| thenR <| r1 (vS none 0 0) hA ?_
 clear hA
 exact ⟨retv (by rfl), hW.fr⟩

set_option maxRecDepth 100000 in
theorem e_kfull_z (c : Nat) (g : Int) (w : World) (ho_c : w.heap[c]? = some (.cells #[vM none, vM none, vI .u64 0] 77 (0, 0))) : Calls Tryz.prog 26 #[pA c 0, vI .i64 g] w (fun e w' => e = .returned (vB false) ∧ Fr No w w') := by
 have _hu := ho_c; clear _hu
 refine enter_E 29 Tryz.func26 rfl rfl (by kernel_rfl) (L := [(0, pA c 0), (1, vI .i64 g)]) (by kernel_rfl) ?_
 intro ac hA
 have hW := Ws.start w No
 have hW := hW.celG ho_c
 refine wr <| st_p (vB false) hA ?_; clear hA ac; intro ac hA
 refine wn <| wp_seq <| q_region (by kernel_rfl) (by kernel_rfl) hW <| sq_p (pA c 0) hA ?_; clear hA ac; intro ac hA
 refine sq_call (v := vB true) hA (by kernel_rfl) (by kernel_rfl) (by kernel_rfl) (fun _ => by kernel_rfl) (Cls.callSC fun wx hwx => e_knone_z c wx (show _ = _ from (hwx.1).getG 0 rfl)) ?_; clear hA ac; intro ac hA
 refine sq_p (vB false) hA fun ac hA => sq_p (vB false) hA fun ac hA => sq_k hA fun ac hA => sq_k hA fun ac hA => sq_k hA fun ac hA => sq_k hA fun ac hA => sq_k hA fun ac hA => sq_k hA fun ac hA => sq_p (vB false) hA fun ac hA => sq_p (vB false) hA fun ac hA => sq_k hA fun ac hA => sq_k hA fun ac hA => sq_k hA fun ac hA => sq_k hA fun ac hA => sq_k hA fun ac hA => sq_k hA fun ac hA => sq_k hA fun ac hA => sq_k hA fun ac hA => sq_k hA fun ac hA => sq_k hA fun ac hA => sq_k hA fun ac hA => sq_p (vB false) hA fun ac hA => sq_p (vB false) hA fun ac hA => sq_nil ?_; intro w1 hww1; have hW := hww1.1; have hfw1 := hww1.2; clear hww1
 refine thenN <| wp_ret <| r1 (vB false) hA ?_
 clear hA
 exact ⟨retv (by rfl), hW.fr⟩

set_option maxRecDepth 100000 in
theorem e_kcopy_z (c : Nat) (w : World) (ho_c : w.heap[c]? = some (.cells #[vM none, vM none, vI .u64 0] 77 (0, 0))) : Calls Tryz.prog 23 #[pA c 0] w (fun e w' => e = .returned (vP none) ∧ Fr No w w') := by
 have _hu := ho_c; clear _hu
 refine enter_E 24 Tryz.func23 rfl rfl (by kernel_rfl) (L := [(0, pA c 0)]) (by kernel_rfl) ?_
 intro ac hA
 have hW := Ws.start w No
 have hW := hW.celG ho_c
 refine wr <| st_p (vP none) hA ?_; clear hA ac; intro ac hA
 refine wn <| wp_seq <| wr <| st_p (pA c 0) hA ?_; clear hA ac; intro ac hA
 refine st_s hA (Runs.callS (v := vB true) (fun _ => by kernel_rfl) (e_knone_z c w (show _ = _ from (hW).getG 0 rfl)) ?_); clear hA ac; intro  ac hA
 refine wn <| wp_cond_true (hA.eval (by kernel_rfl)) <| wr <| st_p (vP none) hA ?_; clear hA ac; intro ac hA
 refine wn <| wp_ret <| thenR <| r1 (vP none) hA ?_
 clear hA
 exact ⟨retv (by rfl), hW.fr⟩

set_option maxRecDepth 100000 in
theorem e_kbegun_z (c : Nat) (w : World) (ho_c : w.heap[c]? = some (.cells #[vM none, vM none, vI .u64 0] 77 (0, 0))) : Calls Tryz.prog 24 #[pA c 0] w (fun e w' => ∃ (lb : Array Value) (g : Res), e = .returned (vF (.func 60) #[] lb) ∧ Iter Tryz.prog 60 lb (fun x_ : One5 => #[vI .i64 x_.gx, vI .u64 x_.ax]) (· = ([] : List One5)) [g] ∧ g.from_ [] w w' ∧ Fr No w w') := by
 have _hu := ho_c; clear _hu
 refine enter_E 40 Tryz.func24 rfl rfl (by kernel_rfl) (L := [(0, pA c 0)]) (by kernel_rfl) ?_
 intro ac hA
 have hW := Ws.start w No
 have hW := hW.celG ho_c
 refine wr <| st_p (Value.nilFunc) hA ?_; clear hA ac; intro ac hA
 refine wn <| wr <| st_s hA (Runs.cells (fun b => pA b 0) #[vS none 0 0] 116 (fun _ => by kernel_rfl) hW ?_); clear hA ac hW; intro b1 w2 hW hb1 hfw2 ac hA
 refine wn <| wp_seq <| wr <| st_p (pA c 0) hA ?_; clear hA ac; intro ac hA
 refine st_s hA (Runs.callS (v := vB true) (fun _ => by kernel_rfl) (e_knone_z c w2 (show _ = _ from (hW).getG 0 rfl)) ?_); clear hA ac; intro  ac hA
 refine st_p (vB false) hA ?_; clear hA ac; intro ac hA
 refine wn <| wp_cond_false (hA.eval (by kernel_rfl)) <| wp_skip <| thenN <| wr <| st_q (vS none 0 0) hA hW.cls (rl b1 0 0) ?_; clear hA ac; intro ac hA
 refine st_s hA (Runs.callN (v := vS none 0 0) (fun _ => by kernel_rfl) hW (e_sortedN w2) ?_); clear hA ac hW; intro w3 hW hfw3 ac hA
 refine st_s hA (Runs.store (v := vS none 0 0) (b := b1) (j := 0) (n := 1) (cs' := #[vS none 0 0]) (H' := [Cel b1 #[vS none 0 0] 116]) (by kernel_rfl) (by kernel_rfl) (by kernel_rfl) (by kernel_rfl) (by kernel_rfl) hW 0 (by rfl) (Nat.le_of_ble_eq_true (by kernel_rfl)) (by kernel_rfl) (by rfl) ?_); clear hA ac hW; intro w4 hW ac hA
 refine wn <| wr <| st_p (vF (.func 60) #[] #[pA b1 0]) hA fun ac hA => st_p (vF (.func 60) #[] #[pA b1 0]) hA fun ac hA => wn <| wp_ret <| r1 (vF (.func 60) #[] #[pA b1 0]) hA ?_
 clear hA
 exact ⟨_, _, rfl, iter_many (it_60 b1 none 0 [] (by simp) (by simp)), from_many (froms_cons (hW.outOwn 0 rfl (fun _ h => h)) (froms_cons from_nil froms_nil)), hW.fr⟩

end Go.Proofs.YtjegpelofdopmaaGreatDoor.L
