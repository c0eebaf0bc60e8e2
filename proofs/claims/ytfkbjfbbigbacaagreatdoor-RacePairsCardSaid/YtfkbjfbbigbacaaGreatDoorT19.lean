/- Contracts, walked by program over the engine's laws. -/
import Derived.Test.YtfkbjfbbigbacaaGreatDoorProg
import Derived.Test.YtfkbjfbbigbacaaGreatDoorT18
namespace Go.Proofs.YtfkbjfbbigbacaaGreatDoor.L
open Go.RowKit
open Go.Value renaming int → vI, slice → vS, bool → vB, pointer → vP, func → vF, agg → vA, map → vM, tuple → vT

def deEvent : List Value → Event
  | [.int _ a0, .int _ a1, .int _ a2, .int _ a3, .int _ a4, .int _ a5, .int _ a6, .int _ a7, .int _ a8] => ⟨a0, a1, ⟨a2, a3⟩, a4, a5, a6, a7, a8⟩
  | _ => ⟨0, 0, ⟨0, 0⟩, 0, 0, 0, 0, 0⟩
def wfEvent (x : Event) : Prop := (Lit.int .i64 x.g).wf = true ∧ (Lit.int .i64 x.kind).wf = true ∧ (Lit.int .i64 x.site.f).wf = true ∧ (Lit.int .i64 x.site.pc).wf = true ∧ (Lit.int .u32 x.addr).wf = true ∧ (Lit.int .i64 x.child).wf = true ∧ (Lit.int .i64 x.obj).wf = true ∧ (Lit.int .i64 x.n).wf = true ∧ (Lit.int .i64 x.trap).wf = true ∧ True
theorem deEvent_ok (cs : List Value) (h : cksOk [.int .i64, .int .i64, .int .i64, .int .i64, .int .u32, .int .i64, .int .i64, .int .i64, .int .i64] cs) : enEvent (deEvent cs) = cs ∧ wfEvent (deEvent cs) := by
  have hl := cksOk_length h
  match cs, hl, h with
  | [c0, c1, c2, c3, c4, c5, c6, c7, c8], _, ⟨⟨_, h0, w0⟩, ⟨_, h1, w1⟩, ⟨_, h2, w2⟩, ⟨_, h3, w3⟩, ⟨_, h4, w4⟩, ⟨_, h5, w5⟩, ⟨_, h6, w6⟩, ⟨_, h7, w7⟩, ⟨_, h8, w8⟩, _⟩ =>
    subst h0 h1 h2 h3 h4 h5 h6 h7 h8
    exact ⟨rfl, w0, w1, w2, w3, w4, w5, w6, w7, w8, trivial⟩
theorem flatEvent {v : Value} (h : cksOk [.int .i64, .int .i64, .int .i64, .int .i64, .int .u32, .int .i64, .int .i64, .int .i64, .int .i64] v.cells.toList) : ∃ x : Event, v = x.v ∧ wfEvent x := by
  have hl := cksOk_length h
  cases v with
  | agg a => exact ⟨deEvent a.toList, by have := (deEvent_ok _ h).1; have h2 := congrArg List.toArray this; exact congrArg vA (h2.symm), (deEvent_ok _ h).2⟩
  | _ => simp [Value.cells] at hl
theorem few_len {l : List Event} {m : Int} (h : fewOk l m = true) : (l.length : Int) ≤ m := by unfold fewOk at h; rw [Bool.and_eq_true] at h; exact of_decide_eq_true h.2
theorem newErr_rng (l : List Event) : newErr l = 2 ∨ newErr l = 3 := by unfold newErr; split <;> simp
theorem wf_event {x : Event} (h : wfEvent x) : (-9223372036854775808 ≤ x.kind ∧ x.kind ≤ 9223372036854775807) ∧ 0 ≤ x.addr ∧ x.addr ≤ 4294967295 := by
  obtain ⟨-, h1, -, -, h2, -⟩ := h
  simp [Lit.wf, IntKind.min, IntKind.max] at h1 h2
  simp only [IntKind.bits, IntKind.signed] at h1 h2
  simp at h1 h2
  omega
theorem race_nil : raceL [] = [] := rfl
set_option maxRecDepth 100000 in
theorem e_onone_n  (w : World)  : Calls Tryz.prog 39 #[vP none] w (fun e w' => e = .returned (vB true) ∧ Fr No w w') := by
 refine enter_E 12 Tryz.func39 rfl rfl (by kernel_rfl) (L := [(0, vP none)]) (by kernel_rfl) ?_
 intro ac hA
 have hW := Ws.start w No
 refine wr <| st_p (vB false) hA ?_; clear hA ac; intro ac hA
 refine wn <| wr <| st_p (vP none) hA fun ac hA => st_p (vB true) hA fun ac hA => st_p (vB true) hA fun ac hA => st_k hA fun ac hA => st_k hA fun ac hA => st_k hA fun ac hA => st_k hA fun ac hA => st_k hA fun ac hA => st_p (vB true) hA fun ac hA => st_p (vB true) hA fun ac hA => wn <| wp_ret <| r1 (vB true) hA ?_
 clear hA
 exact ⟨retv (by rfl), hW.fr⟩

set_option maxRecDepth 100000 in
theorem e_olen_n  (w : World)  : Calls Tryz.prog 24 #[vP none] w (fun e w' => e = .returned (vI .i64 0) ∧ Fr No w w') := by
 refine enter_E 11 Tryz.func24 rfl rfl (by kernel_rfl) (L := [(0, vP none)]) (by kernel_rfl) ?_
 intro ac hA
 have hW := Ws.start w No
 refine wr <| st_p (vI .i64 0) hA ?_; clear hA ac; intro ac hA
 refine wn <| wp_seq <| wr <| st_p (vP none) hA ?_; clear hA ac; intro ac hA
 refine st_s hA (Runs.callN (v := vB true) (fun _ => by kernel_rfl) hW (e_onone_n w) ?_); clear hA ac hW; intro w1 hW hfw1 ac hA
 refine wn <| wp_cond_true (hA.eval (by kernel_rfl)) <| wr <| st_p (vI .i64 0) hA ?_; clear hA ac; intro ac hA
 refine wn <| wp_ret <| thenR <| r1 (vI .i64 0) hA ?_
 clear hA
 exact ⟨retv (by rfl), hW.fr⟩

set_option maxRecDepth 100000 in
theorem it_races_n (bl : Nat) : Iter Tryz.prog 89 #[pA bl 0] (fun x_ : Race × Nat => #[vI .i64 ((x_.2 : Nat) : Int), x_.1.v]) (· = ([] : List Race).zipIdx) [Cel bl #[vP none] 96] := by
 intro l_ J_ Jx_ r0 w hOs_ hdis_ hR_ hJ0_ hp_ hlt_
 have hW := iterW hOs_ hdis_ hp_ hlt_; clear hOs_ hdis_ hp_ hlt_
 refine enter_F 69 Tryz.func89 rfl rfl (by kernel_rfl) (L := [(0, vF (.yield l_) #[] #[]), (1, pA bl 0)]) (by kernel_rfl) ?_
 intro ac hA
 refine wpIn_seq <| wpIn_region_lit <| st_rdF (v := vI .i64 0) hA (by kernel_rfl) (by kernel_rfl) (by kernel_rfl) (by kernel_rfl) hW.cls (Rd.pure fun _ => by kernel_rfl) ?_; clear hA ac; intro ac hA
 refine wpListIn_nil <| thenN <| wpIn_seq <| wpIn_region_lit <| st_rdF (v := pA bl 0) hA (by kernel_rfl) (by kernel_rfl) (by kernel_rfl) (by kernel_rfl) hW.cls (Rd.pure fun _ => by kernel_rfl) ?_; clear hA ac; intro ac hA
 refine st_rdF (v := vP none) hA (by kernel_rfl) (by kernel_rfl) (by kernel_rfl) (by kernel_rfl) hW.cls (Rd.load (b := bl) (i := 0) (by kernel_rfl) (fun _ hw => show _ = _ from (hw.1).getG 0 rfl) (by kernel_rfl)) ?_; clear hA ac; intro ac hA
 refine stF hA (by kernel_rfl) (by kernel_rfl) (by kernel_rfl) (by kernel_rfl) (RunsF.of (Runs.callN (v := vI .i64 0) (fun _ => by kernel_rfl) hW (e_olen_n w) ?_)); clear hA ac hW; intro w1 hW hfw1 ac hA
 refine st_rdF (v := vI .i64 0) hA (by kernel_rfl) (by kernel_rfl) (by kernel_rfl) (by kernel_rfl) hW.cls (Rd.pure fun _ => by kernel_rfl) ?_; clear hA ac; intro ac hA
 refine wpListIn_nil <| thenN <| wpIn_block <| wpIn_loop_rounds 1 ?_
 rw [roundsIn_succ]
 refine wpIn_seq <| wpIn_region_lit <| st_rdF (v := vB false) hA (by kernel_rfl) (by kernel_rfl) (by kernel_rfl) (by kernel_rfl) hW.cls (Rd.pure fun _ => by kernel_rfl) ?_; clear hA ac; intro ac hA
 refine wpListIn_nil <| thenN <| wpIn_seq <| wpIn_cond_false (hA.eval (by kernel_rfl)) <| wpIn_exit <| thenX <| thenX <| blkX <| retF (.inr rfl) hA <| leave0 (by rfl)  ?_
 clear hA
 exact ranDone hW 0 rfl (.inl ⟨_, rfl, hJ0_⟩)

set_option maxRecDepth 100000 in
theorem e_races_n  (w : World)  : Calls Tryz.prog 62 #[vA #[vP none]] w (fun e w' => ∃ (lb : Array Value) (g : Res), e = .returned (vF (.func 89) #[] lb) ∧ Iter Tryz.prog 89 lb (fun x_ : Race × Nat => #[vI .i64 ((x_.2 : Nat) : Int), x_.1.v]) (· = ([] : List Race).zipIdx) [g] ∧ g.from_ [] w w' ∧ Fr No w w') := by
 refine enter_E 4 Tryz.func62 rfl rfl (by kernel_rfl) (L := [(0, vA #[vP none])]) (by kernel_rfl) ?_
 intro ac hA
 have hW := Ws.start w No
 refine wr <| st_s hA (Runs.cells (fun b => pA b 0) #[vP none] 96 (fun _ => by kernel_rfl) hW ?_); clear hA ac hW; intro b1 w2 hW hb1 hfw2 ac hA
 refine st_p (Value.nilFunc) hA ?_; clear hA ac; intro ac hA
 refine wn <| wr <| st_p (vF (.func 89) #[] #[pA b1 0]) hA fun ac hA => st_p (vF (.func 89) #[] #[pA b1 0]) hA fun ac hA => wn <| wp_ret <| r1 (vF (.func 89) #[] #[pA b1 0]) hA ?_
 clear hA
 exact ⟨_, _, rfl, iter_many (it_races_n b1), from_many (froms_cons (hW.outOwn 0 rfl (fun _ h => h)) froms_nil), hW.fr⟩

set_option maxRecDepth 100000 in
theorem e_rall_n  (w : World)  : Calls Tryz.prog 35 #[vP none] w (Fresh 47 7 enRace ([] : List Race) w) := by
 refine enter_F 15 Tryz.func35 rfl rfl (by kernel_rfl) (L := [(0, vP none)]) (by kernel_rfl) ?_
 intro ac hA
 have hW := Ws.start w No
 refine wpIn_seq <| wpIn_region_lit <| stF hA (by kernel_rfl) (by kernel_rfl) (by kernel_rfl) (by kernel_rfl) (RunsF.of (Runs.cells (fun b => pA b 0) #[vS none 0 0] 35 (fun _ => by kernel_rfl) hW ?_)); clear hA ac hW; intro b1 w2 hW hb1 hfw2 ac hA
 refine wpListIn_nil <| thenN <| wpIn_seq <| wpIn_seq <| wpIn_region_lit <| st_rdF (v := vP none) hA (by kernel_rfl) (by kernel_rfl) (by kernel_rfl) (by kernel_rfl) hW.cls (Rd.pure fun _ => by kernel_rfl) ?_; clear hA ac; intro ac hA
 refine st_rdF (v := vA #[vP none]) hA (by kernel_rfl) (by kernel_rfl) (by kernel_rfl) (by kernel_rfl) hW.cls (Rd.pure fun _ => by kernel_rfl) ?_; clear hA ac; intro ac hA
 refine stF hA (by kernel_rfl) (by kernel_rfl) (by kernel_rfl) (by kernel_rfl) (RunsF.of (Runs.call (fun _ => by kernel_rfl) (e_races_n w2) ?_))
 rintro _ w3 ⟨lb4, g5, rfl, hIg5, hfg5, hfw3⟩; refine ⟨_, rfl, ?_⟩; have hW0 := hW; have hW := hW0.call hfw3; have hW := hW0.addFromAt hW hfg5 in_nil; clear hW0 hA ac; intro ac hA
 refine wpListIn_nil <| thenN <| wpIn_block ?_
 have hW := hW.addNil 47 7 enRace
 refine wp_range (encs := (fun x_ : Race × Nat => #[vI .i64 ((x_.2 : Nat) : Int), x_.1.v])) (Sx := (· = ([] : List Race).zipIdx)) hA (by kernel_rfl) (by kernel_rfl) (enters_of Tryz.func89 (by kernel_rfl) rfl) (by kernel_rfl) (fun _ => rfl) hIg5 (List.forall_mem_singleton.2 (List.mem_of_getElem? (i := 0) rfl)) (fun pre_ H_ => ∃ k : Nat, ∃ d : List Race, ∃ A : Option Addr, ∃ c : Nat, pre_ = ([] : List Race).zipIdx.take k ∧ k ≤ ([] : List Race).length ∧ (d = ([] : List Race).take k) ∧ (d.length ≤ c) ∧ H_ = [Cel b1 #[vS A d.length c] 35, rowR 47 7 enRace (vS A d.length c) d]) (fun _ _ _ => False) (H := [Cel b1 #[vS none 0 0] 35, rowR 47 7 enRace (vS none 0 0) ([] : List Race)]) (K := []) (hW.pick [1, 0] (by decide) rfl) ⟨0, [], none, 0, rfl, Nat.zero_le _, by rfl, by simp, rfl⟩ ?_ ?_ ?_
 ·
  clear hA ac hW; intro l_6 rd_6 bs_6 pre_ x_ Hk_ w7 T_6 ac hrd_6 hbs_6 hbr_6 hok_ hJ_ hA hW hB_6 hT_6
  obtain ⟨k, d, A, c, rfl, hk_, hd, hdc, rfl⟩ := hJ_
  obtain ⟨y8, rfl, hy8, hlty8, hsny8⟩ := comes_zip hok_ hk_
  replace hA : Fm 15 [] [(0, vP none), (2, pA b1 0), (5, vP none), (6, vA #[vP none]), (7, vF (.func 89) #[] lb4), (8, vI .i64 (k : Int)), (9, y8.v)] ac := hA.sub (by and_intros <;> first | kernel_rfl | trivial)
  have hdl_ : d.length ≤ 10000 := by rw [hd, List.take_nil]; simp
  refine wpIn_region_lit <| stF hA (by kernel_rfl) (by kernel_rfl) (by kernel_rfl) (by kernel_rfl) (RunsF.of (Runs.cells (fun b => pA b 0) #[vI .i64 0, vI .i64 0, vI .u32 0, vI .i64 0, vI .i64 0, vI .i64 0, vI .i64 0] 47 (fun _ => by kernel_rfl) hW ?_)); clear hA ac hW; intro b9 w10 hW hb9 hfw10 ac hA
  refine stF hA (by kernel_rfl) (by kernel_rfl) (by kernel_rfl) (by kernel_rfl) (RunsF.of (Runs.store (v := y8.v) (b := b9) (j := 0) (n := 7) (cs' := #[vI .i64 y8.i, vI .i64 y8.j, vI .u32 y8.addr, vI .i64 y8.p.a.f, vI .i64 y8.p.a.pc, vI .i64 y8.p.b.f, vI .i64 y8.p.b.pc]) (H' := [Cel b9 #[vI .i64 y8.i, vI .i64 y8.j, vI .u32 y8.addr, vI .i64 y8.p.a.f, vI .i64 y8.p.a.pc, vI .i64 y8.p.b.f, vI .i64 y8.p.b.pc] 47, rd_6, Cel b1 #[vS A d.length c] 35, rowR 47 7 enRace (vS A d.length c) d]) (by kernel_rfl) (by kernel_rfl) (by kernel_rfl) (by kernel_rfl) (by kernel_rfl) hW 0 (by rfl) (Nat.le_of_ble_eq_true (by kernel_rfl)) (by kernel_rfl) (by rfl) ?_)); clear hA ac hW; intro w11 hW ac hA
  refine wpListIn_nil <| thenN <| begun (bs := bs_6) (H' := [Cel b9 #[vI .i64 y8.i, vI .i64 y8.j, vI .u32 y8.addr, vI .i64 y8.p.a.f, vI .i64 y8.p.a.pc, vI .i64 y8.p.b.f, vI .i64 y8.p.b.pc] 47, bs_6, Cel b1 #[vS A d.length c] 35, rowR 47 7 enRace (vS A d.length c) d]) hW 1 rfl (fun b hb => by rw [hbs_6] at hb; rw [hrd_6]; exact hb) rfl ?_; clear hW; intro w12 hW
  refine wpIn_block <| wpIn_region_lit <| st_rdF (v := vS A d.length c) hA (by kernel_rfl) (by kernel_rfl) (by kernel_rfl) (by kernel_rfl) hW.cls (rl b1 0 2) ?_; clear hA ac; intro ac hA
  refine st_rdF (v := vA #[vI .i64 y8.i, vI .i64 y8.j, vI .u32 y8.addr, vI .i64 y8.p.a.f, vI .i64 y8.p.a.pc, vI .i64 y8.p.b.f, vI .i64 y8.p.b.pc]) hA (by kernel_rfl) (by kernel_rfl) (by kernel_rfl) (by kernel_rfl) hW.cls (rl b9 0 0) ?_; clear hA ac; intro ac hA
  refine stF hA (by kernel_rfl) (by kernel_rfl) (by kernel_rfl) (by kernel_rfl) (RunsF.of (Runs.cells (fun b => vS (some ⟨b, 0, none⟩) 1 1) #[vI .i64 y8.i, vI .i64 y8.j, vI .u32 y8.addr, vI .i64 y8.p.a.f, vI .i64 y8.p.a.pc, vI .i64 y8.p.b.f, vI .i64 y8.p.b.pc] 47 (fun _ => by kernel_rfl) hW ?_)); clear hA ac hW; intro b13 w14 hW hb13 hfw14 ac hA
  refine stF hA (by kernel_rfl) (by kernel_rfl) (by kernel_rfl) (by kernel_rfl) (RunsF.of (Runs.appOwn (B := (some ⟨b13, 0, none⟩)) (k := 1) (E := 47) (sz := 7) (en := enRace) (l := d) (m := ([y8] : List Race)) (i := 4) (by kernel_rfl) (by kernel_rfl) elt_Race (by kernel_rfl) hW rfl (rowAt_cel ((hW).cel 0 rfl) ([y8] : List Race) (by rfl) elt_Race.len) (by first | omega | (simp; done) | (simp; omega)) (by first | omega | (simp; done) | (simp; omega)) ?_)); clear hA ac hW; intro A15 c16 w17 hW hcc16 ac hA
  refine stF hA (by kernel_rfl) (by kernel_rfl) (by kernel_rfl) (by kernel_rfl) (RunsF.of (Runs.store (v := vS A15 (d ++ ([y8] : List Race)).length c16) (b := b1) (j := 0) (n := 1) (cs' := #[vS A15 (d ++ ([y8] : List Race)).length c16]) (H' := [Cel b13 #[vI .i64 y8.i, vI .i64 y8.j, vI .u32 y8.addr, vI .i64 y8.p.a.f, vI .i64 y8.p.a.pc, vI .i64 y8.p.b.f, vI .i64 y8.p.b.pc] 47, Cel b9 #[vI .i64 y8.i, vI .i64 y8.j, vI .u32 y8.addr, vI .i64 y8.p.a.f, vI .i64 y8.p.a.pc, vI .i64 y8.p.b.f, vI .i64 y8.p.b.pc] 47, bs_6, Cel b1 #[vS A15 (d ++ ([y8] : List Race)).length c16] 35, rowR 47 7 enRace (vS A15 (d ++ ([y8] : List Race)).length c16) (d ++ ([y8] : List Race))]) (by kernel_rfl) (by kernel_rfl) (by kernel_rfl) (by kernel_rfl) (by kernel_rfl) hW 3 (by rfl) (Nat.le_of_ble_eq_true (by kernel_rfl)) (by kernel_rfl) (by rfl) ?_)); clear hA ac hW; intro w18 hW ac hA
  refine wpListIn_nil <| blkN ?_
  exact ⟨_, ⟨k + 1, d ++ ([y8] : List Race), A15, c16, hsny8, hlty8, by rw [tk_snoc hy8, ← hd], by exact hcc16, rfl⟩, (hW.pick [2, 3, 4] (by decide) rfl).pickG [0] rfl⟩
 ·
  clear hA ac hW; intro D19 xs_ Hk_ w20 ac hS_ hJ_ hA hW
  obtain ⟨k, d, A, c, hpre_, hk_, hd, hdc, rfl⟩ := hJ_
  have hke : k = ([] : List Race).length := by have h_ : k ≤ 0 := hk_; show k = 0; omega
  clear hpre_ hS_
  replace hW : Ws w No [Cel b1 #[vS A d.length c] 35, rowR 47 7 enRace (vS A d.length c) d, DefR D19] [g5] w20 := hW
  refine blkN <| thenN <| wpIn_seq <| wpIn_region_lit <| st_rdF (v := vS A d.length c) hA (by kernel_rfl) (by kernel_rfl) (by kernel_rfl) (by kernel_rfl) hW.cls (rl b1 0 0) ?_; clear hA ac; intro ac hA
  refine stF hA (by kernel_rfl) (by kernel_rfl) (by kernel_rfl) (by kernel_rfl) (RunsF.of (Runs.store (v := vS A d.length c) (b := b1) (j := 0) (n := 1) (cs' := #[vS A d.length c]) (H' := [Cel b1 #[vS A d.length c] 35, rowR 47 7 enRace (vS A d.length c) d, DefR D19]) (by kernel_rfl) (by kernel_rfl) (by kernel_rfl) (by kernel_rfl) (by kernel_rfl) hW 0 (by rfl) (Nat.le_of_ble_eq_true (by kernel_rfl)) (by kernel_rfl) (by rfl) ?_)); clear hA ac hW; intro w21 hW ac hA
  refine wpListIn_nil <| thenN <| wpIn_ret <| retF (.inl rfl) hA <| leaveD (H' := [Cel b1 #[vS A d.length c] 35, rowR 47 7 enRace (vS A d.length c) d]) hW 2 rfl rfl ?_; clear hW; intro w22 hW
  refine leave1 (v := vS A d.length c) (by rfl) (GotF.cell (b := b1) (i := 0) hA (by kernel_rfl) (by kernel_rfl) (hW.cel 0 rfl) (by kernel_rfl)) ?_
  clear hA
  have hd0_ : d = [] := by rw [hd]; simp
  subst hd0_; exact ⟨_, rfl, hW.fresh 1 rfl (fun _ h => h), hW.fr⟩
 ·
  clear hA ac hW; intro D23 c_ pre_ Hk_ w24 ac hJ_ hA hW
  exact hJ_.elim

set_option maxRecDepth 100000 in
theorem e_rAll_n  (w : World)  : Calls Tryz.prog 14 #[vP none] w (fun e w' => ∃ (lb : Array Value) (g : Res), e = .returned (vF (.func 36) #[] lb) ∧ Iter Tryz.prog 36 lb (fun x_ : Race × Nat => #[vI .i64 ((x_.2 : Nat) : Int), x_.1.v]) (· = ([] : List Race).zipIdx) [g] ∧ g.from_ [] w w' ∧ Fr No w w') := by
 refine enter_E 7 Tryz.func14 rfl rfl (by kernel_rfl) (L := [(0, vP none)]) (by kernel_rfl) ?_
 intro ac hA
 have hW := Ws.start w No
 refine wr <| st_p (Value.nilFunc) hA ?_; clear hA ac; intro ac hA
 refine wn <| wr <| st_p (vP none) hA ?_; clear hA ac; intro ac hA
 refine st_s hA (Runs.callRow (E := 47) (sz := 7) (en := enRace) (l := ([] : List Race)) (fun _ => by kernel_rfl) hW (e_rall_n w) ?_); clear hA ac hW; intro A2 c3 w1 hW hcc3 hfw1 ac hA
 refine st_s hA (Runs.cells (fun b => pA b 0) #[vS none 0 0] 35 (fun _ => by kernel_rfl) hW ?_); clear hA ac hW; intro b5 w6 hW hb5 hfw6 ac hA
 refine st_s hA (Runs.store (v := vS A2 ([] : List Race).length c3) (b := b5) (j := 0) (n := 1) (cs' := #[vS A2 ([] : List Race).length c3]) (H' := [Cel b5 #[vS A2 ([] : List Race).length c3] 35, rowR 47 7 enRace (vS A2 ([] : List Race).length c3) ([] : List Race)]) (by kernel_rfl) (by kernel_rfl) (by kernel_rfl) (by kernel_rfl) (by kernel_rfl) hW 0 (by rfl) (Nat.le_of_ble_eq_true (by kernel_rfl)) (by kernel_rfl) (by rfl) ?_); clear hA ac hW; intro w7 hW ac hA
 refine wn <| wr <| st_p (vF (.func 36) #[] #[pA b5 0]) hA fun ac hA => st_p (vF (.func 36) #[] #[pA b5 0]) hA fun ac hA => wn <| wp_ret <| r1 (vF (.func 36) #[] #[pA b5 0]) hA ?_
 clear hA
 exact ⟨_, _, rfl, iter_many (it_36 b5 _ _ ([] : List Race) (own_cap (hW.get 1 rfl)) (by simp)), from_many (froms_cons (hW.outOwn 0 rfl (fun _ h => h)) (froms_cons (hW.outRow 1 rfl elt_Race.len (fun _ h => h)) froms_nil)), hW.fr⟩

set_option maxRecDepth 100000 in
theorem e_rFree_n  (w : World)  : Calls Tryz.prog 15 #[vP none] w (fun e w' => e = .returned (vB true) ∧ Fr No w w') := by
 refine enter_E 7 Tryz.func15 rfl rfl (by kernel_rfl) (L := [(0, vP none)]) (by kernel_rfl) ?_
 intro ac hA
 have hW := Ws.start w No
 refine wr <| st_p (vB false) hA ?_; clear hA ac; intro ac hA
 refine wn <| wr <| st_p (vP none) hA ?_; clear hA ac; intro ac hA
 refine st_s hA (Runs.callRow (E := 47) (sz := 7) (en := enRace) (l := ([] : List Race)) (fun _ => by kernel_rfl) hW (e_rall_n w) ?_); clear hA ac hW; intro A2 c3 w1 hW hcc3 hfw1 ac hA
 refine st_p (vI .i64 ((([] : List Race).length : Nat) : Int)) hA fun ac hA => st_p (vB ((((([] : List Race).length : Nat) : Int) : Int) == (0 : Int))) hA fun ac hA => st_p (vB ((((([] : List Race).length : Nat) : Int) : Int) == (0 : Int))) hA fun ac hA => wn <| wp_ret <| r1 (vB ((((([] : List Race).length : Nat) : Int) : Int) == (0 : Int))) hA ?_
 clear hA
 exact ⟨retv (congrArg vB (by rfl)), hW.fr⟩

end Go.Proofs.YtfkbjfbbigbacaaGreatDoor.L
