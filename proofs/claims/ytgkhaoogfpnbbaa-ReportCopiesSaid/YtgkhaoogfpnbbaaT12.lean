/- Contracts, walked by program over the engine's laws. -/
import Derived.Test.YtgkhaoogfpnbbaaProg
import Derived.Test.YtgkhaoogfpnbbaaRel27
import Derived.Test.YtgkhaoogfpnbbaaFlagRow
namespace Go.Proofs.Ytgkhaoogfpnbbaa.L
open Go.RowKit

structure Flags2 where
  a : Flag
  b : Flag
deriving DecidableEq
def Flags2.v (x : Flags2) : Value := .agg #[.int .i64 x.a.at_, .int .u32 x.a.addr, .int .i64 x.a.e.g, .int .i64 x.a.e.s.f, .int .i64 x.a.e.s.pc, .int .i64 x.a.e.k, .int .i64 x.a.l.g, .int .i64 x.a.l.s.f, .int .i64 x.a.l.s.pc, .int .i64 x.a.l.k, .int .i64 x.b.at_, .int .u32 x.b.addr, .int .i64 x.b.e.g, .int .i64 x.b.e.s.f, .int .i64 x.b.e.s.pc, .int .i64 x.b.e.k, .int .i64 x.b.l.g, .int .i64 x.b.l.s.f, .int .i64 x.b.l.s.pc, .int .i64 x.b.l.k]
def enFlags2 (x : Flags2) : List Value := [.int .i64 x.a.at_, .int .u32 x.a.addr, .int .i64 x.a.e.g, .int .i64 x.a.e.s.f, .int .i64 x.a.e.s.pc, .int .i64 x.a.e.k, .int .i64 x.a.l.g, .int .i64 x.a.l.s.f, .int .i64 x.a.l.s.pc, .int .i64 x.a.l.k, .int .i64 x.b.at_, .int .u32 x.b.addr, .int .i64 x.b.e.g, .int .i64 x.b.e.s.f, .int .i64 x.b.e.s.pc, .int .i64 x.b.e.k, .int .i64 x.b.l.g, .int .i64 x.b.l.s.f, .int .i64 x.b.l.s.pc, .int .i64 x.b.l.k]
def deFlags2 : List Value → Flags2
  | [.int _ a0, .int _ a1, .int _ a2, .int _ a3, .int _ a4, .int _ a5, .int _ a6, .int _ a7, .int _ a8, .int _ a9, .int _ a10, .int _ a11, .int _ a12, .int _ a13, .int _ a14, .int _ a15, .int _ a16, .int _ a17, .int _ a18, .int _ a19] => ⟨⟨a0, a1, ⟨a2, ⟨a3, a4⟩, a5⟩, ⟨a6, ⟨a7, a8⟩, a9⟩⟩, ⟨a10, a11, ⟨a12, ⟨a13, a14⟩, a15⟩, ⟨a16, ⟨a17, a18⟩, a19⟩⟩⟩
  | _ => ⟨⟨0, 0, ⟨0, ⟨0, 0⟩, 0⟩, ⟨0, ⟨0, 0⟩, 0⟩⟩, ⟨0, 0, ⟨0, ⟨0, 0⟩, 0⟩, ⟨0, ⟨0, 0⟩, 0⟩⟩⟩
def wfFlags2 (x : Flags2) : Prop := (Lit.int .i64 x.a.at_).wf = true ∧ (Lit.int .u32 x.a.addr).wf = true ∧ (Lit.int .i64 x.a.e.g).wf = true ∧ (Lit.int .i64 x.a.e.s.f).wf = true ∧ (Lit.int .i64 x.a.e.s.pc).wf = true ∧ (Lit.int .i64 x.a.e.k).wf = true ∧ (Lit.int .i64 x.a.l.g).wf = true ∧ (Lit.int .i64 x.a.l.s.f).wf = true ∧ (Lit.int .i64 x.a.l.s.pc).wf = true ∧ (Lit.int .i64 x.a.l.k).wf = true ∧ (Lit.int .i64 x.b.at_).wf = true ∧ (Lit.int .u32 x.b.addr).wf = true ∧ (Lit.int .i64 x.b.e.g).wf = true ∧ (Lit.int .i64 x.b.e.s.f).wf = true ∧ (Lit.int .i64 x.b.e.s.pc).wf = true ∧ (Lit.int .i64 x.b.e.k).wf = true ∧ (Lit.int .i64 x.b.l.g).wf = true ∧ (Lit.int .i64 x.b.l.s.f).wf = true ∧ (Lit.int .i64 x.b.l.s.pc).wf = true ∧ (Lit.int .i64 x.b.l.k).wf = true ∧ True
theorem deFlags2_ok (cs : List Value) (h : cksOk [.int .i64, .int .u32, .int .i64, .int .i64, .int .i64, .int .i64, .int .i64, .int .i64, .int .i64, .int .i64, .int .i64, .int .u32, .int .i64, .int .i64, .int .i64, .int .i64, .int .i64, .int .i64, .int .i64, .int .i64] cs) : enFlags2 (deFlags2 cs) = cs ∧ wfFlags2 (deFlags2 cs) := by
  have hl := cksOk_length h
  match cs, hl, h with
  | [c0, c1, c2, c3, c4, c5, c6, c7, c8, c9, c10, c11, c12, c13, c14, c15, c16, c17, c18, c19], _, ⟨⟨_, h0, w0⟩, ⟨_, h1, w1⟩, ⟨_, h2, w2⟩, ⟨_, h3, w3⟩, ⟨_, h4, w4⟩, ⟨_, h5, w5⟩, ⟨_, h6, w6⟩, ⟨_, h7, w7⟩, ⟨_, h8, w8⟩, ⟨_, h9, w9⟩, ⟨_, h10, w10⟩, ⟨_, h11, w11⟩, ⟨_, h12, w12⟩, ⟨_, h13, w13⟩, ⟨_, h14, w14⟩, ⟨_, h15, w15⟩, ⟨_, h16, w16⟩, ⟨_, h17, w17⟩, ⟨_, h18, w18⟩, ⟨_, h19, w19⟩, _⟩ =>
    subst h0 h1 h2 h3 h4 h5 h6 h7 h8 h9 h10 h11 h12 h13 h14 h15 h16 h17 h18 h19
    exact ⟨rfl, w0, w1, w2, w3, w4, w5, w6, w7, w8, w9, w10, w11, w12, w13, w14, w15, w16, w17, w18, w19, trivial⟩
theorem flatFlags2 {v : Value} (h : cksOk [.int .i64, .int .u32, .int .i64, .int .i64, .int .i64, .int .i64, .int .i64, .int .i64, .int .i64, .int .i64, .int .i64, .int .u32, .int .i64, .int .i64, .int .i64, .int .i64, .int .i64, .int .i64, .int .i64, .int .i64] v.cells.toList) : ∃ x : Flags2, v = x.v ∧ wfFlags2 x := by
  have hl := cksOk_length h
  cases v with
  | agg a => exact ⟨deFlags2 a.toList, by have := (deFlags2_ok _ h).1; have h2 := congrArg List.toArray this; exact congrArg Value.agg (h2.symm), (deFlags2_ok _ h).2⟩
  | _ => simp [Value.cells] at hl
theorem comes_nilz {α : Type} {pre : List (α × Nat)} {x : α × Nat} (hc : Comes (· = ([] : List α).zipIdx) pre x) : False := by
  obtain ⟨xs, rfl, t, ht⟩ := hc
  simp at ht
set_option maxRecDepth 100000 in
theorem e_reportCopies (A_l : Option Addr) (c_l : Nat) (l : List Flag) (two : Flags2) (zero : Bool) (w : World) (hr_l : RowAt w A_l 10 enFlag l) (hc_l : l.length ≤ c_l) : Calls Try.prog 6 #[Value.slice A_l l.length c_l, two.v, Value.bool zero] w (fun e w' => e = .returned (Value.bool true) ∧ Fr No w w') := by
 have _hu := hc_l; have _hv := hr_l; clear _hu _hv
 refine enter_F 157 Try.func6 rfl rfl (by kernel_rfl) (L := [(0, Value.slice A_l l.length c_l), (1, two.v), (2, Value.bool zero)]) (by kernel_rfl) ?_
 intro ac hA
 have hW := Ws.start w No
 have hW := hW.arg hr_l
 refine wpIn_seq ?_
 refine wpIn_region_lit ?_
 refine stF hA (by kernel_rfl) (by kernel_rfl) (by kernel_rfl) (by kernel_rfl) (RunsF.of (Runs.cells (fun b => Value.pointer (some ⟨b, 0, none⟩)) #[Value.int .i64 two.a.at_, Value.int .u32 two.a.addr, Value.int .i64 two.a.e.g, Value.int .i64 two.a.e.s.f, Value.int .i64 two.a.e.s.pc, Value.int .i64 two.a.e.k, Value.int .i64 two.a.l.g, Value.int .i64 two.a.l.s.f, Value.int .i64 two.a.l.s.pc, Value.int .i64 two.a.l.k, Value.int .i64 two.b.at_, Value.int .u32 two.b.addr, Value.int .i64 two.b.e.g, Value.int .i64 two.b.e.s.f, Value.int .i64 two.b.e.s.pc, Value.int .i64 two.b.e.k, Value.int .i64 two.b.l.g, Value.int .i64 two.b.l.s.f, Value.int .i64 two.b.l.s.pc, Value.int .i64 two.b.l.k] 55 (fun _ => by kernel_rfl) hW ?_)); clear hA ac hW; intro b1 w2 hW hb1 hfw2 ac hA
 refine stF hA (by kernel_rfl) (by kernel_rfl) (by kernel_rfl) (by kernel_rfl) (RunsF.of (Runs.cells (fun b => Value.pointer (some ⟨b, 0, none⟩)) #[Value.bool false] 4 (fun _ => by kernel_rfl) hW ?_)); clear hA ac hW; intro b3 w4 hW hb3 hfw4 ac hA
 refine wpListIn_nil ?_
 refine thenN ?_
 refine wpIn_seq ?_
 refine wpIn_seq ?_
 refine wpIn_region_lit ?_
 refine st_rdF (v := Value.slice A_l l.length c_l) hA (by kernel_rfl) (by kernel_rfl) (by kernel_rfl) (by kernel_rfl) hW.cls (Rd.pure fun _ => by kernel_rfl) ?_; clear hA ac; intro ac hA
 refine st_rdF (v := Value.int .i64 ((l.length : Nat) : Int)) hA (by kernel_rfl) (by kernel_rfl) (by kernel_rfl) (by kernel_rfl) hW.cls (Rd.pure fun _ => by kernel_rfl) ?_; clear hA ac; intro ac hA
 refine st_rdF (v := Value.bool (decide ((((l.length : Nat) : Int) : Int) > (20 : Int)))) hA (by kernel_rfl) (by kernel_rfl) (by kernel_rfl) (by kernel_rfl) hW.cls (Rd.pure fun _ => by kernel_rfl) ?_; clear hA ac; intro ac hA
 refine wpListIn_nil ?_
 refine thenN ?_
 refine wpIn_cond_split (t := decide ((((l.length : Nat) : Int) : Int) > (20 : Int))) (hA.eval (by kernel_rfl)) (fun h5 => ?_) (fun h5 => ?_)
 · skip
   have h5 := of_decide_eq_true h5
   first
   | (exfalso; clear hA hW; omega)
   | (
     refine wpIn_seq ?_
     refine wpIn_region_lit ?_
     refine stF hA (by kernel_rfl) (by kernel_rfl) (by kernel_rfl) (by kernel_rfl) (RunsF.of (Runs.callN (v := Value.bool true) (fun _ => by kernel_rfl) hW (works27_any w4) ?_)); clear hA ac hW; intro w6 hW hfw6 ac hA
     refine stF hA (by kernel_rfl) (by kernel_rfl) (by kernel_rfl) (by kernel_rfl) (RunsF.of (Runs.store (v := Value.bool true) (b := b3) (j := 0) (n := 1) (cs' := #[Value.bool true]) (H' := [Cel b3 #[Value.bool true] 4, Cel b1 #[Value.int .i64 two.a.at_, Value.int .u32 two.a.addr, Value.int .i64 two.a.e.g, Value.int .i64 two.a.e.s.f, Value.int .i64 two.a.e.s.pc, Value.int .i64 two.a.e.k, Value.int .i64 two.a.l.g, Value.int .i64 two.a.l.s.f, Value.int .i64 two.a.l.s.pc, Value.int .i64 two.a.l.k, Value.int .i64 two.b.at_, Value.int .u32 two.b.addr, Value.int .i64 two.b.e.g, Value.int .i64 two.b.e.s.f, Value.int .i64 two.b.e.s.pc, Value.int .i64 two.b.e.k, Value.int .i64 two.b.l.g, Value.int .i64 two.b.l.s.f, Value.int .i64 two.b.l.s.pc, Value.int .i64 two.b.l.k] 55]) (by kernel_rfl) (by kernel_rfl) (by kernel_rfl) (by kernel_rfl) (by kernel_rfl) hW 0 (by rfl) (Nat.le_of_ble_eq_true (by kernel_rfl)) (by kernel_rfl) (by rfl) ?_)); clear hA ac hW; intro w7 hW ac hA
     refine wpListIn_nil ?_
     refine thenN ?_
     refine wpIn_ret ?_
     refine thenR ?_
     refine retF (.inl rfl) hA ?_
     refine leave1 (v := Value.bool true) (by rfl) (GotF.cell (b := b3) (i := 0) hA (by kernel_rfl) (by kernel_rfl) (hW.cel 0 rfl) (by kernel_rfl)) ?_
     clear hA
     exact ⟨retv (by rfl), hW.fr⟩)
 · skip
   have h5 := of_decide_eq_false h5
   first
   | (exfalso; clear hA hW; omega)
   | (
     refine wpIn_skip ?_
     refine thenN ?_
     refine wpIn_seq ?_
     refine wpIn_region_lit ?_
     refine stF hA (by kernel_rfl) (by kernel_rfl) (by kernel_rfl) (by kernel_rfl) (RunsF.of (Runs.call (fun _ => by kernel_rfl) (New_C w4 (5) (by omega)) ?_))
     rintro _ w8 ⟨n9, n10, n11, rfl, hu_⟩; refine ⟨_, rfl, ?_⟩; replace hW := hW.made hu_; clear hA ac; intro ac hA
     refine st_rdF (v := Value.tuple #[Value.pointer (some ⟨n9, 0, none⟩), Value.int .i64 0]) hA (by kernel_rfl) (by kernel_rfl) (by kernel_rfl) (by kernel_rfl) hW.cls (Rd.pure fun _ => by kernel_rfl) ?_; clear hA ac; intro ac hA
     refine st_rdF (v := Value.pointer (some ⟨n9, 0, none⟩)) hA (by kernel_rfl) (by kernel_rfl) (by kernel_rfl) (by kernel_rfl) hW.cls (Rd.pure fun _ => by kernel_rfl) ?_; clear hA ac; intro ac hA
     refine st_rdF (v := Value.int .i64 0) hA (by kernel_rfl) (by kernel_rfl) (by kernel_rfl) (by kernel_rfl) hW.cls (Rd.pure fun _ => by kernel_rfl) ?_; clear hA ac; intro ac hA
     refine st_rdF (v := Value.pointer (some ⟨n9, 0, none⟩)) hA (by kernel_rfl) (by kernel_rfl) (by kernel_rfl) (by kernel_rfl) hW.cls (Rd.pure fun _ => by kernel_rfl) ?_; clear hA ac; intro ac hA
     refine st_rdF (v := Value.int .i64 0) hA (by kernel_rfl) (by kernel_rfl) (by kernel_rfl) (by kernel_rfl) hW.cls (Rd.pure fun _ => by kernel_rfl) ?_; clear hA ac; intro ac hA
     refine wpListIn_nil ?_
     refine thenN ?_
     refine wpIn_seq ?_
     refine wpIn_region_lit ?_
     refine st_rdF (v := Value.agg #[Value.int .i64 5, Value.slice none 0 0, Value.slice none 0 0]) hA (by kernel_rfl) (by kernel_rfl) (by kernel_rfl) (by kernel_rfl) hW.cls (Rd.pure fun _ => by kernel_rfl) ?_; clear hA ac; intro ac hA
     refine stF hA (by kernel_rfl) (by kernel_rfl) (by kernel_rfl) (by kernel_rfl) (RunsF.of (Runs.cells (fun b => Value.pointer (some ⟨b, 0, none⟩)) #[Value.int .i64 0, Value.slice none 0 0, Value.slice none 0 0] 29 (fun _ => by kernel_rfl) hW ?_)); clear hA ac hW; intro b12 w13 hW hb12 hfw13 ac hA
     refine stF hA (by kernel_rfl) (by kernel_rfl) (by kernel_rfl) (by kernel_rfl) (RunsF.of (Runs.store (v := Value.agg #[Value.int .i64 5, Value.slice none 0 0, Value.slice none 0 0]) (b := b12) (j := 0) (n := 3) (cs' := #[Value.int .i64 5, Value.slice none 0 0, Value.slice none 0 0]) (H' := [Cel b12 #[Value.int .i64 5, Value.slice none 0 0, Value.slice none 0 0] 29, TabR n9 n10 n11 none 0 (⟨(5), 0, [], []⟩), Cel b3 #[Value.bool false] 4, Cel b1 #[Value.int .i64 two.a.at_, Value.int .u32 two.a.addr, Value.int .i64 two.a.e.g, Value.int .i64 two.a.e.s.f, Value.int .i64 two.a.e.s.pc, Value.int .i64 two.a.e.k, Value.int .i64 two.a.l.g, Value.int .i64 two.a.l.s.f, Value.int .i64 two.a.l.s.pc, Value.int .i64 two.a.l.k, Value.int .i64 two.b.at_, Value.int .u32 two.b.addr, Value.int .i64 two.b.e.g, Value.int .i64 two.b.e.s.f, Value.int .i64 two.b.e.s.pc, Value.int .i64 two.b.e.k, Value.int .i64 two.b.l.g, Value.int .i64 two.b.l.s.f, Value.int .i64 two.b.l.s.pc, Value.int .i64 two.b.l.k] 55]) (by kernel_rfl) (by kernel_rfl) (by kernel_rfl) (by kernel_rfl) (by kernel_rfl) hW 0 (by rfl) (Nat.le_of_ble_eq_true (by kernel_rfl)) (by kernel_rfl) (by rfl) ?_)); clear hA ac hW; intro w14 hW ac hA
     refine wpListIn_nil ?_
     refine thenN ?_
     refine wpIn_seq ?_
     refine wpIn_seq ?_
     refine wpIn_region_lit ?_
     refine st_rdF (v := Value.int .i64 0) hA (by kernel_rfl) (by kernel_rfl) (by kernel_rfl) (by kernel_rfl) hW.cls (Rd.pure fun _ => by kernel_rfl) ?_; clear hA ac; intro ac hA
     refine wpListIn_nil ?_
     refine thenN ?_
     refine wpIn_block ?_
     have hW := hW.addG (roR none 10 enFlag ([] : List Flag)) (.inl rfl) (by simp [roR]) (by simp [roR])
     have hW := hW.addG (roR none 4 enPair ([] : List Pair)) (.inl rfl) (by simp [roR]) (by simp [roR])
     refine wpIn_loop_m (fun m_ ac_ wl_ => ∃ k : Nat, ∃ A : Option Addr, ∃ c : Nat, ∃ T : Tab, ∃ Lk : List Flag, ∃ Pk : List Pair, ∃ A1 : Option Addr, ∃ c1 : Nat, ∃ A2 : Option Addr, ∃ c2 : Nat, m_ = l.length - k ∧ (k ≤ l.length) ∧ (Agree ⟨5, Lk, Pk⟩ T) ∧ (TOk T k) ∧ (Lk.length ≤ k) ∧ (Pk.length ≤ k) ∧ (Lk.length ≤ c1) ∧ (Pk.length ≤ c2) ∧ Fm 157 [] [(0, Value.slice A_l l.length c_l), (2, Value.bool zero), (4, Value.pointer (some ⟨b1, 0, none⟩)), (6, Value.pointer (some ⟨b3, 0, none⟩)), (7, Value.pointer (some ⟨n9, 0, none⟩)), (8, Value.int .i64 0), (9, Value.pointer (some ⟨b12, 0, none⟩)), (10, Value.int .i64 ((k : Nat) : Int))] ac_ ∧ Ws w No [Cel b12 #[Value.int .i64 5, Value.slice A1 Lk.length c1, Value.slice A2 Pk.length c2] 29, TabR n9 n10 n11 A c T, Cel b3 #[Value.bool false] 4, Cel b1 #[Value.int .i64 two.a.at_, Value.int .u32 two.a.addr, Value.int .i64 two.a.e.g, Value.int .i64 two.a.e.s.f, Value.int .i64 two.a.e.s.pc, Value.int .i64 two.a.e.k, Value.int .i64 two.a.l.g, Value.int .i64 two.a.l.s.f, Value.int .i64 two.a.l.s.pc, Value.int .i64 two.a.l.k, Value.int .i64 two.b.at_, Value.int .u32 two.b.addr, Value.int .i64 two.b.e.g, Value.int .i64 two.b.e.s.f, Value.int .i64 two.b.e.s.pc, Value.int .i64 two.b.e.k, Value.int .i64 two.b.l.g, Value.int .i64 two.b.l.s.f, Value.int .i64 two.b.l.s.pc, Value.int .i64 two.b.l.k] 55] [roR A1 10 enFlag Lk, roR A2 4 enPair Pk, roR A_l 10 enFlag l] wl_) _ ⟨0, none, 0, ⟨(5), 0, [], []⟩, ([] : List Flag), ([] : List Pair), none, 0, none, 0, rfl, by omega, by exact Agree.start 5, by exact TOk.start 5, by simp, by simp, by simp, by simp, hA.sub ⟨⟨by kernel_rfl, by kernel_rfl⟩, ⟨by kernel_rfl, by kernel_rfl⟩, ⟨by kernel_rfl, by kernel_rfl⟩, ⟨by kernel_rfl, by kernel_rfl⟩, ⟨by kernel_rfl, by kernel_rfl⟩, ⟨by kernel_rfl, by kernel_rfl⟩, ⟨by kernel_rfl, by kernel_rfl⟩, ⟨by kernel_rfl, by kernel_rfl⟩, trivial⟩, (hW.pick [0, 1, 2, 3] (by decide) rfl).pickG [1, 0, 2] rfl⟩ ?_
     clear hA ac hW; rintro m_ ac w15 ⟨k, A, c, T, Lk, Pk, A1, c1, A2, c2, rfl, hk, hG, hK, h1, h2, hcc1, hcc2, hA, hW⟩
     refine wpIn_seq ?_
     refine wpIn_seq ?_
     refine wpIn_region_lit ?_
     refine st_rdF (v := Value.int .i64 ((k : Nat) : Int)) hA (by kernel_rfl) (by kernel_rfl) (by kernel_rfl) (by kernel_rfl) hW.cls (Rd.pure fun _ => by kernel_rfl) ?_; clear hA ac; intro ac hA
     refine st_rdF (v := Value.slice A_l l.length c_l) hA (by kernel_rfl) (by kernel_rfl) (by kernel_rfl) (by kernel_rfl) hW.cls (Rd.pure fun _ => by kernel_rfl) ?_; clear hA ac; intro ac hA
     refine st_rdF (v := Value.int .i64 ((l.length : Nat) : Int)) hA (by kernel_rfl) (by kernel_rfl) (by kernel_rfl) (by kernel_rfl) hW.cls (Rd.pure fun _ => by kernel_rfl) ?_; clear hA ac; intro ac hA
     refine st_rdF (v := Value.bool (decide ((((k : Nat) : Int) : Int) < (((l.length : Nat) : Int) : Int)))) hA (by kernel_rfl) (by kernel_rfl) (by kernel_rfl) (by kernel_rfl) hW.cls (Rd.pure fun _ => by kernel_rfl) ?_; clear hA ac; intro ac hA
     refine wpListIn_nil ?_
     refine thenN ?_
     refine wpIn_cond_split (t := decide ((((k : Nat) : Int) : Int) < (((l.length : Nat) : Int) : Int))) (hA.eval (by kernel_rfl)) (fun h16 => ?_) (fun h16 => ?_)
     · skip
       have h16 := of_decide_eq_true h16
       first
       | (exfalso; clear hA hW; omega)
       | (
         refine wpIn_skip ?_
         refine thenN ?_
         refine wpIn_seq ?_
         refine wpIn_block ?_
         refine wpIn_seq ?_
         obtain ⟨y, hy⟩ : ∃ y, l[k]? = some y := ⟨_, List.getElem?_eq_getElem (by omega)⟩
         rcases Bool.eq_false_or_eq_true (Flag.ok y) with h17 | h17
         · skip
           first
           | (exfalso; clear hA hW; omega)
           | (exfalso; clear hA hW; rw [h17] at h17; exact absurd rfl h17; done)
           | (exfalso; clear hA hW; rw [h17] at h17; cases h17; done)
           | (
             refine wpIn_region_lit ?_
             refine st_rdF (v := Value.pointer (some ⟨n9, 0, none⟩)) hA (by kernel_rfl) (by kernel_rfl) (by kernel_rfl) (by kernel_rfl) hW.cls (Rd.pure fun _ => by kernel_rfl) ?_; clear hA ac; intro ac hA
             refine st_rdF (v := Value.slice A_l l.length c_l) hA (by kernel_rfl) (by kernel_rfl) (by kernel_rfl) (by kernel_rfl) hW.cls (Rd.pure fun _ => by kernel_rfl) ?_; clear hA ac; intro ac hA
             refine st_rdF (v := Value.int .i64 ((k : Nat) : Int)) hA (by kernel_rfl) (by kernel_rfl) (by kernel_rfl) (by kernel_rfl) hW.cls (Rd.pure fun _ => by kernel_rfl) ?_; clear hA ac; intro ac hA
             obtain ⟨b18, o19, rfl, hbb18⟩ := row_some ((hW).getG 2 rfl) hy
             refine st_rdF (v := Value.pointer (some ⟨b18, o19 + k * 10, none⟩)) hA (by kernel_rfl) (by kernel_rfl) (by kernel_rfl) (by kernel_rfl) hW.cls (Rd.indexAddr (e := 43) (sz := 10) (b := b18) (off := o19) (n := l.length) (c := c_l) (k := k) (by kernel_rfl) (by kernel_rfl) (by first | omega | (simp; done) | (simp; omega)) (fun _ => by kernel_rfl) (fun _ => by kernel_rfl)) ?_; clear hA ac; intro ac hA
             refine st_rdF (v := Value.agg #[Value.int .i64 y.at_, Value.int .u32 y.addr, Value.int .i64 y.e.g, Value.int .i64 y.e.s.f, Value.int .i64 y.e.s.pc, Value.int .i64 y.e.k, Value.int .i64 y.l.g, Value.int .i64 y.l.s.f, Value.int .i64 y.l.s.pc, Value.int .i64 y.l.k]) hA (by kernel_rfl) (by kernel_rfl) (by kernel_rfl) (by kernel_rfl) hW.cls (Rd.loadRow (b := b18) (i := o19 + k * 10) (xs := [Value.int .i64 y.at_, Value.int .u32 y.addr, Value.int .i64 y.e.g, Value.int .i64 y.e.s.f, Value.int .i64 y.e.s.pc, Value.int .i64 y.e.k, Value.int .i64 y.l.g, Value.int .i64 y.l.s.f, Value.int .i64 y.l.s.pc, Value.int .i64 y.l.k]) (by kernel_rfl) (fun _ hw => row_ld ((hw.1).getG 2 rfl) hy (Fr.refl No _) (fun h => h) 0 10 (by kernel_rfl)) (by kernel_rfl)) ?_; clear hA ac; intro ac hA
             refine stF hA (by kernel_rfl) (by kernel_rfl) (by kernel_rfl) (by kernel_rfl) (RunsF.of (Runs.call (fun _ => by kernel_rfl) (Take_U w15 n9 n10 n11 A c T y ((hW).get 1 rfl) ((hW).lt _ (List.mem_of_getElem? (i := 1) rfl)) h17 (by first | exact hK.bound (by omega) | exact hK2.bound (by omega))) ?_))
             rintro _ w20 ⟨u21, u22, rfl, hu_⟩; refine ⟨_, rfl, ?_⟩; replace hW := hW.upd (H' := [Cel b12 #[Value.int .i64 5, Value.slice A1 Lk.length c1, Value.slice A2 Pk.length c2] 29, TabR n9 n10 n11 u21 u22 (Tab.take T y).1, Cel b3 #[Value.bool false] 4, Cel b1 #[Value.int .i64 two.a.at_, Value.int .u32 two.a.addr, Value.int .i64 two.a.e.g, Value.int .i64 two.a.e.s.f, Value.int .i64 two.a.e.s.pc, Value.int .i64 two.a.e.k, Value.int .i64 two.a.l.g, Value.int .i64 two.a.l.s.f, Value.int .i64 two.a.l.s.pc, Value.int .i64 two.a.l.k, Value.int .i64 two.b.at_, Value.int .u32 two.b.addr, Value.int .i64 two.b.e.g, Value.int .i64 two.b.e.s.f, Value.int .i64 two.b.e.s.pc, Value.int .i64 two.b.e.k, Value.int .i64 two.b.l.g, Value.int .i64 two.b.l.s.f, Value.int .i64 two.b.l.s.pc, Value.int .i64 two.b.l.k] 55]) 1 rfl hu_ rfl; clear hA ac; intro ac hA
             refine st_rdF (v := Value.tuple #[Value.bool (Tab.take T y).2, Value.int .i64 0]) hA (by kernel_rfl) (by kernel_rfl) (by kernel_rfl) (by kernel_rfl) hW.cls (Rd.pure fun _ => by kernel_rfl) ?_; clear hA ac; intro ac hA
             refine st_rdF (v := Value.bool (Tab.take T y).2) hA (by kernel_rfl) (by kernel_rfl) (by kernel_rfl) (by kernel_rfl) hW.cls (Rd.pure fun _ => by kernel_rfl) ?_; clear hA ac; intro ac hA
             refine st_rdF (v := Value.int .i64 0) hA (by kernel_rfl) (by kernel_rfl) (by kernel_rfl) (by kernel_rfl) hW.cls (Rd.pure fun _ => by kernel_rfl) ?_; clear hA ac; intro ac hA
             refine st_rdF (v := Value.bool (Tab.take T y).2) hA (by kernel_rfl) (by kernel_rfl) (by kernel_rfl) (by kernel_rfl) hW.cls (Rd.pure fun _ => by kernel_rfl) ?_; clear hA ac; intro ac hA
             refine st_rdF (v := Value.int .i64 0) hA (by kernel_rfl) (by kernel_rfl) (by kernel_rfl) (by kernel_rfl) hW.cls (Rd.pure fun _ => by kernel_rfl) ?_; clear hA ac; intro ac hA
             refine wpListIn_nil ?_
             refine thenN ?_
             refine wpIn_seq ?_
             refine wpIn_region_lit ?_
             refine st_rdF (v := Value.int .i64 0) hA (by kernel_rfl) (by kernel_rfl) (by kernel_rfl) (by kernel_rfl) hW.cls (Rd.pure fun _ => by kernel_rfl) ?_; clear hA ac; intro ac hA
             refine stF hA (by kernel_rfl) (by kernel_rfl) (by kernel_rfl) (by kernel_rfl) (RunsF.of (Runs.callS (v := Value.int .i64 (0)) (fun _ => by kernel_rfl) (num27_any (0) w20) ?_)); clear hA ac; intro  ac hA
             refine st_rdF (v := Value.bool (((0) : Int) == (0 : Int))) hA (by kernel_rfl) (by kernel_rfl) (by kernel_rfl) (by kernel_rfl) hW.cls (Rd.pure fun _ => by kernel_rfl) ?_; clear hA ac; intro ac hA
             refine wpListIn_nil ?_
             refine thenN ?_
             refine wpIn_cond_split (t := ((0) : Int) == (0 : Int)) (hA.eval (by kernel_rfl)) (fun h23 => ?_) (fun h23 => ?_)
             · skip
               have h23 := eq_of_beq h23
               first
               | (exfalso; clear hA hW; omega)
               | (exfalso; clear hA hW; rw [h17] at h23; exact absurd rfl h23; done)
               | (exfalso; clear hA hW; rw [h17] at h23; cases h23; done)
               | (
                 refine wpIn_cut (fun ac_ wl_ => ∃ Ao1r10_5 : Option Addr, ∃ Ao2r10_5 : Option Addr, ∃ co1r10_5 : Nat, ∃ co2r10_5 : Nat, ∃ g0r10_5 : List Flag, ∃ g1r10_5 : List Pair, ∃ g2r10_5 : Bool, ((g0r10_5).length ≤ co1r10_5) ∧ ((g1r10_5).length ≤ co2r10_5) ∧ (RT.Takes ⟨(5), Lk, Pk⟩ y ⟨(5), g0r10_5, g1r10_5⟩ g2r10_5) ∧ Fm 157 [] [(0, Value.slice (some ⟨b18, o19, none⟩) l.length c_l), (2, Value.bool zero), (4, Value.pointer (some ⟨b1, 0, none⟩)), (6, Value.pointer (some ⟨b3, 0, none⟩)), (7, Value.pointer (some ⟨n9, 0, none⟩)), (8, Value.int .i64 0), (9, Value.pointer (some ⟨b12, 0, none⟩)), (10, Value.int .i64 ((k : Nat) : Int)), (12, Value.int .i64 0), (33, Value.int .i64 ((k : Nat) : Int)), (34, Value.slice (some ⟨b18, o19, none⟩) l.length c_l), (35, Value.int .i64 ((l.length : Nat) : Int)), (36, Value.bool (decide ((((k : Nat) : Int) : Int) < (((l.length : Nat) : Int) : Int)))), (39, Value.tuple #[Value.bool (Tab.take T y).2, Value.int .i64 0]), (40, Value.pointer (some ⟨n9, 0, none⟩)), (41, Value.slice (some ⟨b18, o19, none⟩) l.length c_l), (42, Value.int .i64 ((k : Nat) : Int)), (43, Value.pointer (some ⟨b18, o19 + k * 10, none⟩)), (44, Value.agg #[Value.int .i64 y.at_, Value.int .u32 y.addr, Value.int .i64 y.e.g, Value.int .i64 y.e.s.f, Value.int .i64 y.e.s.pc, Value.int .i64 y.e.k, Value.int .i64 y.l.g, Value.int .i64 y.l.s.f, Value.int .i64 y.l.s.pc, Value.int .i64 y.l.k]), (45, Value.tuple #[Value.bool (Tab.take T y).2, Value.int .i64 0]), (46, Value.bool (Tab.take T y).2), (47, Value.int .i64 0), (48, Value.int .i64 0), (49, Value.int .i64 (0)), (50, Value.bool (((0) : Int) == (0 : Int)))] ac_ ∧ Ws w No [Cel b12 #[Value.int .i64 (5), Value.slice Ao1r10_5 (g0r10_5).length co1r10_5, Value.slice Ao2r10_5 (g1r10_5).length co2r10_5] 29, TabR n9 n10 n11 u21 u22 (Tab.take T y).1, Cel b3 #[Value.bool false] 4, Cel b1 #[Value.int .i64 two.a.at_, Value.int .u32 two.a.addr, Value.int .i64 two.a.e.g, Value.int .i64 two.a.e.s.f, Value.int .i64 two.a.e.s.pc, Value.int .i64 two.a.e.k, Value.int .i64 two.a.l.g, Value.int .i64 two.a.l.s.f, Value.int .i64 two.a.l.s.pc, Value.int .i64 two.a.l.k, Value.int .i64 two.b.at_, Value.int .u32 two.b.addr, Value.int .i64 two.b.e.g, Value.int .i64 two.b.e.s.f, Value.int .i64 two.b.e.s.pc, Value.int .i64 two.b.e.k, Value.int .i64 two.b.l.g, Value.int .i64 two.b.l.s.f, Value.int .i64 two.b.l.s.pc, Value.int .i64 two.b.l.k] 55] [roR Ao2r10_5 4 enPair g1r10_5, roR Ao1r10_5 10 enFlag g0r10_5, roR A1 10 enFlag Lk, roR A2 4 enPair Pk, roR (some ⟨b18, o19, none⟩) 10 enFlag l] wl_) ?_ ?_
                 · refine sr_regionF (m := 10) (C := Ws w No [Cel b12 #[Value.int .i64 5, Value.slice A1 Lk.length c1, Value.slice A2 Pk.length c2] 29, TabR n9 n10 n11 u21 u22 (Tab.take T y).1, Cel b3 #[Value.bool false] 4, Cel b1 #[Value.int .i64 two.a.at_, Value.int .u32 two.a.addr, Value.int .i64 two.a.e.g, Value.int .i64 two.a.e.s.f, Value.int .i64 two.a.e.s.pc, Value.int .i64 two.a.e.k, Value.int .i64 two.a.l.g, Value.int .i64 two.a.l.s.f, Value.int .i64 two.a.l.s.pc, Value.int .i64 two.a.l.k, Value.int .i64 two.b.at_, Value.int .u32 two.b.addr, Value.int .i64 two.b.e.g, Value.int .i64 two.b.e.s.f, Value.int .i64 two.b.e.s.pc, Value.int .i64 two.b.e.k, Value.int .i64 two.b.l.g, Value.int .i64 two.b.l.s.f, Value.int .i64 two.b.l.s.pc, Value.int .i64 two.b.l.k] 55] [roR A1 10 enFlag Lk, roR A2 4 enPair Pk, roR (some ⟨b18, o19, none⟩) 10 enFlag l]) (fun i => [0, 4].contains i) (fun i => [0, 4].contains i) (fun i => [1, 2, 3, 6, 7, 8].contains i) (by kernel_rfl) (by kernel_rfl) (by kernel_rfl) (by kernel_rfl) (by kernel_rfl) (fun _ _ h => h) hW ?_; clear hW; intro w24 hW hfw24 hR; have hC : Ws w No [Cel b12 #[Value.int .i64 5, Value.slice A1 Lk.length c1, Value.slice A2 Pk.length c2] 29, TabR n9 n10 n11 u21 u22 (Tab.take T y).1, Cel b3 #[Value.bool false] 4, Cel b1 #[Value.int .i64 two.a.at_, Value.int .u32 two.a.addr, Value.int .i64 two.a.e.g, Value.int .i64 two.a.e.s.f, Value.int .i64 two.a.e.s.pc, Value.int .i64 two.a.e.k, Value.int .i64 two.a.l.g, Value.int .i64 two.a.l.s.f, Value.int .i64 two.a.l.s.pc, Value.int .i64 two.a.l.k, Value.int .i64 two.b.at_, Value.int .u32 two.b.addr, Value.int .i64 two.b.e.g, Value.int .i64 two.b.e.s.f, Value.int .i64 two.b.e.s.pc, Value.int .i64 two.b.e.k, Value.int .i64 two.b.l.g, Value.int .i64 two.b.l.s.f, Value.int .i64 two.b.l.s.pc, Value.int .i64 two.b.l.k] 55] [roR A1 10 enFlag Lk, roR A2 4 enPair Pk, roR (some ⟨b18, o19, none⟩) 10 enFlag l] w24 := hW.pick [0, 1, 2, 3] (by decide) rfl
                   refine sr_take (i := 0) (v := Value.agg #[Value.int .i64 5, Value.slice A1 Lk.length c1, Value.slice A2 Pk.length c2]) hR (by kernel_rfl) rfl (by kernel_rfl) (by kernel_rfl) (by kernel_rfl) (fun _ _ _ h => h.elim) hA (by kernel_rfl) (by kernel_rfl) (by kernel_rfl) hC (Rd.load (b := b12) (i := 0) (by kernel_rfl) (fun _ hw => (hw).cel 0 rfl) (by kernel_rfl)) ?_; clear hA ac; intro ac hA
                   refine sr_pure (i := 1) (v := Value.slice (some ⟨b18, o19, none⟩) l.length c_l) hR (by kernel_rfl) rfl (by kernel_rfl) (by kernel_rfl) (fun _ _ _ h => h.elim) hA (by kernel_rfl) (by kernel_rfl) (by kernel_rfl) (Rd.pure fun _ => by kernel_rfl) ?_; clear hA ac; intro ac hA
                   refine sr_pure (i := 2) (v := Value.int .i64 ((k : Nat) : Int)) hR (by kernel_rfl) rfl (by kernel_rfl) (by kernel_rfl) (fun _ _ _ h => h.elim) hA (by kernel_rfl) (by kernel_rfl) (by kernel_rfl) (Rd.pure fun _ => by kernel_rfl) ?_; clear hA ac; intro ac hA
                   refine sr_pure (i := 3) (v := Value.pointer (some ⟨b18, o19 + k * 10, none⟩)) hR (by kernel_rfl) rfl (by kernel_rfl) (by kernel_rfl) (fun _ _ _ h => h.elim) hA (by kernel_rfl) (by kernel_rfl) (by kernel_rfl) (Rd.indexAddr (e := 43) (sz := 10) (b := b18) (off := o19) (n := l.length) (c := c_l) (k := k) (by kernel_rfl) (by kernel_rfl) (by first | omega | (simp; done) | (simp; omega)) (fun _ => by kernel_rfl) (fun _ => by kernel_rfl)) ?_; clear hA ac; intro ac hA
                   refine sr_take (i := 4) (v := Value.agg #[Value.int .i64 y.at_, Value.int .u32 y.addr, Value.int .i64 y.e.g, Value.int .i64 y.e.s.f, Value.int .i64 y.e.s.pc, Value.int .i64 y.e.k, Value.int .i64 y.l.g, Value.int .i64 y.l.s.f, Value.int .i64 y.l.s.pc, Value.int .i64 y.l.k]) hR (by kernel_rfl) rfl (by kernel_rfl) (by kernel_rfl) (by kernel_rfl) (fun _ _ _ h => h.elim) hA (by kernel_rfl) (by kernel_rfl) (by kernel_rfl) hC (Rd.loadRow (b := b18) (i := o19 + k * 10) (xs := [Value.int .i64 y.at_, Value.int .u32 y.addr, Value.int .i64 y.e.g, Value.int .i64 y.e.s.f, Value.int .i64 y.e.s.pc, Value.int .i64 y.e.k, Value.int .i64 y.l.g, Value.int .i64 y.l.s.f, Value.int .i64 y.l.s.pc, Value.int .i64 y.l.k]) (by kernel_rfl) (fun _ hw => row_ld ((hw).getG 2 rfl) hy (Fr.refl No _) (fun h => h) 0 10 (by kernel_rfl)) (by kernel_rfl)) ?_; clear hA ac; intro ac hA
                   refine sr_one (i := 5) (by kernel_rfl) (sr_do rfl hA (by kernel_rfl) (by kernel_rfl) (by kernel_rfl) (Runs.call (fun _ => by kernel_rfl) (e_take27 (5) A1 c1 Lk A2 c2 Pk y w24 ((hW).getG 0 rfl) (by first | assumption | omega | (simp; omega) | simp) ((hW).getG 1 rfl) (by first | assumption | omega | (simp; omega) | simp) (by first | omega | exact ⟨by omega, by omega⟩ | exact hK.nd | exact hK.ok | exact hG5 | exact hG7 | assumption | simp) (by first | omega | exact ⟨by omega, by omega⟩ | exact hK.nd | exact hK.ok | exact hG5 | exact hG7 | assumption | simp)) ?_))
                   rintro _ w25 ⟨g0r10_5, g1r10_5, g2r10_5, Ao1r10_5, co1r10_5, Ao2r10_5, co2r10_5, rfl, hr10_5_hT, hcco1r10_5, hcco2r10_5, hfco1r10_5, hfco2r10_5, hfw25⟩; refine ⟨_, rfl, ?_⟩; have hW0 := hW; have hW := hW0.call hfw25
                   have hW := hW0.addFromAt hW hfco1r10_5 (in_cons (in_at 0 rfl) (in_cons (in_at 1 rfl) in_nil))
                   have hW := hW0.addFromAt hW hfco2r10_5 (in_cons (in_at 0 rfl) (in_cons (in_at 1 rfl) in_nil))
                   clear hW0 hA ac; intro ac hA
                   refine ⟨⟨fun h => absurd h (by decide), fun h => absurd h (by decide)⟩, ?_⟩
                   refine sr_pure (i := 6) (v := Value.tuple #[Value.agg #[Value.int .i64 (5), Value.slice Ao1r10_5 (g0r10_5).length co1r10_5, Value.slice Ao2r10_5 (g1r10_5).length co2r10_5], Value.bool g2r10_5]) hR (by kernel_rfl) rfl (by kernel_rfl) (by kernel_rfl) (fun _ _ _ h => h.elim) hA (by kernel_rfl) (by kernel_rfl) (by kernel_rfl) (Rd.pure fun _ => by kernel_rfl) ?_; clear hA ac; intro ac hA
                   refine sr_pure (i := 7) (v := Value.agg #[Value.int .i64 (5), Value.slice Ao1r10_5 (g0r10_5).length co1r10_5, Value.slice Ao2r10_5 (g1r10_5).length co2r10_5]) hR (by kernel_rfl) rfl (by kernel_rfl) (by kernel_rfl) (fun _ _ _ h => h.elim) hA (by kernel_rfl) (by kernel_rfl) (by kernel_rfl) (Rd.pure fun _ => by kernel_rfl) ?_; clear hA ac; intro ac hA
                   refine sr_pure (i := 8) (v := Value.bool g2r10_5) hR (by kernel_rfl) rfl (by kernel_rfl) (by kernel_rfl) (fun _ _ _ h => h.elim) hA (by kernel_rfl) (by kernel_rfl) (by kernel_rfl) (Rd.pure fun _ => by kernel_rfl) ?_; clear hA ac; intro ac hA
                   refine sr_one (i := 9) (by kernel_rfl) (sr_do rfl hA (by kernel_rfl) (by kernel_rfl) (by kernel_rfl) (Runs.store (v := Value.agg #[Value.int .i64 (5), Value.slice Ao1r10_5 (g0r10_5).length co1r10_5, Value.slice Ao2r10_5 (g1r10_5).length co2r10_5]) (b := b12) (j := 0) (n := 3) (cs' := #[Value.int .i64 (5), Value.slice Ao1r10_5 (g0r10_5).length co1r10_5, Value.slice Ao2r10_5 (g1r10_5).length co2r10_5]) (H' := [Cel b12 #[Value.int .i64 (5), Value.slice Ao1r10_5 (g0r10_5).length co1r10_5, Value.slice Ao2r10_5 (g1r10_5).length co2r10_5] 29, TabR n9 n10 n11 u21 u22 (Tab.take T y).1, Cel b3 #[Value.bool false] 4, Cel b1 #[Value.int .i64 two.a.at_, Value.int .u32 two.a.addr, Value.int .i64 two.a.e.g, Value.int .i64 two.a.e.s.f, Value.int .i64 two.a.e.s.pc, Value.int .i64 two.a.e.k, Value.int .i64 two.a.l.g, Value.int .i64 two.a.l.s.f, Value.int .i64 two.a.l.s.pc, Value.int .i64 two.a.l.k, Value.int .i64 two.b.at_, Value.int .u32 two.b.addr, Value.int .i64 two.b.e.g, Value.int .i64 two.b.e.s.f, Value.int .i64 two.b.e.s.pc, Value.int .i64 two.b.e.k, Value.int .i64 two.b.l.g, Value.int .i64 two.b.l.s.f, Value.int .i64 two.b.l.s.pc, Value.int .i64 two.b.l.k] 55]) (by kernel_rfl) (by kernel_rfl) (by kernel_rfl) (by kernel_rfl) (by kernel_rfl) hW 0 (by rfl) (Nat.le_of_ble_eq_true (by kernel_rfl)) (by kernel_rfl) (by rfl) ?_)); clear hA ac hW; intro w26 hW ac hA
                   refine ⟨⟨fun h => absurd h (by decide), fun h => absurd h (by decide)⟩, ?_⟩
                   refine sr_done (by kernel_rfl) ?_ _
                   exact ⟨Ao1r10_5, Ao2r10_5, co1r10_5, co2r10_5, g0r10_5, g1r10_5, g2r10_5, hcco1r10_5, hcco2r10_5, hr10_5_hT, hA.sub ⟨⟨by kernel_rfl, by kernel_rfl⟩, ⟨by kernel_rfl, by kernel_rfl⟩, ⟨by kernel_rfl, by kernel_rfl⟩, ⟨by kernel_rfl, by kernel_rfl⟩, ⟨by kernel_rfl, by kernel_rfl⟩, ⟨by kernel_rfl, by kernel_rfl⟩, ⟨by kernel_rfl, by kernel_rfl⟩, ⟨by kernel_rfl, by kernel_rfl⟩, ⟨by kernel_rfl, by kernel_rfl⟩, ⟨by kernel_rfl, by kernel_rfl⟩, ⟨by kernel_rfl, by kernel_rfl⟩, ⟨by kernel_rfl, by kernel_rfl⟩, ⟨by kernel_rfl, by kernel_rfl⟩, ⟨by kernel_rfl, by kernel_rfl⟩, ⟨by kernel_rfl, by kernel_rfl⟩, ⟨by kernel_rfl, by kernel_rfl⟩, ⟨by kernel_rfl, by kernel_rfl⟩, ⟨by kernel_rfl, by kernel_rfl⟩, ⟨by kernel_rfl, by kernel_rfl⟩, ⟨by kernel_rfl, by kernel_rfl⟩, ⟨by kernel_rfl, by kernel_rfl⟩, ⟨by kernel_rfl, by kernel_rfl⟩, ⟨by kernel_rfl, by kernel_rfl⟩, ⟨by kernel_rfl, by kernel_rfl⟩, ⟨by kernel_rfl, by kernel_rfl⟩, trivial⟩, (hW.pick [0, 1, 2, 3] (by decide) rfl).pickG [0, 1, 2, 3, 4] rfl⟩
                 clear hA ac hW; rintro ac w27 ⟨Ao1r10_5, Ao2r10_5, co1r10_5, co2r10_5, g0r10_5, g1r10_5, g2r10_5, hcco1r10_5, hcco2r10_5, hr10_5_hT, hA, hW⟩
                 refine blkN ?_
                 refine thenN ?_
                 obtain ⟨hG2, hr2⟩ := hG.takes hr10_5_hT; have hl2 := RT.Takes.len hr10_5_hT; simp only at hl2
                 refine wpIn_region_lit ?_
                 refine st_rdF (v := Value.int .i64 ((k : Nat) : Int)) hA (by kernel_rfl) (by kernel_rfl) (by kernel_rfl) (by kernel_rfl) hW.cls (Rd.pure fun _ => by kernel_rfl) ?_; clear hA ac; intro ac hA
                 refine st_rdF (v := Value.int .i64 ((k + 1 : Nat) : Int)) hA (by kernel_rfl) (by kernel_rfl) (by kernel_rfl) (by kernel_rfl) hW.cls (Rd.pureE (v0 := Value.int .i64 (IntKind.i64.wrap ((((k : Nat) : Int) : Int) + 1))) (fun _ => by kernel_rfl) (congrArg (Value.int .i64) ((w_i64 (x := (((k : Nat) : Int) : Int) + 1) (by omega) (by omega)).trans (by omega)))) ?_; clear hA ac; intro ac hA
                 refine st_rdF (v := Value.int .i64 ((k + 1 : Nat) : Int)) hA (by kernel_rfl) (by kernel_rfl) (by kernel_rfl) (by kernel_rfl) hW.cls (Rd.pure fun _ => by kernel_rfl) ?_; clear hA ac; intro ac hA
                 refine wpListIn_nil ?_
                 refine thenN ?_
                 exact ⟨l.length - (k + 1), by omega, k + 1, u21, u22, (Tab.take T y).1, g0r10_5, g1r10_5, Ao1r10_5, co1r10_5, Ao2r10_5, co2r10_5, rfl, by omega, by exact hG2, by exact hK.take h17, by omega, by omega, by exact hcco1r10_5, by exact hcco2r10_5, hA.sub ⟨⟨by kernel_rfl, by kernel_rfl⟩, ⟨by kernel_rfl, by kernel_rfl⟩, ⟨by kernel_rfl, by kernel_rfl⟩, ⟨by kernel_rfl, by kernel_rfl⟩, ⟨by kernel_rfl, by kernel_rfl⟩, ⟨by kernel_rfl, by kernel_rfl⟩, ⟨by kernel_rfl, by kernel_rfl⟩, ⟨by kernel_rfl, by kernel_rfl⟩, trivial⟩, (hW.pick [0, 1, 2, 3] (by decide) rfl).pickG [1, 0, 4] rfl⟩)
             · skip
               have h23 := ne_of_beq_false h23
               first
               | (exfalso; clear hA hW; omega)
               | (exfalso; clear hA hW; rw [h17] at h23; exact absurd rfl h23; done)
               | (exfalso; clear hA hW; rw [h17] at h23; cases h23; done)
               | (
                 refine wpIn_skip ?_
                 refine blkN ?_
                 refine thenN ?_
                 refine wpIn_region_lit ?_
                 refine st_rdF (v := Value.int .i64 ((k : Nat) : Int)) hA (by kernel_rfl) (by kernel_rfl) (by kernel_rfl) (by kernel_rfl) hW.cls (Rd.pure fun _ => by kernel_rfl) ?_; clear hA ac; intro ac hA
                 refine st_rdF (v := Value.int .i64 ((k + 1 : Nat) : Int)) hA (by kernel_rfl) (by kernel_rfl) (by kernel_rfl) (by kernel_rfl) hW.cls (Rd.pureE (v0 := Value.int .i64 (IntKind.i64.wrap ((((k : Nat) : Int) : Int) + 1))) (fun _ => by kernel_rfl) (congrArg (Value.int .i64) ((w_i64 (x := (((k : Nat) : Int) : Int) + 1) (by omega) (by omega)).trans (by omega)))) ?_; clear hA ac; intro ac hA
                 refine st_rdF (v := Value.int .i64 ((k + 1 : Nat) : Int)) hA (by kernel_rfl) (by kernel_rfl) (by kernel_rfl) (by kernel_rfl) hW.cls (Rd.pure fun _ => by kernel_rfl) ?_; clear hA ac; intro ac hA
                 refine wpListIn_nil ?_
                 refine thenN ?_
                 exact ⟨l.length - (k + 1), by omega, k + 1, u21, u22, (Tab.take T y).1, Lk, Pk, A1, c1, A2, c2, rfl, by omega, by exact hG2, by exact hK.take h17, by omega, by omega, by exact hcc1, by exact hcc2, hA.sub ⟨⟨by kernel_rfl, by kernel_rfl⟩, ⟨by kernel_rfl, by kernel_rfl⟩, ⟨by kernel_rfl, by kernel_rfl⟩, ⟨by kernel_rfl, by kernel_rfl⟩, ⟨by kernel_rfl, by kernel_rfl⟩, ⟨by kernel_rfl, by kernel_rfl⟩, ⟨by kernel_rfl, by kernel_rfl⟩, ⟨by kernel_rfl, by kernel_rfl⟩, trivial⟩, (hW.pick [0, 1, 2, 3] (by decide) rfl).pickG [0, 1, 2] rfl⟩))
         · skip
           first
           | (exfalso; clear hA hW; omega)
           | (exfalso; clear hA hW; rw [h17] at h17; exact absurd rfl h17; done)
           | (exfalso; clear hA hW; rw [h17] at h17; cases h17; done)
           | (
             refine wpIn_region_lit ?_
             refine st_rdF (v := Value.pointer (some ⟨n9, 0, none⟩)) hA (by kernel_rfl) (by kernel_rfl) (by kernel_rfl) (by kernel_rfl) hW.cls (Rd.pure fun _ => by kernel_rfl) ?_; clear hA ac; intro ac hA
             refine st_rdF (v := Value.slice A_l l.length c_l) hA (by kernel_rfl) (by kernel_rfl) (by kernel_rfl) (by kernel_rfl) hW.cls (Rd.pure fun _ => by kernel_rfl) ?_; clear hA ac; intro ac hA
             refine st_rdF (v := Value.int .i64 ((k : Nat) : Int)) hA (by kernel_rfl) (by kernel_rfl) (by kernel_rfl) (by kernel_rfl) hW.cls (Rd.pure fun _ => by kernel_rfl) ?_; clear hA ac; intro ac hA
             obtain ⟨b28, o29, rfl, hbb28⟩ := row_some ((hW).getG 2 rfl) hy
             refine st_rdF (v := Value.pointer (some ⟨b28, o29 + k * 10, none⟩)) hA (by kernel_rfl) (by kernel_rfl) (by kernel_rfl) (by kernel_rfl) hW.cls (Rd.indexAddr (e := 43) (sz := 10) (b := b28) (off := o29) (n := l.length) (c := c_l) (k := k) (by kernel_rfl) (by kernel_rfl) (by first | omega | (simp; done) | (simp; omega)) (fun _ => by kernel_rfl) (fun _ => by kernel_rfl)) ?_; clear hA ac; intro ac hA
             refine st_rdF (v := Value.agg #[Value.int .i64 y.at_, Value.int .u32 y.addr, Value.int .i64 y.e.g, Value.int .i64 y.e.s.f, Value.int .i64 y.e.s.pc, Value.int .i64 y.e.k, Value.int .i64 y.l.g, Value.int .i64 y.l.s.f, Value.int .i64 y.l.s.pc, Value.int .i64 y.l.k]) hA (by kernel_rfl) (by kernel_rfl) (by kernel_rfl) (by kernel_rfl) hW.cls (Rd.loadRow (b := b28) (i := o29 + k * 10) (xs := [Value.int .i64 y.at_, Value.int .u32 y.addr, Value.int .i64 y.e.g, Value.int .i64 y.e.s.f, Value.int .i64 y.e.s.pc, Value.int .i64 y.e.k, Value.int .i64 y.l.g, Value.int .i64 y.l.s.f, Value.int .i64 y.l.s.pc, Value.int .i64 y.l.k]) (by kernel_rfl) (fun _ hw => row_ld ((hw.1).getG 2 rfl) hy (Fr.refl No _) (fun h => h) 0 10 (by kernel_rfl)) (by kernel_rfl)) ?_; clear hA ac; intro ac hA
             refine stF hA (by kernel_rfl) (by kernel_rfl) (by kernel_rfl) (by kernel_rfl) (RunsF.of (Runs.callN (v := Value.tuple #[Value.bool false, Value.int .i64 2]) (fun _ => by kernel_rfl) hW (Take_no w15 0 n9 n10 n11 _ T (TabR.tx ((hW).get 1 rfl)) y h17) ?_)); clear hA ac hW; intro w30 hW hfw30 ac hA
             refine st_rdF (v := Value.tuple #[Value.bool false, Value.int .i64 2]) hA (by kernel_rfl) (by kernel_rfl) (by kernel_rfl) (by kernel_rfl) hW.cls (Rd.pure fun _ => by kernel_rfl) ?_; clear hA ac; intro ac hA
             refine st_rdF (v := Value.bool false) hA (by kernel_rfl) (by kernel_rfl) (by kernel_rfl) (by kernel_rfl) hW.cls (Rd.pure fun _ => by kernel_rfl) ?_; clear hA ac; intro ac hA
             refine st_rdF (v := Value.int .i64 2) hA (by kernel_rfl) (by kernel_rfl) (by kernel_rfl) (by kernel_rfl) hW.cls (Rd.pure fun _ => by kernel_rfl) ?_; clear hA ac; intro ac hA
             refine st_rdF (v := Value.bool false) hA (by kernel_rfl) (by kernel_rfl) (by kernel_rfl) (by kernel_rfl) hW.cls (Rd.pure fun _ => by kernel_rfl) ?_; clear hA ac; intro ac hA
             refine st_rdF (v := Value.int .i64 2) hA (by kernel_rfl) (by kernel_rfl) (by kernel_rfl) (by kernel_rfl) hW.cls (Rd.pure fun _ => by kernel_rfl) ?_; clear hA ac; intro ac hA
             refine wpListIn_nil ?_
             refine thenN ?_
             refine wpIn_seq ?_
             refine wpIn_region_lit ?_
             refine st_rdF (v := Value.int .i64 2) hA (by kernel_rfl) (by kernel_rfl) (by kernel_rfl) (by kernel_rfl) hW.cls (Rd.pure fun _ => by kernel_rfl) ?_; clear hA ac; intro ac hA
             refine stF hA (by kernel_rfl) (by kernel_rfl) (by kernel_rfl) (by kernel_rfl) (RunsF.of (Runs.callS (v := Value.int .i64 (2)) (fun _ => by kernel_rfl) (num27_any (2) w30) ?_)); clear hA ac; intro  ac hA
             refine st_rdF (v := Value.bool (((2) : Int) == (0 : Int))) hA (by kernel_rfl) (by kernel_rfl) (by kernel_rfl) (by kernel_rfl) hW.cls (Rd.pure fun _ => by kernel_rfl) ?_; clear hA ac; intro ac hA
             refine wpListIn_nil ?_
             refine thenN ?_
             refine wpIn_cond_split (t := ((2) : Int) == (0 : Int)) (hA.eval (by kernel_rfl)) (fun h31 => ?_) (fun h31 => ?_)
             · skip
               have h31 := eq_of_beq h31
               first
               | (exfalso; clear hA hW; omega)
               | (exfalso; clear hA hW; rw [h17] at h31; exact absurd rfl h31; done)
               | (exfalso; clear hA hW; rw [h17] at h31; cases h31; done)
               | (
                 refine wpIn_cut (fun ac_ wl_ => ∃ Ao1r10_5 : Option Addr, ∃ Ao2r10_5 : Option Addr, ∃ co1r10_5 : Nat, ∃ co2r10_5 : Nat, ∃ g0r10_5 : List Flag, ∃ g1r10_5 : List Pair, ∃ g2r10_5 : Bool, ((g0r10_5).length ≤ co1r10_5) ∧ ((g1r10_5).length ≤ co2r10_5) ∧ (RT.Takes ⟨(5), Lk, Pk⟩ y ⟨(5), g0r10_5, g1r10_5⟩ g2r10_5) ∧ Fm 157 [] [(0, Value.slice (some ⟨b28, o29, none⟩) l.length c_l), (2, Value.bool zero), (4, Value.pointer (some ⟨b1, 0, none⟩)), (6, Value.pointer (some ⟨b3, 0, none⟩)), (7, Value.pointer (some ⟨n9, 0, none⟩)), (8, Value.int .i64 0), (9, Value.pointer (some ⟨b12, 0, none⟩)), (10, Value.int .i64 ((k : Nat) : Int)), (12, Value.int .i64 2), (33, Value.int .i64 ((k : Nat) : Int)), (34, Value.slice (some ⟨b28, o29, none⟩) l.length c_l), (35, Value.int .i64 ((l.length : Nat) : Int)), (36, Value.bool (decide ((((k : Nat) : Int) : Int) < (((l.length : Nat) : Int) : Int)))), (39, Value.tuple #[Value.bool false, Value.int .i64 2]), (40, Value.pointer (some ⟨n9, 0, none⟩)), (41, Value.slice (some ⟨b28, o29, none⟩) l.length c_l), (42, Value.int .i64 ((k : Nat) : Int)), (43, Value.pointer (some ⟨b28, o29 + k * 10, none⟩)), (44, Value.agg #[Value.int .i64 y.at_, Value.int .u32 y.addr, Value.int .i64 y.e.g, Value.int .i64 y.e.s.f, Value.int .i64 y.e.s.pc, Value.int .i64 y.e.k, Value.int .i64 y.l.g, Value.int .i64 y.l.s.f, Value.int .i64 y.l.s.pc, Value.int .i64 y.l.k]), (45, Value.tuple #[Value.bool false, Value.int .i64 2]), (46, Value.bool false), (47, Value.int .i64 2), (48, Value.int .i64 2), (49, Value.int .i64 (2)), (50, Value.bool (((2) : Int) == (0 : Int)))] ac_ ∧ Ws w No [Cel b12 #[Value.int .i64 (5), Value.slice Ao1r10_5 (g0r10_5).length co1r10_5, Value.slice Ao2r10_5 (g1r10_5).length co2r10_5] 29, TabR n9 n10 n11 A c T, Cel b3 #[Value.bool false] 4, Cel b1 #[Value.int .i64 two.a.at_, Value.int .u32 two.a.addr, Value.int .i64 two.a.e.g, Value.int .i64 two.a.e.s.f, Value.int .i64 two.a.e.s.pc, Value.int .i64 two.a.e.k, Value.int .i64 two.a.l.g, Value.int .i64 two.a.l.s.f, Value.int .i64 two.a.l.s.pc, Value.int .i64 two.a.l.k, Value.int .i64 two.b.at_, Value.int .u32 two.b.addr, Value.int .i64 two.b.e.g, Value.int .i64 two.b.e.s.f, Value.int .i64 two.b.e.s.pc, Value.int .i64 two.b.e.k, Value.int .i64 two.b.l.g, Value.int .i64 two.b.l.s.f, Value.int .i64 two.b.l.s.pc, Value.int .i64 two.b.l.k] 55] [roR Ao2r10_5 4 enPair g1r10_5, roR Ao1r10_5 10 enFlag g0r10_5, roR A1 10 enFlag Lk, roR A2 4 enPair Pk, roR (some ⟨b28, o29, none⟩) 10 enFlag l] wl_) ?_ ?_
                 · refine sr_regionF (m := 10) (C := Ws w No [Cel b12 #[Value.int .i64 5, Value.slice A1 Lk.length c1, Value.slice A2 Pk.length c2] 29, TabR n9 n10 n11 A c T, Cel b3 #[Value.bool false] 4, Cel b1 #[Value.int .i64 two.a.at_, Value.int .u32 two.a.addr, Value.int .i64 two.a.e.g, Value.int .i64 two.a.e.s.f, Value.int .i64 two.a.e.s.pc, Value.int .i64 two.a.e.k, Value.int .i64 two.a.l.g, Value.int .i64 two.a.l.s.f, Value.int .i64 two.a.l.s.pc, Value.int .i64 two.a.l.k, Value.int .i64 two.b.at_, Value.int .u32 two.b.addr, Value.int .i64 two.b.e.g, Value.int .i64 two.b.e.s.f, Value.int .i64 two.b.e.s.pc, Value.int .i64 two.b.e.k, Value.int .i64 two.b.l.g, Value.int .i64 two.b.l.s.f, Value.int .i64 two.b.l.s.pc, Value.int .i64 two.b.l.k] 55] [roR A1 10 enFlag Lk, roR A2 4 enPair Pk, roR (some ⟨b28, o29, none⟩) 10 enFlag l]) (fun i => [0, 4].contains i) (fun i => [0, 4].contains i) (fun i => [1, 2, 3, 6, 7, 8].contains i) (by kernel_rfl) (by kernel_rfl) (by kernel_rfl) (by kernel_rfl) (by kernel_rfl) (fun _ _ h => h) hW ?_; clear hW; intro w32 hW hfw32 hR; have hC : Ws w No [Cel b12 #[Value.int .i64 5, Value.slice A1 Lk.length c1, Value.slice A2 Pk.length c2] 29, TabR n9 n10 n11 A c T, Cel b3 #[Value.bool false] 4, Cel b1 #[Value.int .i64 two.a.at_, Value.int .u32 two.a.addr, Value.int .i64 two.a.e.g, Value.int .i64 two.a.e.s.f, Value.int .i64 two.a.e.s.pc, Value.int .i64 two.a.e.k, Value.int .i64 two.a.l.g, Value.int .i64 two.a.l.s.f, Value.int .i64 two.a.l.s.pc, Value.int .i64 two.a.l.k, Value.int .i64 two.b.at_, Value.int .u32 two.b.addr, Value.int .i64 two.b.e.g, Value.int .i64 two.b.e.s.f, Value.int .i64 two.b.e.s.pc, Value.int .i64 two.b.e.k, Value.int .i64 two.b.l.g, Value.int .i64 two.b.l.s.f, Value.int .i64 two.b.l.s.pc, Value.int .i64 two.b.l.k] 55] [roR A1 10 enFlag Lk, roR A2 4 enPair Pk, roR (some ⟨b28, o29, none⟩) 10 enFlag l] w32 := hW.pick [0, 1, 2, 3] (by decide) rfl
                   refine sr_take (i := 0) (v := Value.agg #[Value.int .i64 5, Value.slice A1 Lk.length c1, Value.slice A2 Pk.length c2]) hR (by kernel_rfl) rfl (by kernel_rfl) (by kernel_rfl) (by kernel_rfl) (fun _ _ _ h => h.elim) hA (by kernel_rfl) (by kernel_rfl) (by kernel_rfl) hC (Rd.load (b := b12) (i := 0) (by kernel_rfl) (fun _ hw => (hw).cel 0 rfl) (by kernel_rfl)) ?_; clear hA ac; intro ac hA
                   refine sr_pure (i := 1) (v := Value.slice (some ⟨b28, o29, none⟩) l.length c_l) hR (by kernel_rfl) rfl (by kernel_rfl) (by kernel_rfl) (fun _ _ _ h => h.elim) hA (by kernel_rfl) (by kernel_rfl) (by kernel_rfl) (Rd.pure fun _ => by kernel_rfl) ?_; clear hA ac; intro ac hA
                   refine sr_pure (i := 2) (v := Value.int .i64 ((k : Nat) : Int)) hR (by kernel_rfl) rfl (by kernel_rfl) (by kernel_rfl) (fun _ _ _ h => h.elim) hA (by kernel_rfl) (by kernel_rfl) (by kernel_rfl) (Rd.pure fun _ => by kernel_rfl) ?_; clear hA ac; intro ac hA
                   refine sr_pure (i := 3) (v := Value.pointer (some ⟨b28, o29 + k * 10, none⟩)) hR (by kernel_rfl) rfl (by kernel_rfl) (by kernel_rfl) (fun _ _ _ h => h.elim) hA (by kernel_rfl) (by kernel_rfl) (by kernel_rfl) (Rd.indexAddr (e := 43) (sz := 10) (b := b28) (off := o29) (n := l.length) (c := c_l) (k := k) (by kernel_rfl) (by kernel_rfl) (by first | omega | (simp; done) | (simp; omega)) (fun _ => by kernel_rfl) (fun _ => by kernel_rfl)) ?_; clear hA ac; intro ac hA
                   refine sr_take (i := 4) (v := Value.agg #[Value.int .i64 y.at_, Value.int .u32 y.addr, Value.int .i64 y.e.g, Value.int .i64 y.e.s.f, Value.int .i64 y.e.s.pc, Value.int .i64 y.e.k, Value.int .i64 y.l.g, Value.int .i64 y.l.s.f, Value.int .i64 y.l.s.pc, Value.int .i64 y.l.k]) hR (by kernel_rfl) rfl (by kernel_rfl) (by kernel_rfl) (by kernel_rfl) (fun _ _ _ h => h.elim) hA (by kernel_rfl) (by kernel_rfl) (by kernel_rfl) hC (Rd.loadRow (b := b28) (i := o29 + k * 10) (xs := [Value.int .i64 y.at_, Value.int .u32 y.addr, Value.int .i64 y.e.g, Value.int .i64 y.e.s.f, Value.int .i64 y.e.s.pc, Value.int .i64 y.e.k, Value.int .i64 y.l.g, Value.int .i64 y.l.s.f, Value.int .i64 y.l.s.pc, Value.int .i64 y.l.k]) (by kernel_rfl) (fun _ hw => row_ld ((hw).getG 2 rfl) hy (Fr.refl No _) (fun h => h) 0 10 (by kernel_rfl)) (by kernel_rfl)) ?_; clear hA ac; intro ac hA
                   refine sr_one (i := 5) (by kernel_rfl) (sr_do rfl hA (by kernel_rfl) (by kernel_rfl) (by kernel_rfl) (Runs.call (fun _ => by kernel_rfl) (e_take27 (5) A1 c1 Lk A2 c2 Pk y w32 ((hW).getG 0 rfl) (by first | assumption | omega | (simp; omega) | simp) ((hW).getG 1 rfl) (by first | assumption | omega | (simp; omega) | simp) (by first | omega | exact ⟨by omega, by omega⟩ | exact hK.nd | exact hK.ok | exact hG5 | exact hG7 | assumption | simp) (by first | omega | exact ⟨by omega, by omega⟩ | exact hK.nd | exact hK.ok | exact hG5 | exact hG7 | assumption | simp)) ?_))
                   rintro _ w33 ⟨g0r10_5, g1r10_5, g2r10_5, Ao1r10_5, co1r10_5, Ao2r10_5, co2r10_5, rfl, hr10_5_hT, hcco1r10_5, hcco2r10_5, hfco1r10_5, hfco2r10_5, hfw33⟩; refine ⟨_, rfl, ?_⟩; have hW0 := hW; have hW := hW0.call hfw33
                   have hW := hW0.addFromAt hW hfco1r10_5 (in_cons (in_at 0 rfl) (in_cons (in_at 1 rfl) in_nil))
                   have hW := hW0.addFromAt hW hfco2r10_5 (in_cons (in_at 0 rfl) (in_cons (in_at 1 rfl) in_nil))
                   clear hW0 hA ac; intro ac hA
                   refine ⟨⟨fun h => absurd h (by decide), fun h => absurd h (by decide)⟩, ?_⟩
                   refine sr_pure (i := 6) (v := Value.tuple #[Value.agg #[Value.int .i64 (5), Value.slice Ao1r10_5 (g0r10_5).length co1r10_5, Value.slice Ao2r10_5 (g1r10_5).length co2r10_5], Value.bool g2r10_5]) hR (by kernel_rfl) rfl (by kernel_rfl) (by kernel_rfl) (fun _ _ _ h => h.elim) hA (by kernel_rfl) (by kernel_rfl) (by kernel_rfl) (Rd.pure fun _ => by kernel_rfl) ?_; clear hA ac; intro ac hA
                   refine sr_pure (i := 7) (v := Value.agg #[Value.int .i64 (5), Value.slice Ao1r10_5 (g0r10_5).length co1r10_5, Value.slice Ao2r10_5 (g1r10_5).length co2r10_5]) hR (by kernel_rfl) rfl (by kernel_rfl) (by kernel_rfl) (fun _ _ _ h => h.elim) hA (by kernel_rfl) (by kernel_rfl) (by kernel_rfl) (Rd.pure fun _ => by kernel_rfl) ?_; clear hA ac; intro ac hA
                   refine sr_pure (i := 8) (v := Value.bool g2r10_5) hR (by kernel_rfl) rfl (by kernel_rfl) (by kernel_rfl) (fun _ _ _ h => h.elim) hA (by kernel_rfl) (by kernel_rfl) (by kernel_rfl) (Rd.pure fun _ => by kernel_rfl) ?_; clear hA ac; intro ac hA
                   refine sr_one (i := 9) (by kernel_rfl) (sr_do rfl hA (by kernel_rfl) (by kernel_rfl) (by kernel_rfl) (Runs.store (v := Value.agg #[Value.int .i64 (5), Value.slice Ao1r10_5 (g0r10_5).length co1r10_5, Value.slice Ao2r10_5 (g1r10_5).length co2r10_5]) (b := b12) (j := 0) (n := 3) (cs' := #[Value.int .i64 (5), Value.slice Ao1r10_5 (g0r10_5).length co1r10_5, Value.slice Ao2r10_5 (g1r10_5).length co2r10_5]) (H' := [Cel b12 #[Value.int .i64 (5), Value.slice Ao1r10_5 (g0r10_5).length co1r10_5, Value.slice Ao2r10_5 (g1r10_5).length co2r10_5] 29, TabR n9 n10 n11 A c T, Cel b3 #[Value.bool false] 4, Cel b1 #[Value.int .i64 two.a.at_, Value.int .u32 two.a.addr, Value.int .i64 two.a.e.g, Value.int .i64 two.a.e.s.f, Value.int .i64 two.a.e.s.pc, Value.int .i64 two.a.e.k, Value.int .i64 two.a.l.g, Value.int .i64 two.a.l.s.f, Value.int .i64 two.a.l.s.pc, Value.int .i64 two.a.l.k, Value.int .i64 two.b.at_, Value.int .u32 two.b.addr, Value.int .i64 two.b.e.g, Value.int .i64 two.b.e.s.f, Value.int .i64 two.b.e.s.pc, Value.int .i64 two.b.e.k, Value.int .i64 two.b.l.g, Value.int .i64 two.b.l.s.f, Value.int .i64 two.b.l.s.pc, Value.int .i64 two.b.l.k] 55]) (by kernel_rfl) (by kernel_rfl) (by kernel_rfl) (by kernel_rfl) (by kernel_rfl) hW 0 (by rfl) (Nat.le_of_ble_eq_true (by kernel_rfl)) (by kernel_rfl) (by rfl) ?_)); clear hA ac hW; intro w34 hW ac hA
                   refine ⟨⟨fun h => absurd h (by decide), fun h => absurd h (by decide)⟩, ?_⟩
                   refine sr_done (by kernel_rfl) ?_ _
                   exact ⟨Ao1r10_5, Ao2r10_5, co1r10_5, co2r10_5, g0r10_5, g1r10_5, g2r10_5, hcco1r10_5, hcco2r10_5, hr10_5_hT, hA.sub ⟨⟨by kernel_rfl, by kernel_rfl⟩, ⟨by kernel_rfl, by kernel_rfl⟩, ⟨by kernel_rfl, by kernel_rfl⟩, ⟨by kernel_rfl, by kernel_rfl⟩, ⟨by kernel_rfl, by kernel_rfl⟩, ⟨by kernel_rfl, by kernel_rfl⟩, ⟨by kernel_rfl, by kernel_rfl⟩, ⟨by kernel_rfl, by kernel_rfl⟩, ⟨by kernel_rfl, by kernel_rfl⟩, ⟨by kernel_rfl, by kernel_rfl⟩, ⟨by kernel_rfl, by kernel_rfl⟩, ⟨by kernel_rfl, by kernel_rfl⟩, ⟨by kernel_rfl, by kernel_rfl⟩, ⟨by kernel_rfl, by kernel_rfl⟩, ⟨by kernel_rfl, by kernel_rfl⟩, ⟨by kernel_rfl, by kernel_rfl⟩, ⟨by kernel_rfl, by kernel_rfl⟩, ⟨by kernel_rfl, by kernel_rfl⟩, ⟨by kernel_rfl, by kernel_rfl⟩, ⟨by kernel_rfl, by kernel_rfl⟩, ⟨by kernel_rfl, by kernel_rfl⟩, ⟨by kernel_rfl, by kernel_rfl⟩, ⟨by kernel_rfl, by kernel_rfl⟩, ⟨by kernel_rfl, by kernel_rfl⟩, ⟨by kernel_rfl, by kernel_rfl⟩, trivial⟩, (hW.pick [0, 1, 2, 3] (by decide) rfl).pickG [0, 1, 2, 3, 4] rfl⟩
                 clear hA ac hW; rintro ac w35 ⟨Ao1r10_5, Ao2r10_5, co1r10_5, co2r10_5, g0r10_5, g1r10_5, g2r10_5, hcco1r10_5, hcco2r10_5, hr10_5_hT, hA, hW⟩
                 refine blkN ?_
                 refine thenN ?_
                 obtain ⟨hG2, hr2⟩ := hG.takes hr10_5_hT; have hl2 := RT.Takes.len hr10_5_hT; simp only at hl2
                 refine wpIn_region_lit ?_
                 refine st_rdF (v := Value.int .i64 ((k : Nat) : Int)) hA (by kernel_rfl) (by kernel_rfl) (by kernel_rfl) (by kernel_rfl) hW.cls (Rd.pure fun _ => by kernel_rfl) ?_; clear hA ac; intro ac hA
                 refine st_rdF (v := Value.int .i64 ((k + 1 : Nat) : Int)) hA (by kernel_rfl) (by kernel_rfl) (by kernel_rfl) (by kernel_rfl) hW.cls (Rd.pureE (v0 := Value.int .i64 (IntKind.i64.wrap ((((k : Nat) : Int) : Int) + 1))) (fun _ => by kernel_rfl) (congrArg (Value.int .i64) ((w_i64 (x := (((k : Nat) : Int) : Int) + 1) (by omega) (by omega)).trans (by omega)))) ?_; clear hA ac; intro ac hA
                 refine st_rdF (v := Value.int .i64 ((k + 1 : Nat) : Int)) hA (by kernel_rfl) (by kernel_rfl) (by kernel_rfl) (by kernel_rfl) hW.cls (Rd.pure fun _ => by kernel_rfl) ?_; clear hA ac; intro ac hA
                 refine wpListIn_nil ?_
                 refine thenN ?_
                 exact ⟨l.length - (k + 1), by omega, k + 1, A, c, T, g0r10_5, g1r10_5, Ao1r10_5, co1r10_5, Ao2r10_5, co2r10_5, rfl, by omega, by exact hG, by exact hK.up, by omega, by omega, by exact hcc1, by exact hcc2, hA.sub ⟨⟨by kernel_rfl, by kernel_rfl⟩, ⟨by kernel_rfl, by kernel_rfl⟩, ⟨by kernel_rfl, by kernel_rfl⟩, ⟨by kernel_rfl, by kernel_rfl⟩, ⟨by kernel_rfl, by kernel_rfl⟩, ⟨by kernel_rfl, by kernel_rfl⟩, ⟨by kernel_rfl, by kernel_rfl⟩, ⟨by kernel_rfl, by kernel_rfl⟩, trivial⟩, (hW.pick [0, 1, 2, 3] (by decide) rfl).pickG [1, 0, 4] rfl⟩)
             · skip
               have h31 := ne_of_beq_false h31
               first
               | (exfalso; clear hA hW; omega)
               | (exfalso; clear hA hW; rw [h17] at h31; exact absurd rfl h31; done)
               | (exfalso; clear hA hW; rw [h17] at h31; cases h31; done)
               | (
                 refine wpIn_skip ?_
                 refine blkN ?_
                 refine thenN ?_
                 refine wpIn_region_lit ?_
                 refine st_rdF (v := Value.int .i64 ((k : Nat) : Int)) hA (by kernel_rfl) (by kernel_rfl) (by kernel_rfl) (by kernel_rfl) hW.cls (Rd.pure fun _ => by kernel_rfl) ?_; clear hA ac; intro ac hA
                 refine st_rdF (v := Value.int .i64 ((k + 1 : Nat) : Int)) hA (by kernel_rfl) (by kernel_rfl) (by kernel_rfl) (by kernel_rfl) hW.cls (Rd.pureE (v0 := Value.int .i64 (IntKind.i64.wrap ((((k : Nat) : Int) : Int) + 1))) (fun _ => by kernel_rfl) (congrArg (Value.int .i64) ((w_i64 (x := (((k : Nat) : Int) : Int) + 1) (by omega) (by omega)).trans (by omega)))) ?_; clear hA ac; intro ac hA
                 refine st_rdF (v := Value.int .i64 ((k + 1 : Nat) : Int)) hA (by kernel_rfl) (by kernel_rfl) (by kernel_rfl) (by kernel_rfl) hW.cls (Rd.pure fun _ => by kernel_rfl) ?_; clear hA ac; intro ac hA
                 refine wpListIn_nil ?_
                 refine thenN ?_
                 exact ⟨l.length - (k + 1), by omega, k + 1, A, c, T, Lk, Pk, A1, c1, A2, c2, rfl, by omega, by exact hG, by exact hK.up, by omega, by omega, by exact hcc1, by exact hcc2, hA.sub ⟨⟨by kernel_rfl, by kernel_rfl⟩, ⟨by kernel_rfl, by kernel_rfl⟩, ⟨by kernel_rfl, by kernel_rfl⟩, ⟨by kernel_rfl, by kernel_rfl⟩, ⟨by kernel_rfl, by kernel_rfl⟩, ⟨by kernel_rfl, by kernel_rfl⟩, ⟨by kernel_rfl, by kernel_rfl⟩, ⟨by kernel_rfl, by kernel_rfl⟩, trivial⟩, (hW.pick [0, 1, 2, 3] (by decide) rfl).pickG [0, 1, 2] rfl⟩)))
     · skip
       have h16 := of_decide_eq_false h16
       first
       | (exfalso; clear hA hW; omega)
       | (
         refine wpIn_exit ?_
         refine thenX ?_
         refine thenX ?_
         refine blkX ?_
         refine thenN ?_
         refine wpIn_seq ?_
         have hb1 := hK.mlen; have hb2 := hK.fine.len
         refine wpIn_region_lit ?_
         refine st_rdF (v := Value.pointer (some ⟨n9, 0, none⟩)) hA (by kernel_rfl) (by kernel_rfl) (by kernel_rfl) (by kernel_rfl) hW.cls (Rd.pure fun _ => by kernel_rfl) ?_; clear hA ac; intro ac hA
         refine stF hA (by kernel_rfl) (by kernel_rfl) (by kernel_rfl) (by kernel_rfl) (RunsF.of (Runs.call (fun _ => by kernel_rfl) (e_tcopy n9 n10 n11 A c T w15 ((hW).get 1 rfl) ((hW).lt _ (List.mem_of_getElem? (i := 1) rfl)) (by first | omega | exact ⟨by omega, by omega⟩ | exact hK.nd | exact hK.ok | exact hG5 | exact hG7 | assumption | simp) (by first | omega | exact ⟨by omega, by omega⟩ | exact hK.nd | exact hK.ok | exact hG5 | exact hG7 | assumption | simp) (by first | omega | exact ⟨by omega, by omega⟩ | exact hK.nd | exact hK.ok | exact hG5 | exact hG7 | assumption | simp)) ?_))
         rintro _ w36 ⟨n37, n38, n39, n40, n41, n42, rfl, hw36_hk, hu_⟩; refine ⟨_, rfl, ?_⟩; replace hW := hW.made hu_; clear hA ac; intro ac hA
         refine st_rdF (v := Value.pointer (some ⟨n37, 0, none⟩)) hA (by kernel_rfl) (by kernel_rfl) (by kernel_rfl) (by kernel_rfl) hW.cls (Rd.pure fun _ => by kernel_rfl) ?_; clear hA ac; intro ac hA
         refine wpListIn_nil ?_
         refine thenN ?_
         refine wpIn_seq ?_
         have hK2 := hK.copy hw36_hk; have hGc := hG.copy hK hw36_hk
         refine wpIn_cut (fun ac_ wl_ => ∃ br12_2 : Nat, ∃ br12_3 : Nat, Fm 157 [] [(0, Value.slice A_l l.length c_l), (2, Value.bool zero), (4, Value.pointer (some ⟨b1, 0, none⟩)), (6, Value.pointer (some ⟨b3, 0, none⟩)), (7, Value.pointer (some ⟨n9, 0, none⟩)), (8, Value.int .i64 0), (9, Value.pointer (some ⟨b12, 0, none⟩)), (10, Value.int .i64 ((k : Nat) : Int)), (13, Value.pointer (some ⟨n37, 0, none⟩)), (14, Value.pointer (some ⟨br12_2, 0, none⟩)), (15, Value.pointer (some ⟨br12_3, 0, none⟩)), (33, Value.int .i64 ((k : Nat) : Int)), (34, Value.slice A_l l.length c_l), (35, Value.int .i64 ((l.length : Nat) : Int)), (36, Value.bool (decide ((((k : Nat) : Int) : Int) < (((l.length : Nat) : Int) : Int)))), (60, Value.pointer (some ⟨n9, 0, none⟩)), (61, Value.pointer (some ⟨n37, 0, none⟩))] ac_ ∧ Ws w No [Cel br12_3 #[Value.int .i64 5, Value.slice A1 Lk.length c1, Value.slice A2 Pk.length c2] 29, Cel br12_2 #[Value.int .i64 5, Value.slice A1 Lk.length c1, Value.slice A2 Pk.length c2] 29, TabR n37 n38 n39 n40 n41 (⟨T.most, T.dropped, ones n42, T.l⟩), Cel b12 #[Value.int .i64 5, Value.slice A1 Lk.length c1, Value.slice A2 Pk.length c2] 29, TabR n9 n10 n11 A c T, Cel b3 #[Value.bool false] 4, Cel b1 #[Value.int .i64 two.a.at_, Value.int .u32 two.a.addr, Value.int .i64 two.a.e.g, Value.int .i64 two.a.e.s.f, Value.int .i64 two.a.e.s.pc, Value.int .i64 two.a.e.k, Value.int .i64 two.a.l.g, Value.int .i64 two.a.l.s.f, Value.int .i64 two.a.l.s.pc, Value.int .i64 two.a.l.k, Value.int .i64 two.b.at_, Value.int .u32 two.b.addr, Value.int .i64 two.b.e.g, Value.int .i64 two.b.e.s.f, Value.int .i64 two.b.e.s.pc, Value.int .i64 two.b.e.k, Value.int .i64 two.b.l.g, Value.int .i64 two.b.l.s.f, Value.int .i64 two.b.l.s.pc, Value.int .i64 two.b.l.k] 55] [roR A1 10 enFlag Lk, roR A2 4 enPair Pk, roR A_l 10 enFlag l] wl_) ?_ ?_
         · refine sr_regionF (m := 6) (C := Ws w No [TabR n37 n38 n39 n40 n41 (⟨T.most, T.dropped, ones n42, T.l⟩), Cel b12 #[Value.int .i64 5, Value.slice A1 Lk.length c1, Value.slice A2 Pk.length c2] 29, TabR n9 n10 n11 A c T, Cel b3 #[Value.bool false] 4, Cel b1 #[Value.int .i64 two.a.at_, Value.int .u32 two.a.addr, Value.int .i64 two.a.e.g, Value.int .i64 two.a.e.s.f, Value.int .i64 two.a.e.s.pc, Value.int .i64 two.a.e.k, Value.int .i64 two.a.l.g, Value.int .i64 two.a.l.s.f, Value.int .i64 two.a.l.s.pc, Value.int .i64 two.a.l.k, Value.int .i64 two.b.at_, Value.int .u32 two.b.addr, Value.int .i64 two.b.e.g, Value.int .i64 two.b.e.s.f, Value.int .i64 two.b.e.s.pc, Value.int .i64 two.b.e.k, Value.int .i64 two.b.l.g, Value.int .i64 two.b.l.s.f, Value.int .i64 two.b.l.s.pc, Value.int .i64 two.b.l.k] 55] [roR A1 10 enFlag Lk, roR A2 4 enPair Pk, roR A_l 10 enFlag l]) (fun i => [0, 1].contains i) (fun i => [0, 1, 2, 3, 4].contains i) (fun i => [].contains i) (by kernel_rfl) (by kernel_rfl) (by kernel_rfl) (by kernel_rfl) (by kernel_rfl) (fun _ _ h => h) hW ?_; clear hW; intro w43 hW hfw43 hR; have hC : Ws w No [TabR n37 n38 n39 n40 n41 (⟨T.most, T.dropped, ones n42, T.l⟩), Cel b12 #[Value.int .i64 5, Value.slice A1 Lk.length c1, Value.slice A2 Pk.length c2] 29, TabR n9 n10 n11 A c T, Cel b3 #[Value.bool false] 4, Cel b1 #[Value.int .i64 two.a.at_, Value.int .u32 two.a.addr, Value.int .i64 two.a.e.g, Value.int .i64 two.a.e.s.f, Value.int .i64 two.a.e.s.pc, Value.int .i64 two.a.e.k, Value.int .i64 two.a.l.g, Value.int .i64 two.a.l.s.f, Value.int .i64 two.a.l.s.pc, Value.int .i64 two.a.l.k, Value.int .i64 two.b.at_, Value.int .u32 two.b.addr, Value.int .i64 two.b.e.g, Value.int .i64 two.b.e.s.f, Value.int .i64 two.b.e.s.pc, Value.int .i64 two.b.e.k, Value.int .i64 two.b.l.g, Value.int .i64 two.b.l.s.f, Value.int .i64 two.b.l.s.pc, Value.int .i64 two.b.l.k] 55] [roR A1 10 enFlag Lk, roR A2 4 enPair Pk, roR A_l 10 enFlag l] w43 := hW.pick [0, 1, 2, 3, 4] (by decide) rfl
           refine sr_take (i := 0) (v := Value.agg #[Value.int .i64 5, Value.slice A1 Lk.length c1, Value.slice A2 Pk.length c2]) hR (by kernel_rfl) rfl (by kernel_rfl) (by kernel_rfl) (by kernel_rfl) (fun _ _ _ h => h.elim) hA (by kernel_rfl) (by kernel_rfl) (by kernel_rfl) hC (Rd.load (b := b12) (i := 0) (by kernel_rfl) (fun _ hw => (hw).cel 1 rfl) (by kernel_rfl)) ?_; clear hA ac; intro ac hA
           refine sr_take (i := 1) (v := Value.agg #[Value.int .i64 5, Value.slice A1 Lk.length c1, Value.slice A2 Pk.length c2]) hR (by kernel_rfl) rfl (by kernel_rfl) (by kernel_rfl) (by kernel_rfl) (fun _ _ _ h => h.elim) hA (by kernel_rfl) (by kernel_rfl) (by kernel_rfl) hC (Rd.load (b := b12) (i := 0) (by kernel_rfl) (fun _ hw => (hw).cel 1 rfl) (by kernel_rfl)) ?_; clear hA ac; intro ac hA
           refine sr_two (i := 2) (j := 3) (by kernel_rfl) ?_ ?_
           · skip
             refine (sr_do rfl hA (by kernel_rfl) (by kernel_rfl) (by kernel_rfl) (Runs.cells (fun b => Value.pointer (some ⟨b, 0, none⟩)) #[Value.int .i64 0, Value.slice none 0 0, Value.slice none 0 0] 29 (fun _ => by kernel_rfl) hW ?_)); clear hA ac hW; intro br12_2 w44 hW hbr12_2 hfw44 ac hA
             refine ⟨⟨fun _ => (hW.pick [1, 2, 3, 4, 5] (by decide) rfl).pickG [0, 1, 2] rfl, fun h => absurd h (by decide)⟩, ?_⟩; have hC : Ws w No [TabR n37 n38 n39 n40 n41 (⟨T.most, T.dropped, ones n42, T.l⟩), Cel b12 #[Value.int .i64 5, Value.slice A1 Lk.length c1, Value.slice A2 Pk.length c2] 29, TabR n9 n10 n11 A c T, Cel b3 #[Value.bool false] 4, Cel b1 #[Value.int .i64 two.a.at_, Value.int .u32 two.a.addr, Value.int .i64 two.a.e.g, Value.int .i64 two.a.e.s.f, Value.int .i64 two.a.e.s.pc, Value.int .i64 two.a.e.k, Value.int .i64 two.a.l.g, Value.int .i64 two.a.l.s.f, Value.int .i64 two.a.l.s.pc, Value.int .i64 two.a.l.k, Value.int .i64 two.b.at_, Value.int .u32 two.b.addr, Value.int .i64 two.b.e.g, Value.int .i64 two.b.e.s.f, Value.int .i64 two.b.e.s.pc, Value.int .i64 two.b.e.k, Value.int .i64 two.b.l.g, Value.int .i64 two.b.l.s.f, Value.int .i64 two.b.l.s.pc, Value.int .i64 two.b.l.k] 55] [roR A1 10 enFlag Lk, roR A2 4 enPair Pk, roR A_l 10 enFlag l] w44 := (hW.pick [1, 2, 3, 4, 5] (by decide) rfl).pickG [0, 1, 2] rfl
             refine sr_one (i := 3) (by kernel_rfl) (sr_do rfl hA (by kernel_rfl) (by kernel_rfl) (by kernel_rfl) (Runs.cells (fun b => Value.pointer (some ⟨b, 0, none⟩)) #[Value.int .i64 0, Value.slice none 0 0, Value.slice none 0 0] 29 (fun _ => by kernel_rfl) hW ?_)); clear hA ac hW; intro br12_3 w45 hW hbr12_3 hfw45 ac hA
             refine ⟨⟨fun _ => (hW.pick [2, 3, 4, 5, 6] (by decide) rfl).pickG [0, 1, 2] rfl, fun h => absurd h (by decide)⟩, ?_⟩; have hC : Ws w No [TabR n37 n38 n39 n40 n41 (⟨T.most, T.dropped, ones n42, T.l⟩), Cel b12 #[Value.int .i64 5, Value.slice A1 Lk.length c1, Value.slice A2 Pk.length c2] 29, TabR n9 n10 n11 A c T, Cel b3 #[Value.bool false] 4, Cel b1 #[Value.int .i64 two.a.at_, Value.int .u32 two.a.addr, Value.int .i64 two.a.e.g, Value.int .i64 two.a.e.s.f, Value.int .i64 two.a.e.s.pc, Value.int .i64 two.a.e.k, Value.int .i64 two.a.l.g, Value.int .i64 two.a.l.s.f, Value.int .i64 two.a.l.s.pc, Value.int .i64 two.a.l.k, Value.int .i64 two.b.at_, Value.int .u32 two.b.addr, Value.int .i64 two.b.e.g, Value.int .i64 two.b.e.s.f, Value.int .i64 two.b.e.s.pc, Value.int .i64 two.b.e.k, Value.int .i64 two.b.l.g, Value.int .i64 two.b.l.s.f, Value.int .i64 two.b.l.s.pc, Value.int .i64 two.b.l.k] 55] [roR A1 10 enFlag Lk, roR A2 4 enPair Pk, roR A_l 10 enFlag l] w45 := (hW.pick [2, 3, 4, 5, 6] (by decide) rfl).pickG [0, 1, 2] rfl
             refine sr_one (i := 4) (by kernel_rfl) (sr_do rfl hA (by kernel_rfl) (by kernel_rfl) (by kernel_rfl) (Runs.store (v := Value.agg #[Value.int .i64 5, Value.slice A1 Lk.length c1, Value.slice A2 Pk.length c2]) (b := br12_2) (j := 0) (n := 3) (cs' := #[Value.int .i64 5, Value.slice A1 Lk.length c1, Value.slice A2 Pk.length c2]) (H' := [Cel br12_3 #[Value.int .i64 0, Value.slice none 0 0, Value.slice none 0 0] 29, Cel br12_2 #[Value.int .i64 5, Value.slice A1 Lk.length c1, Value.slice A2 Pk.length c2] 29, TabR n37 n38 n39 n40 n41 (⟨T.most, T.dropped, ones n42, T.l⟩), Cel b12 #[Value.int .i64 5, Value.slice A1 Lk.length c1, Value.slice A2 Pk.length c2] 29, TabR n9 n10 n11 A c T, Cel b3 #[Value.bool false] 4, Cel b1 #[Value.int .i64 two.a.at_, Value.int .u32 two.a.addr, Value.int .i64 two.a.e.g, Value.int .i64 two.a.e.s.f, Value.int .i64 two.a.e.s.pc, Value.int .i64 two.a.e.k, Value.int .i64 two.a.l.g, Value.int .i64 two.a.l.s.f, Value.int .i64 two.a.l.s.pc, Value.int .i64 two.a.l.k, Value.int .i64 two.b.at_, Value.int .u32 two.b.addr, Value.int .i64 two.b.e.g, Value.int .i64 two.b.e.s.f, Value.int .i64 two.b.e.s.pc, Value.int .i64 two.b.e.k, Value.int .i64 two.b.l.g, Value.int .i64 two.b.l.s.f, Value.int .i64 two.b.l.s.pc, Value.int .i64 two.b.l.k] 55]) (by kernel_rfl) (by kernel_rfl) (by kernel_rfl) (by kernel_rfl) (by kernel_rfl) hW 1 (by rfl) (Nat.le_of_ble_eq_true (by kernel_rfl)) (by kernel_rfl) (by rfl) ?_)); clear hA ac hW; intro w46 hW ac hA
             refine ⟨⟨fun _ => (hW.pick [2, 3, 4, 5, 6] (by decide) rfl).pickG [0, 1, 2] rfl, fun h => absurd h (by decide)⟩, ?_⟩; have hC : Ws w No [TabR n37 n38 n39 n40 n41 (⟨T.most, T.dropped, ones n42, T.l⟩), Cel b12 #[Value.int .i64 5, Value.slice A1 Lk.length c1, Value.slice A2 Pk.length c2] 29, TabR n9 n10 n11 A c T, Cel b3 #[Value.bool false] 4, Cel b1 #[Value.int .i64 two.a.at_, Value.int .u32 two.a.addr, Value.int .i64 two.a.e.g, Value.int .i64 two.a.e.s.f, Value.int .i64 two.a.e.s.pc, Value.int .i64 two.a.e.k, Value.int .i64 two.a.l.g, Value.int .i64 two.a.l.s.f, Value.int .i64 two.a.l.s.pc, Value.int .i64 two.a.l.k, Value.int .i64 two.b.at_, Value.int .u32 two.b.addr, Value.int .i64 two.b.e.g, Value.int .i64 two.b.e.s.f, Value.int .i64 two.b.e.s.pc, Value.int .i64 two.b.e.k, Value.int .i64 two.b.l.g, Value.int .i64 two.b.l.s.f, Value.int .i64 two.b.l.s.pc, Value.int .i64 two.b.l.k] 55] [roR A1 10 enFlag Lk, roR A2 4 enPair Pk, roR A_l 10 enFlag l] w46 := (hW.pick [2, 3, 4, 5, 6] (by decide) rfl).pickG [0, 1, 2] rfl
             refine sr_one (i := 5) (by kernel_rfl) (sr_do rfl hA (by kernel_rfl) (by kernel_rfl) (by kernel_rfl) (Runs.store (v := Value.agg #[Value.int .i64 5, Value.slice A1 Lk.length c1, Value.slice A2 Pk.length c2]) (b := br12_3) (j := 0) (n := 3) (cs' := #[Value.int .i64 5, Value.slice A1 Lk.length c1, Value.slice A2 Pk.length c2]) (H' := [Cel br12_3 #[Value.int .i64 5, Value.slice A1 Lk.length c1, Value.slice A2 Pk.length c2] 29, Cel br12_2 #[Value.int .i64 5, Value.slice A1 Lk.length c1, Value.slice A2 Pk.length c2] 29, TabR n37 n38 n39 n40 n41 (⟨T.most, T.dropped, ones n42, T.l⟩), Cel b12 #[Value.int .i64 5, Value.slice A1 Lk.length c1, Value.slice A2 Pk.length c2] 29, TabR n9 n10 n11 A c T, Cel b3 #[Value.bool false] 4, Cel b1 #[Value.int .i64 two.a.at_, Value.int .u32 two.a.addr, Value.int .i64 two.a.e.g, Value.int .i64 two.a.e.s.f, Value.int .i64 two.a.e.s.pc, Value.int .i64 two.a.e.k, Value.int .i64 two.a.l.g, Value.int .i64 two.a.l.s.f, Value.int .i64 two.a.l.s.pc, Value.int .i64 two.a.l.k, Value.int .i64 two.b.at_, Value.int .u32 two.b.addr, Value.int .i64 two.b.e.g, Value.int .i64 two.b.e.s.f, Value.int .i64 two.b.e.s.pc, Value.int .i64 two.b.e.k, Value.int .i64 two.b.l.g, Value.int .i64 two.b.l.s.f, Value.int .i64 two.b.l.s.pc, Value.int .i64 two.b.l.k] 55]) (by kernel_rfl) (by kernel_rfl) (by kernel_rfl) (by kernel_rfl) (by kernel_rfl) hW 0 (by rfl) (Nat.le_of_ble_eq_true (by kernel_rfl)) (by kernel_rfl) (by rfl) ?_)); clear hA ac hW; intro w47 hW ac hA
             refine ⟨⟨fun h => absurd h (by decide), fun h => absurd h (by decide)⟩, ?_⟩
             refine sr_done (by kernel_rfl) ?_ _
             exact ⟨br12_2, br12_3, hA.sub ⟨⟨by kernel_rfl, by kernel_rfl⟩, ⟨by kernel_rfl, by kernel_rfl⟩, ⟨by kernel_rfl, by kernel_rfl⟩, ⟨by kernel_rfl, by kernel_rfl⟩, ⟨by kernel_rfl, by kernel_rfl⟩, ⟨by kernel_rfl, by kernel_rfl⟩, ⟨by kernel_rfl, by kernel_rfl⟩, ⟨by kernel_rfl, by kernel_rfl⟩, ⟨by kernel_rfl, by kernel_rfl⟩, ⟨by kernel_rfl, by kernel_rfl⟩, ⟨by kernel_rfl, by kernel_rfl⟩, ⟨by kernel_rfl, by kernel_rfl⟩, ⟨by kernel_rfl, by kernel_rfl⟩, ⟨by kernel_rfl, by kernel_rfl⟩, ⟨by kernel_rfl, by kernel_rfl⟩, ⟨by kernel_rfl, by kernel_rfl⟩, ⟨by kernel_rfl, by kernel_rfl⟩, trivial⟩, (hW.pick [0, 1, 2, 3, 4, 5, 6] (by decide) rfl).pickG [0, 1, 2] rfl⟩
           · skip
             refine (sr_do rfl hA (by kernel_rfl) (by kernel_rfl) (by kernel_rfl) (Runs.cells (fun b => Value.pointer (some ⟨b, 0, none⟩)) #[Value.int .i64 0, Value.slice none 0 0, Value.slice none 0 0] 29 (fun _ => by kernel_rfl) hW ?_)); clear hA ac hW; intro br12_3 w48 hW hbr12_3 hfw48 ac hA
             refine ⟨⟨fun _ => (hW.pick [1, 2, 3, 4, 5] (by decide) rfl).pickG [0, 1, 2] rfl, fun h => absurd h (by decide)⟩, ?_⟩; have hC : Ws w No [TabR n37 n38 n39 n40 n41 (⟨T.most, T.dropped, ones n42, T.l⟩), Cel b12 #[Value.int .i64 5, Value.slice A1 Lk.length c1, Value.slice A2 Pk.length c2] 29, TabR n9 n10 n11 A c T, Cel b3 #[Value.bool false] 4, Cel b1 #[Value.int .i64 two.a.at_, Value.int .u32 two.a.addr, Value.int .i64 two.a.e.g, Value.int .i64 two.a.e.s.f, Value.int .i64 two.a.e.s.pc, Value.int .i64 two.a.e.k, Value.int .i64 two.a.l.g, Value.int .i64 two.a.l.s.f, Value.int .i64 two.a.l.s.pc, Value.int .i64 two.a.l.k, Value.int .i64 two.b.at_, Value.int .u32 two.b.addr, Value.int .i64 two.b.e.g, Value.int .i64 two.b.e.s.f, Value.int .i64 two.b.e.s.pc, Value.int .i64 two.b.e.k, Value.int .i64 two.b.l.g, Value.int .i64 two.b.l.s.f, Value.int .i64 two.b.l.s.pc, Value.int .i64 two.b.l.k] 55] [roR A1 10 enFlag Lk, roR A2 4 enPair Pk, roR A_l 10 enFlag l] w48 := (hW.pick [1, 2, 3, 4, 5] (by decide) rfl).pickG [0, 1, 2] rfl
             refine sr_one (i := 2) (by kernel_rfl) (sr_do rfl hA (by kernel_rfl) (by kernel_rfl) (by kernel_rfl) (Runs.cells (fun b => Value.pointer (some ⟨b, 0, none⟩)) #[Value.int .i64 0, Value.slice none 0 0, Value.slice none 0 0] 29 (fun _ => by kernel_rfl) hW ?_)); clear hA ac hW; intro br12_2 w49 hW hbr12_2 hfw49 ac hA
             refine ⟨⟨fun _ => (hW.pick [2, 3, 4, 5, 6] (by decide) rfl).pickG [0, 1, 2] rfl, fun h => absurd h (by decide)⟩, ?_⟩; have hC : Ws w No [TabR n37 n38 n39 n40 n41 (⟨T.most, T.dropped, ones n42, T.l⟩), Cel b12 #[Value.int .i64 5, Value.slice A1 Lk.length c1, Value.slice A2 Pk.length c2] 29, TabR n9 n10 n11 A c T, Cel b3 #[Value.bool false] 4, Cel b1 #[Value.int .i64 two.a.at_, Value.int .u32 two.a.addr, Value.int .i64 two.a.e.g, Value.int .i64 two.a.e.s.f, Value.int .i64 two.a.e.s.pc, Value.int .i64 two.a.e.k, Value.int .i64 two.a.l.g, Value.int .i64 two.a.l.s.f, Value.int .i64 two.a.l.s.pc, Value.int .i64 two.a.l.k, Value.int .i64 two.b.at_, Value.int .u32 two.b.addr, Value.int .i64 two.b.e.g, Value.int .i64 two.b.e.s.f, Value.int .i64 two.b.e.s.pc, Value.int .i64 two.b.e.k, Value.int .i64 two.b.l.g, Value.int .i64 two.b.l.s.f, Value.int .i64 two.b.l.s.pc, Value.int .i64 two.b.l.k] 55] [roR A1 10 enFlag Lk, roR A2 4 enPair Pk, roR A_l 10 enFlag l] w49 := (hW.pick [2, 3, 4, 5, 6] (by decide) rfl).pickG [0, 1, 2] rfl
             refine sr_one (i := 4) (by kernel_rfl) (sr_do rfl hA (by kernel_rfl) (by kernel_rfl) (by kernel_rfl) (Runs.store (v := Value.agg #[Value.int .i64 5, Value.slice A1 Lk.length c1, Value.slice A2 Pk.length c2]) (b := br12_2) (j := 0) (n := 3) (cs' := #[Value.int .i64 5, Value.slice A1 Lk.length c1, Value.slice A2 Pk.length c2]) (H' := [Cel br12_2 #[Value.int .i64 5, Value.slice A1 Lk.length c1, Value.slice A2 Pk.length c2] 29, Cel br12_3 #[Value.int .i64 0, Value.slice none 0 0, Value.slice none 0 0] 29, TabR n37 n38 n39 n40 n41 (⟨T.most, T.dropped, ones n42, T.l⟩), Cel b12 #[Value.int .i64 5, Value.slice A1 Lk.length c1, Value.slice A2 Pk.length c2] 29, TabR n9 n10 n11 A c T, Cel b3 #[Value.bool false] 4, Cel b1 #[Value.int .i64 two.a.at_, Value.int .u32 two.a.addr, Value.int .i64 two.a.e.g, Value.int .i64 two.a.e.s.f, Value.int .i64 two.a.e.s.pc, Value.int .i64 two.a.e.k, Value.int .i64 two.a.l.g, Value.int .i64 two.a.l.s.f, Value.int .i64 two.a.l.s.pc, Value.int .i64 two.a.l.k, Value.int .i64 two.b.at_, Value.int .u32 two.b.addr, Value.int .i64 two.b.e.g, Value.int .i64 two.b.e.s.f, Value.int .i64 two.b.e.s.pc, Value.int .i64 two.b.e.k, Value.int .i64 two.b.l.g, Value.int .i64 two.b.l.s.f, Value.int .i64 two.b.l.s.pc, Value.int .i64 two.b.l.k] 55]) (by kernel_rfl) (by kernel_rfl) (by kernel_rfl) (by kernel_rfl) (by kernel_rfl) hW 0 (by rfl) (Nat.le_of_ble_eq_true (by kernel_rfl)) (by kernel_rfl) (by rfl) ?_)); clear hA ac hW; intro w50 hW ac hA
             refine ⟨⟨fun _ => (hW.pick [2, 3, 4, 5, 6] (by decide) rfl).pickG [0, 1, 2] rfl, fun h => absurd h (by decide)⟩, ?_⟩; have hC : Ws w No [TabR n37 n38 n39 n40 n41 (⟨T.most, T.dropped, ones n42, T.l⟩), Cel b12 #[Value.int .i64 5, Value.slice A1 Lk.length c1, Value.slice A2 Pk.length c2] 29, TabR n9 n10 n11 A c T, Cel b3 #[Value.bool false] 4, Cel b1 #[Value.int .i64 two.a.at_, Value.int .u32 two.a.addr, Value.int .i64 two.a.e.g, Value.int .i64 two.a.e.s.f, Value.int .i64 two.a.e.s.pc, Value.int .i64 two.a.e.k, Value.int .i64 two.a.l.g, Value.int .i64 two.a.l.s.f, Value.int .i64 two.a.l.s.pc, Value.int .i64 two.a.l.k, Value.int .i64 two.b.at_, Value.int .u32 two.b.addr, Value.int .i64 two.b.e.g, Value.int .i64 two.b.e.s.f, Value.int .i64 two.b.e.s.pc, Value.int .i64 two.b.e.k, Value.int .i64 two.b.l.g, Value.int .i64 two.b.l.s.f, Value.int .i64 two.b.l.s.pc, Value.int .i64 two.b.l.k] 55] [roR A1 10 enFlag Lk, roR A2 4 enPair Pk, roR A_l 10 enFlag l] w50 := (hW.pick [2, 3, 4, 5, 6] (by decide) rfl).pickG [0, 1, 2] rfl
             refine sr_one (i := 5) (by kernel_rfl) (sr_do rfl hA (by kernel_rfl) (by kernel_rfl) (by kernel_rfl) (Runs.store (v := Value.agg #[Value.int .i64 5, Value.slice A1 Lk.length c1, Value.slice A2 Pk.length c2]) (b := br12_3) (j := 0) (n := 3) (cs' := #[Value.int .i64 5, Value.slice A1 Lk.length c1, Value.slice A2 Pk.length c2]) (H' := [Cel br12_2 #[Value.int .i64 5, Value.slice A1 Lk.length c1, Value.slice A2 Pk.length c2] 29, Cel br12_3 #[Value.int .i64 5, Value.slice A1 Lk.length c1, Value.slice A2 Pk.length c2] 29, TabR n37 n38 n39 n40 n41 (⟨T.most, T.dropped, ones n42, T.l⟩), Cel b12 #[Value.int .i64 5, Value.slice A1 Lk.length c1, Value.slice A2 Pk.length c2] 29, TabR n9 n10 n11 A c T, Cel b3 #[Value.bool false] 4, Cel b1 #[Value.int .i64 two.a.at_, Value.int .u32 two.a.addr, Value.int .i64 two.a.e.g, Value.int .i64 two.a.e.s.f, Value.int .i64 two.a.e.s.pc, Value.int .i64 two.a.e.k, Value.int .i64 two.a.l.g, Value.int .i64 two.a.l.s.f, Value.int .i64 two.a.l.s.pc, Value.int .i64 two.a.l.k, Value.int .i64 two.b.at_, Value.int .u32 two.b.addr, Value.int .i64 two.b.e.g, Value.int .i64 two.b.e.s.f, Value.int .i64 two.b.e.s.pc, Value.int .i64 two.b.e.k, Value.int .i64 two.b.l.g, Value.int .i64 two.b.l.s.f, Value.int .i64 two.b.l.s.pc, Value.int .i64 two.b.l.k] 55]) (by kernel_rfl) (by kernel_rfl) (by kernel_rfl) (by kernel_rfl) (by kernel_rfl) hW 1 (by rfl) (Nat.le_of_ble_eq_true (by kernel_rfl)) (by kernel_rfl) (by rfl) ?_)); clear hA ac hW; intro w51 hW ac hA
             refine ⟨⟨fun h => absurd h (by decide), fun h => absurd h (by decide)⟩, ?_⟩
             refine sr_done (by kernel_rfl) ?_ _
             exact ⟨br12_2, br12_3, hA.sub ⟨⟨by kernel_rfl, by kernel_rfl⟩, ⟨by kernel_rfl, by kernel_rfl⟩, ⟨by kernel_rfl, by kernel_rfl⟩, ⟨by kernel_rfl, by kernel_rfl⟩, ⟨by kernel_rfl, by kernel_rfl⟩, ⟨by kernel_rfl, by kernel_rfl⟩, ⟨by kernel_rfl, by kernel_rfl⟩, ⟨by kernel_rfl, by kernel_rfl⟩, ⟨by kernel_rfl, by kernel_rfl⟩, ⟨by kernel_rfl, by kernel_rfl⟩, ⟨by kernel_rfl, by kernel_rfl⟩, ⟨by kernel_rfl, by kernel_rfl⟩, ⟨by kernel_rfl, by kernel_rfl⟩, ⟨by kernel_rfl, by kernel_rfl⟩, ⟨by kernel_rfl, by kernel_rfl⟩, ⟨by kernel_rfl, by kernel_rfl⟩, ⟨by kernel_rfl, by kernel_rfl⟩, trivial⟩, (hW.pick [1, 0, 2, 3, 4, 5, 6] (by decide) rfl).pickG [0, 1, 2] rfl⟩
         clear hA ac hW; rintro ac w52 ⟨br12_2, br12_3, hA, hW⟩
         refine thenN ?_
         refine wpIn_seq ?_
         refine wpIn_cut (fun ac_ wl_ => ∃ T5 : Tab, ∃ A5 : Option Addr, ∃ c5 : Nat, ∃ L5 : List Flag, ∃ P5 : List Pair, ∃ B5 : Option Addr, ∃ d5 : Nat, ∃ C5 : Option Addr, ∃ e5 : Nat, (Agree ⟨5, L5, P5⟩ T5) ∧ (L5.length ≤ 25 ∧ P5.length ≤ 25) ∧ (L5.length ≤ d5) ∧ (P5.length ≤ e5) ∧ Fm 157 [] [(2, Value.bool zero), (4, Value.pointer (some ⟨b1, 0, none⟩)), (6, Value.pointer (some ⟨b3, 0, none⟩)), (7, Value.pointer (some ⟨n9, 0, none⟩)), (8, Value.int .i64 0), (9, Value.pointer (some ⟨b12, 0, none⟩)), (13, Value.pointer (some ⟨n37, 0, none⟩)), (14, Value.pointer (some ⟨br12_2, 0, none⟩)), (15, Value.pointer (some ⟨br12_3, 0, none⟩))] ac_ ∧ Ws w No [Cel br12_3 #[Value.int .i64 5, Value.slice A1 Lk.length c1, Value.slice A2 Pk.length c2] 29, Cel br12_2 #[Value.int .i64 5, Value.slice B5 L5.length d5, Value.slice C5 P5.length e5] 29, TabR n37 n38 n39 n40 n41 (⟨T.most, T.dropped, ones n42, T.l⟩), Cel b12 #[Value.int .i64 5, Value.slice A1 Lk.length c1, Value.slice A2 Pk.length c2] 29, TabR n9 n10 n11 A5 c5 T5, Cel b3 #[Value.bool false] 4, Cel b1 #[Value.int .i64 two.a.at_, Value.int .u32 two.a.addr, Value.int .i64 two.a.e.g, Value.int .i64 two.a.e.s.f, Value.int .i64 two.a.e.s.pc, Value.int .i64 two.a.e.k, Value.int .i64 two.a.l.g, Value.int .i64 two.a.l.s.f, Value.int .i64 two.a.l.s.pc, Value.int .i64 two.a.l.k, Value.int .i64 two.b.at_, Value.int .u32 two.b.addr, Value.int .i64 two.b.e.g, Value.int .i64 two.b.e.s.f, Value.int .i64 two.b.e.s.pc, Value.int .i64 two.b.e.k, Value.int .i64 two.b.l.g, Value.int .i64 two.b.l.s.f, Value.int .i64 two.b.l.s.pc, Value.int .i64 two.b.l.k] 55] [roR B5 10 enFlag L5, roR C5 4 enPair P5, roR A1 10 enFlag Lk, roR A2 4 enPair Pk, roR A_l 10 enFlag l] wl_) ?_ ?_
         · skip
           refine wpIn_seq ?_
           rcases Bool.eq_false_or_eq_true (Flag.ok two.a) with h53 | h53
           · skip
             first
             | (exfalso; clear hA hW; omega)
             | (exfalso; clear hA hW; rw [h53] at h53; exact absurd rfl h53; done)
             | (exfalso; clear hA hW; rw [h53] at h53; cases h53; done)
             | (
               refine wpIn_region_lit ?_
               refine st_rdF (v := Value.pointer (some ⟨n9, 0, none⟩)) hA (by kernel_rfl) (by kernel_rfl) (by kernel_rfl) (by kernel_rfl) hW.cls (Rd.pure fun _ => by kernel_rfl) ?_; clear hA ac; intro ac hA
               refine st_rdF (v := Value.pointer (some ⟨b1, 0, none⟩)) hA (by kernel_rfl) (by kernel_rfl) (by kernel_rfl) (by kernel_rfl) hW.cls (Rd.pure fun _ => by kernel_rfl) ?_; clear hA ac; intro ac hA
               refine st_rdF (v := Value.agg #[Value.int .i64 two.a.at_, Value.int .u32 two.a.addr, Value.int .i64 two.a.e.g, Value.int .i64 two.a.e.s.f, Value.int .i64 two.a.e.s.pc, Value.int .i64 two.a.e.k, Value.int .i64 two.a.l.g, Value.int .i64 two.a.l.s.f, Value.int .i64 two.a.l.s.pc, Value.int .i64 two.a.l.k]) hA (by kernel_rfl) (by kernel_rfl) (by kernel_rfl) (by kernel_rfl) hW.cls (Rd.load (b := b1) (i := 0) (by kernel_rfl) (fun _ hw => (hw.1).cel 6 rfl) (by kernel_rfl)) ?_; clear hA ac; intro ac hA
               refine stF hA (by kernel_rfl) (by kernel_rfl) (by kernel_rfl) (by kernel_rfl) (RunsF.of (Runs.call (fun _ => by kernel_rfl) (Take_U w52 n9 n10 n11 A c T two.a ((hW).get 4 rfl) ((hW).lt _ (List.mem_of_getElem? (i := 4) rfl)) h53 (by first | exact hK.bound (by omega) | exact hK2.bound (by omega))) ?_))
               rintro _ w54 ⟨u55, u56, rfl, hu_⟩; refine ⟨_, rfl, ?_⟩; replace hW := hW.upd (H' := [Cel br12_3 #[Value.int .i64 5, Value.slice A1 Lk.length c1, Value.slice A2 Pk.length c2] 29, Cel br12_2 #[Value.int .i64 5, Value.slice A1 Lk.length c1, Value.slice A2 Pk.length c2] 29, TabR n37 n38 n39 n40 n41 (⟨T.most, T.dropped, ones n42, T.l⟩), Cel b12 #[Value.int .i64 5, Value.slice A1 Lk.length c1, Value.slice A2 Pk.length c2] 29, TabR n9 n10 n11 u55 u56 (Tab.take T two.a).1, Cel b3 #[Value.bool false] 4, Cel b1 #[Value.int .i64 two.a.at_, Value.int .u32 two.a.addr, Value.int .i64 two.a.e.g, Value.int .i64 two.a.e.s.f, Value.int .i64 two.a.e.s.pc, Value.int .i64 two.a.e.k, Value.int .i64 two.a.l.g, Value.int .i64 two.a.l.s.f, Value.int .i64 two.a.l.s.pc, Value.int .i64 two.a.l.k, Value.int .i64 two.b.at_, Value.int .u32 two.b.addr, Value.int .i64 two.b.e.g, Value.int .i64 two.b.e.s.f, Value.int .i64 two.b.e.s.pc, Value.int .i64 two.b.e.k, Value.int .i64 two.b.l.g, Value.int .i64 two.b.l.s.f, Value.int .i64 two.b.l.s.pc, Value.int .i64 two.b.l.k] 55]) 4 rfl hu_ rfl; clear hA ac; intro ac hA
               refine st_rdF (v := Value.tuple #[Value.bool (Tab.take T two.a).2, Value.int .i64 0]) hA (by kernel_rfl) (by kernel_rfl) (by kernel_rfl) (by kernel_rfl) hW.cls (Rd.pure fun _ => by kernel_rfl) ?_; clear hA ac; intro ac hA
               refine st_rdF (v := Value.bool (Tab.take T two.a).2) hA (by kernel_rfl) (by kernel_rfl) (by kernel_rfl) (by kernel_rfl) hW.cls (Rd.pure fun _ => by kernel_rfl) ?_; clear hA ac; intro ac hA
               refine st_rdF (v := Value.int .i64 0) hA (by kernel_rfl) (by kernel_rfl) (by kernel_rfl) (by kernel_rfl) hW.cls (Rd.pure fun _ => by kernel_rfl) ?_; clear hA ac; intro ac hA
               refine st_rdF (v := Value.bool (Tab.take T two.a).2) hA (by kernel_rfl) (by kernel_rfl) (by kernel_rfl) (by kernel_rfl) hW.cls (Rd.pure fun _ => by kernel_rfl) ?_; clear hA ac; intro ac hA
               refine st_rdF (v := Value.int .i64 0) hA (by kernel_rfl) (by kernel_rfl) (by kernel_rfl) (by kernel_rfl) hW.cls (Rd.pure fun _ => by kernel_rfl) ?_; clear hA ac; intro ac hA
               refine wpListIn_nil ?_
               refine thenN ?_
               refine wpIn_seq ?_
               refine wpIn_region_lit ?_
               refine st_rdF (v := Value.int .i64 0) hA (by kernel_rfl) (by kernel_rfl) (by kernel_rfl) (by kernel_rfl) hW.cls (Rd.pure fun _ => by kernel_rfl) ?_; clear hA ac; intro ac hA
               refine stF hA (by kernel_rfl) (by kernel_rfl) (by kernel_rfl) (by kernel_rfl) (RunsF.of (Runs.callS (v := Value.int .i64 (0)) (fun _ => by kernel_rfl) (num27_any (0) w54) ?_)); clear hA ac; intro  ac hA
               refine st_rdF (v := Value.bool (((0) : Int) == (0 : Int))) hA (by kernel_rfl) (by kernel_rfl) (by kernel_rfl) (by kernel_rfl) hW.cls (Rd.pure fun _ => by kernel_rfl) ?_; clear hA ac; intro ac hA
               refine wpListIn_nil ?_
               refine thenN ?_
               refine wpIn_cond_split (t := ((0) : Int) == (0 : Int)) (hA.eval (by kernel_rfl)) (fun h57 => ?_) (fun h57 => ?_)
               · skip
                 have h57 := eq_of_beq h57
                 first
                 | (exfalso; clear hA hW; omega)
                 | (exfalso; clear hA hW; rw [h53] at h57; exact absurd rfl h57; done)
                 | (exfalso; clear hA hW; rw [h53] at h57; cases h57; done)
                 | (
                   refine wpIn_region_lit ?_
                   refine st_rdF (v := Value.agg #[Value.int .i64 5, Value.slice A1 Lk.length c1, Value.slice A2 Pk.length c2]) hA (by kernel_rfl) (by kernel_rfl) (by kernel_rfl) (by kernel_rfl) hW.cls (Rd.load (b := b12) (i := 0) (by kernel_rfl) (fun _ hw => (hw.1).cel 3 rfl) (by kernel_rfl)) ?_; clear hA ac; intro ac hA
                   refine st_rdF (v := Value.pointer (some ⟨b1, 0, none⟩)) hA (by kernel_rfl) (by kernel_rfl) (by kernel_rfl) (by kernel_rfl) hW.cls (Rd.pure fun _ => by kernel_rfl) ?_; clear hA ac; intro ac hA
                   refine st_rdF (v := Value.agg #[Value.int .i64 two.a.at_, Value.int .u32 two.a.addr, Value.int .i64 two.a.e.g, Value.int .i64 two.a.e.s.f, Value.int .i64 two.a.e.s.pc, Value.int .i64 two.a.e.k, Value.int .i64 two.a.l.g, Value.int .i64 two.a.l.s.f, Value.int .i64 two.a.l.s.pc, Value.int .i64 two.a.l.k]) hA (by kernel_rfl) (by kernel_rfl) (by kernel_rfl) (by kernel_rfl) hW.cls (Rd.load (b := b1) (i := 0) (by kernel_rfl) (fun _ hw => (hw.1).cel 6 rfl) (by kernel_rfl)) ?_; clear hA ac; intro ac hA
                   refine stF hA (by kernel_rfl) (by kernel_rfl) (by kernel_rfl) (by kernel_rfl) (RunsF.of (Runs.call (fun _ => by kernel_rfl) (e_take27 (5) A1 c1 Lk A2 c2 Pk two.a w54 ((hW).getG 0 rfl) (by first | assumption | omega | (simp; omega) | simp) ((hW).getG 1 rfl) (by first | assumption | omega | (simp; omega) | simp) (by first | omega | exact ⟨by omega, by omega⟩ | exact hK.nd | exact hK.ok | exact hG5 | exact hG7 | assumption | simp) (by first | omega | exact ⟨by omega, by omega⟩ | exact hK.nd | exact hK.ok | exact hG5 | exact hG7 | assumption | simp)) ?_))
                   rintro _ w58 ⟨g59, g60, g61, Ao162, co163, Ao264, co265, rfl, hw58_hT, hcco163, hcco265, hfco163, hfco265, hfw58⟩; refine ⟨_, rfl, ?_⟩; have hW0 := hW; have hW := hW0.call hfw58
                   have hW := hW0.addFromAt hW hfco163 (in_cons (in_at 0 rfl) (in_cons (in_at 1 rfl) in_nil))
                   have hW := hW0.addFromAt hW hfco265 (in_cons (in_at 0 rfl) (in_cons (in_at 1 rfl) in_nil))
                   clear hW0 hA ac; intro ac hA
                   refine st_rdF (v := Value.tuple #[Value.agg #[Value.int .i64 (5), Value.slice Ao162 (g59).length co163, Value.slice Ao264 (g60).length co265], Value.bool g61]) hA (by kernel_rfl) (by kernel_rfl) (by kernel_rfl) (by kernel_rfl) hW.cls (Rd.pure fun _ => by kernel_rfl) ?_; clear hA ac; intro ac hA
                   refine st_rdF (v := Value.agg #[Value.int .i64 (5), Value.slice Ao162 (g59).length co163, Value.slice Ao264 (g60).length co265]) hA (by kernel_rfl) (by kernel_rfl) (by kernel_rfl) (by kernel_rfl) hW.cls (Rd.pure fun _ => by kernel_rfl) ?_; clear hA ac; intro ac hA
                   refine st_rdF (v := Value.bool g61) hA (by kernel_rfl) (by kernel_rfl) (by kernel_rfl) (by kernel_rfl) hW.cls (Rd.pure fun _ => by kernel_rfl) ?_; clear hA ac; intro ac hA
                   refine stF hA (by kernel_rfl) (by kernel_rfl) (by kernel_rfl) (by kernel_rfl) (RunsF.of (Runs.store (v := Value.agg #[Value.int .i64 (5), Value.slice Ao162 (g59).length co163, Value.slice Ao264 (g60).length co265]) (b := br12_2) (j := 0) (n := 3) (cs' := #[Value.int .i64 (5), Value.slice Ao162 (g59).length co163, Value.slice Ao264 (g60).length co265]) (H' := [Cel br12_3 #[Value.int .i64 5, Value.slice A1 Lk.length c1, Value.slice A2 Pk.length c2] 29, Cel br12_2 #[Value.int .i64 (5), Value.slice Ao162 (g59).length co163, Value.slice Ao264 (g60).length co265] 29, TabR n37 n38 n39 n40 n41 (⟨T.most, T.dropped, ones n42, T.l⟩), Cel b12 #[Value.int .i64 5, Value.slice A1 Lk.length c1, Value.slice A2 Pk.length c2] 29, TabR n9 n10 n11 u55 u56 (Tab.take T two.a).1, Cel b3 #[Value.bool false] 4, Cel b1 #[Value.int .i64 two.a.at_, Value.int .u32 two.a.addr, Value.int .i64 two.a.e.g, Value.int .i64 two.a.e.s.f, Value.int .i64 two.a.e.s.pc, Value.int .i64 two.a.e.k, Value.int .i64 two.a.l.g, Value.int .i64 two.a.l.s.f, Value.int .i64 two.a.l.s.pc, Value.int .i64 two.a.l.k, Value.int .i64 two.b.at_, Value.int .u32 two.b.addr, Value.int .i64 two.b.e.g, Value.int .i64 two.b.e.s.f, Value.int .i64 two.b.e.s.pc, Value.int .i64 two.b.e.k, Value.int .i64 two.b.l.g, Value.int .i64 two.b.l.s.f, Value.int .i64 two.b.l.s.pc, Value.int .i64 two.b.l.k] 55]) (by kernel_rfl) (by kernel_rfl) (by kernel_rfl) (by kernel_rfl) (by kernel_rfl) hW 1 (by rfl) (Nat.le_of_ble_eq_true (by kernel_rfl)) (by kernel_rfl) (by rfl) ?_)); clear hA ac hW; intro w66 hW ac hA
                   refine wpListIn_nil ?_
                   exact ⟨(Tab.take T two.a).1, u55, u56, g59, g60, Ao162, co163, Ao264, co265, by exact (hG.takes hw58_hT).1, by have h_ := RT.Takes.len hw58_hT; simp only at h_; omega, by exact hcco163, by exact hcco265, hA.sub ⟨⟨by kernel_rfl, by kernel_rfl⟩, ⟨by kernel_rfl, by kernel_rfl⟩, ⟨by kernel_rfl, by kernel_rfl⟩, ⟨by kernel_rfl, by kernel_rfl⟩, ⟨by kernel_rfl, by kernel_rfl⟩, ⟨by kernel_rfl, by kernel_rfl⟩, ⟨by kernel_rfl, by kernel_rfl⟩, ⟨by kernel_rfl, by kernel_rfl⟩, ⟨by kernel_rfl, by kernel_rfl⟩, trivial⟩, (hW.pick [0, 1, 2, 3, 4, 5, 6] (by decide) rfl).pickG [1, 0, 2, 3, 4] rfl⟩)
               · skip
                 have h57 := ne_of_beq_false h57
                 first
                 | (exfalso; clear hA hW; omega)
                 | (exfalso; clear hA hW; rw [h53] at h57; exact absurd rfl h57; done)
                 | (exfalso; clear hA hW; rw [h53] at h57; cases h57; done)
                 | (
                   refine wpIn_skip ?_
                   exact ⟨(Tab.take T two.a).1, u55, u56, Lk, Pk, A1, c1, A2, c2, by exact hG, by omega, by exact hcc1, by exact hcc2, hA.sub ⟨⟨by kernel_rfl, by kernel_rfl⟩, ⟨by kernel_rfl, by kernel_rfl⟩, ⟨by kernel_rfl, by kernel_rfl⟩, ⟨by kernel_rfl, by kernel_rfl⟩, ⟨by kernel_rfl, by kernel_rfl⟩, ⟨by kernel_rfl, by kernel_rfl⟩, ⟨by kernel_rfl, by kernel_rfl⟩, ⟨by kernel_rfl, by kernel_rfl⟩, ⟨by kernel_rfl, by kernel_rfl⟩, trivial⟩, (hW.pick [0, 1, 2, 3, 4, 5, 6] (by decide) rfl).pickG [0, 1, 0, 1, 2] rfl⟩))
           · skip
             first
             | (exfalso; clear hA hW; omega)
             | (exfalso; clear hA hW; rw [h53] at h53; exact absurd rfl h53; done)
             | (exfalso; clear hA hW; rw [h53] at h53; cases h53; done)
             | (
               refine wpIn_region_lit ?_
               refine st_rdF (v := Value.pointer (some ⟨n9, 0, none⟩)) hA (by kernel_rfl) (by kernel_rfl) (by kernel_rfl) (by kernel_rfl) hW.cls (Rd.pure fun _ => by kernel_rfl) ?_; clear hA ac; intro ac hA
               refine st_rdF (v := Value.pointer (some ⟨b1, 0, none⟩)) hA (by kernel_rfl) (by kernel_rfl) (by kernel_rfl) (by kernel_rfl) hW.cls (Rd.pure fun _ => by kernel_rfl) ?_; clear hA ac; intro ac hA
               refine st_rdF (v := Value.agg #[Value.int .i64 two.a.at_, Value.int .u32 two.a.addr, Value.int .i64 two.a.e.g, Value.int .i64 two.a.e.s.f, Value.int .i64 two.a.e.s.pc, Value.int .i64 two.a.e.k, Value.int .i64 two.a.l.g, Value.int .i64 two.a.l.s.f, Value.int .i64 two.a.l.s.pc, Value.int .i64 two.a.l.k]) hA (by kernel_rfl) (by kernel_rfl) (by kernel_rfl) (by kernel_rfl) hW.cls (Rd.load (b := b1) (i := 0) (by kernel_rfl) (fun _ hw => (hw.1).cel 6 rfl) (by kernel_rfl)) ?_; clear hA ac; intro ac hA
               refine stF hA (by kernel_rfl) (by kernel_rfl) (by kernel_rfl) (by kernel_rfl) (RunsF.of (Runs.callN (v := Value.tuple #[Value.bool false, Value.int .i64 2]) (fun _ => by kernel_rfl) hW (Take_no w52 0 n9 n10 n11 _ T (TabR.tx ((hW).get 4 rfl)) two.a h53) ?_)); clear hA ac hW; intro w67 hW hfw67 ac hA
               refine st_rdF (v := Value.tuple #[Value.bool false, Value.int .i64 2]) hA (by kernel_rfl) (by kernel_rfl) (by kernel_rfl) (by kernel_rfl) hW.cls (Rd.pure fun _ => by kernel_rfl) ?_; clear hA ac; intro ac hA
               refine st_rdF (v := Value.bool false) hA (by kernel_rfl) (by kernel_rfl) (by kernel_rfl) (by kernel_rfl) hW.cls (Rd.pure fun _ => by kernel_rfl) ?_; clear hA ac; intro ac hA
               refine st_rdF (v := Value.int .i64 2) hA (by kernel_rfl) (by kernel_rfl) (by kernel_rfl) (by kernel_rfl) hW.cls (Rd.pure fun _ => by kernel_rfl) ?_; clear hA ac; intro ac hA
               refine st_rdF (v := Value.bool false) hA (by kernel_rfl) (by kernel_rfl) (by kernel_rfl) (by kernel_rfl) hW.cls (Rd.pure fun _ => by kernel_rfl) ?_; clear hA ac; intro ac hA
               refine st_rdF (v := Value.int .i64 2) hA (by kernel_rfl) (by kernel_rfl) (by kernel_rfl) (by kernel_rfl) hW.cls (Rd.pure fun _ => by kernel_rfl) ?_; clear hA ac; intro ac hA
               refine wpListIn_nil ?_
               refine thenN ?_
               refine wpIn_seq ?_
               refine wpIn_region_lit ?_
               refine st_rdF (v := Value.int .i64 2) hA (by kernel_rfl) (by kernel_rfl) (by kernel_rfl) (by kernel_rfl) hW.cls (Rd.pure fun _ => by kernel_rfl) ?_; clear hA ac; intro ac hA
               refine stF hA (by kernel_rfl) (by kernel_rfl) (by kernel_rfl) (by kernel_rfl) (RunsF.of (Runs.callS (v := Value.int .i64 (2)) (fun _ => by kernel_rfl) (num27_any (2) w67) ?_)); clear hA ac; intro  ac hA
               refine st_rdF (v := Value.bool (((2) : Int) == (0 : Int))) hA (by kernel_rfl) (by kernel_rfl) (by kernel_rfl) (by kernel_rfl) hW.cls (Rd.pure fun _ => by kernel_rfl) ?_; clear hA ac; intro ac hA
               refine wpListIn_nil ?_
               refine thenN ?_
               refine wpIn_cond_split (t := ((2) : Int) == (0 : Int)) (hA.eval (by kernel_rfl)) (fun h68 => ?_) (fun h68 => ?_)
               · skip
                 have h68 := eq_of_beq h68
                 first
                 | (exfalso; clear hA hW; omega)
                 | (exfalso; clear hA hW; rw [h53] at h68; exact absurd rfl h68; done)
                 | (exfalso; clear hA hW; rw [h53] at h68; cases h68; done)
                 | (
                   fail)
               · skip
                 have h68 := ne_of_beq_false h68
                 first
                 | (exfalso; clear hA hW; omega)
                 | (exfalso; clear hA hW; rw [h53] at h68; exact absurd rfl h68; done)
                 | (exfalso; clear hA hW; rw [h53] at h68; cases h68; done)
                 | (
                   refine wpIn_skip ?_
                   exact ⟨T, A, c, Lk, Pk, A1, c1, A2, c2, by exact hG, by omega, by exact hcc1, by exact hcc2, hA.sub ⟨⟨by kernel_rfl, by kernel_rfl⟩, ⟨by kernel_rfl, by kernel_rfl⟩, ⟨by kernel_rfl, by kernel_rfl⟩, ⟨by kernel_rfl, by kernel_rfl⟩, ⟨by kernel_rfl, by kernel_rfl⟩, ⟨by kernel_rfl, by kernel_rfl⟩, ⟨by kernel_rfl, by kernel_rfl⟩, ⟨by kernel_rfl, by kernel_rfl⟩, ⟨by kernel_rfl, by kernel_rfl⟩, trivial⟩, (hW.pick [0, 1, 2, 3, 4, 5, 6] (by decide) rfl).pickG [0, 1, 0, 1, 2] rfl⟩))
         · skip
           clear hA ac hW; rintro ac w69 ⟨T5, A5, c5, L5, P5, B5, d5, C5, e5, hG5, hl5, hcd5, hce5, hA, hW⟩
           have hz5 : _ = _ := congrArg List.length hG5.l_; simp only at hz5
           refine thenN ?_
           refine wpIn_seq ?_
           refine wpIn_cut (fun ac_ wl_ => ∃ T7 : Tab, ∃ A7 : Option Addr, ∃ c7 : Nat, ∃ L7 : List Flag, ∃ P7 : List Pair, ∃ B7 : Option Addr, ∃ d7 : Nat, ∃ C7 : Option Addr, ∃ e7 : Nat, (Agree ⟨5, L7, P7⟩ T7) ∧ (L7.length ≤ 25 ∧ P7.length ≤ 25) ∧ (L7.length ≤ d7) ∧ (P7.length ≤ e7) ∧ Fm 157 [] [(2, Value.bool zero), (4, Value.pointer (some ⟨b1, 0, none⟩)), (6, Value.pointer (some ⟨b3, 0, none⟩)), (7, Value.pointer (some ⟨n9, 0, none⟩)), (8, Value.int .i64 0), (13, Value.pointer (some ⟨n37, 0, none⟩)), (14, Value.pointer (some ⟨br12_2, 0, none⟩)), (15, Value.pointer (some ⟨br12_3, 0, none⟩))] ac_ ∧ Ws w No [Cel br12_3 #[Value.int .i64 5, Value.slice B7 L7.length d7, Value.slice C7 P7.length e7] 29, Cel br12_2 #[Value.int .i64 5, Value.slice B5 L5.length d5, Value.slice C5 P5.length e5] 29, TabR n37 n38 n39 A7 c7 T7, Cel b12 #[Value.int .i64 5, Value.slice A1 Lk.length c1, Value.slice A2 Pk.length c2] 29, TabR n9 n10 n11 A5 c5 T5, Cel b3 #[Value.bool false] 4, Cel b1 #[Value.int .i64 two.a.at_, Value.int .u32 two.a.addr, Value.int .i64 two.a.e.g, Value.int .i64 two.a.e.s.f, Value.int .i64 two.a.e.s.pc, Value.int .i64 two.a.e.k, Value.int .i64 two.a.l.g, Value.int .i64 two.a.l.s.f, Value.int .i64 two.a.l.s.pc, Value.int .i64 two.a.l.k, Value.int .i64 two.b.at_, Value.int .u32 two.b.addr, Value.int .i64 two.b.e.g, Value.int .i64 two.b.e.s.f, Value.int .i64 two.b.e.s.pc, Value.int .i64 two.b.e.k, Value.int .i64 two.b.l.g, Value.int .i64 two.b.l.s.f, Value.int .i64 two.b.l.s.pc, Value.int .i64 two.b.l.k] 55] [roR B7 10 enFlag L7, roR C7 4 enPair P7, roR B5 10 enFlag L5, roR C5 4 enPair P5, roR A1 10 enFlag Lk, roR A2 4 enPair Pk, roR A_l 10 enFlag l] wl_) ?_ ?_
           · skip
             refine wpIn_seq ?_
             rcases Bool.eq_false_or_eq_true (Flag.ok two.b) with h70 | h70
             · skip
               first
               | (exfalso; clear hA hW; omega)
               | (exfalso; clear hA hW; rw [h70] at h70; exact absurd rfl h70; done)
               | (exfalso; clear hA hW; rw [h70] at h70; cases h70; done)
               | (
                 refine wpIn_region_lit ?_
                 refine st_rdF (v := Value.pointer (some ⟨n37, 0, none⟩)) hA (by kernel_rfl) (by kernel_rfl) (by kernel_rfl) (by kernel_rfl) hW.cls (Rd.pure fun _ => by kernel_rfl) ?_; clear hA ac; intro ac hA
                 refine st_rdF (v := Value.pointer (some ⟨b1, 10, none⟩)) hA (by kernel_rfl) (by kernel_rfl) (by kernel_rfl) (by kernel_rfl) hW.cls (Rd.pure fun _ => by kernel_rfl) ?_; clear hA ac; intro ac hA
                 refine st_rdF (v := Value.agg #[Value.int .i64 two.b.at_, Value.int .u32 two.b.addr, Value.int .i64 two.b.e.g, Value.int .i64 two.b.e.s.f, Value.int .i64 two.b.e.s.pc, Value.int .i64 two.b.e.k, Value.int .i64 two.b.l.g, Value.int .i64 two.b.l.s.f, Value.int .i64 two.b.l.s.pc, Value.int .i64 two.b.l.k]) hA (by kernel_rfl) (by kernel_rfl) (by kernel_rfl) (by kernel_rfl) hW.cls (Rd.load (b := b1) (i := 10) (by kernel_rfl) (fun _ hw => (hw.1).cel 6 rfl) (by kernel_rfl)) ?_; clear hA ac; intro ac hA
                 refine stF hA (by kernel_rfl) (by kernel_rfl) (by kernel_rfl) (by kernel_rfl) (RunsF.of (Runs.call (fun _ => by kernel_rfl) (Take_U w69 n37 n38 n39 n40 n41 (⟨T.most, T.dropped, ones n42, T.l⟩) two.b ((hW).get 2 rfl) ((hW).lt _ (List.mem_of_getElem? (i := 2) rfl)) h70 (by first | exact hK.bound (by omega) | exact hK2.bound (by omega))) ?_))
                 rintro _ w71 ⟨u72, u73, rfl, hu_⟩; refine ⟨_, rfl, ?_⟩; replace hW := hW.upd (H' := [Cel br12_3 #[Value.int .i64 5, Value.slice A1 Lk.length c1, Value.slice A2 Pk.length c2] 29, Cel br12_2 #[Value.int .i64 5, Value.slice B5 L5.length d5, Value.slice C5 P5.length e5] 29, TabR n37 n38 n39 u72 u73 (Tab.take (⟨T.most, T.dropped, ones n42, T.l⟩) two.b).1, Cel b12 #[Value.int .i64 5, Value.slice A1 Lk.length c1, Value.slice A2 Pk.length c2] 29, TabR n9 n10 n11 A5 c5 T5, Cel b3 #[Value.bool false] 4, Cel b1 #[Value.int .i64 two.a.at_, Value.int .u32 two.a.addr, Value.int .i64 two.a.e.g, Value.int .i64 two.a.e.s.f, Value.int .i64 two.a.e.s.pc, Value.int .i64 two.a.e.k, Value.int .i64 two.a.l.g, Value.int .i64 two.a.l.s.f, Value.int .i64 two.a.l.s.pc, Value.int .i64 two.a.l.k, Value.int .i64 two.b.at_, Value.int .u32 two.b.addr, Value.int .i64 two.b.e.g, Value.int .i64 two.b.e.s.f, Value.int .i64 two.b.e.s.pc, Value.int .i64 two.b.e.k, Value.int .i64 two.b.l.g, Value.int .i64 two.b.l.s.f, Value.int .i64 two.b.l.s.pc, Value.int .i64 two.b.l.k] 55]) 2 rfl hu_ rfl; clear hA ac; intro ac hA
                 refine st_rdF (v := Value.tuple #[Value.bool (Tab.take (⟨T.most, T.dropped, ones n42, T.l⟩) two.b).2, Value.int .i64 0]) hA (by kernel_rfl) (by kernel_rfl) (by kernel_rfl) (by kernel_rfl) hW.cls (Rd.pure fun _ => by kernel_rfl) ?_; clear hA ac; intro ac hA
                 refine st_rdF (v := Value.bool (Tab.take (⟨T.most, T.dropped, ones n42, T.l⟩) two.b).2) hA (by kernel_rfl) (by kernel_rfl) (by kernel_rfl) (by kernel_rfl) hW.cls (Rd.pure fun _ => by kernel_rfl) ?_; clear hA ac; intro ac hA
                 refine st_rdF (v := Value.int .i64 0) hA (by kernel_rfl) (by kernel_rfl) (by kernel_rfl) (by kernel_rfl) hW.cls (Rd.pure fun _ => by kernel_rfl) ?_; clear hA ac; intro ac hA
                 refine st_rdF (v := Value.bool (Tab.take (⟨T.most, T.dropped, ones n42, T.l⟩) two.b).2) hA (by kernel_rfl) (by kernel_rfl) (by kernel_rfl) (by kernel_rfl) hW.cls (Rd.pure fun _ => by kernel_rfl) ?_; clear hA ac; intro ac hA
                 refine st_rdF (v := Value.int .i64 0) hA (by kernel_rfl) (by kernel_rfl) (by kernel_rfl) (by kernel_rfl) hW.cls (Rd.pure fun _ => by kernel_rfl) ?_; clear hA ac; intro ac hA
                 refine wpListIn_nil ?_
                 refine thenN ?_
                 refine wpIn_seq ?_
                 refine wpIn_region_lit ?_
                 refine st_rdF (v := Value.int .i64 0) hA (by kernel_rfl) (by kernel_rfl) (by kernel_rfl) (by kernel_rfl) hW.cls (Rd.pure fun _ => by kernel_rfl) ?_; clear hA ac; intro ac hA
                 refine stF hA (by kernel_rfl) (by kernel_rfl) (by kernel_rfl) (by kernel_rfl) (RunsF.of (Runs.callS (v := Value.int .i64 (0)) (fun _ => by kernel_rfl) (num27_any (0) w71) ?_)); clear hA ac; intro  ac hA
                 refine st_rdF (v := Value.bool (((0) : Int) == (0 : Int))) hA (by kernel_rfl) (by kernel_rfl) (by kernel_rfl) (by kernel_rfl) hW.cls (Rd.pure fun _ => by kernel_rfl) ?_; clear hA ac; intro ac hA
                 refine wpListIn_nil ?_
                 refine thenN ?_
                 refine wpIn_cond_split (t := ((0) : Int) == (0 : Int)) (hA.eval (by kernel_rfl)) (fun h74 => ?_) (fun h74 => ?_)
                 · skip
                   have h74 := eq_of_beq h74
                   first
                   | (exfalso; clear hA hW; omega)
                   | (exfalso; clear hA hW; rw [h70] at h74; exact absurd rfl h74; done)
                   | (exfalso; clear hA hW; rw [h70] at h74; cases h74; done)
                   | (
                     refine wpIn_region_lit ?_
                     refine st_rdF (v := Value.agg #[Value.int .i64 5, Value.slice A1 Lk.length c1, Value.slice A2 Pk.length c2]) hA (by kernel_rfl) (by kernel_rfl) (by kernel_rfl) (by kernel_rfl) hW.cls (Rd.load (b := b12) (i := 0) (by kernel_rfl) (fun _ hw => (hw.1).cel 3 rfl) (by kernel_rfl)) ?_; clear hA ac; intro ac hA
                     refine st_rdF (v := Value.pointer (some ⟨b1, 10, none⟩)) hA (by kernel_rfl) (by kernel_rfl) (by kernel_rfl) (by kernel_rfl) hW.cls (Rd.pure fun _ => by kernel_rfl) ?_; clear hA ac; intro ac hA
                     refine st_rdF (v := Value.agg #[Value.int .i64 two.b.at_, Value.int .u32 two.b.addr, Value.int .i64 two.b.e.g, Value.int .i64 two.b.e.s.f, Value.int .i64 two.b.e.s.pc, Value.int .i64 two.b.e.k, Value.int .i64 two.b.l.g, Value.int .i64 two.b.l.s.f, Value.int .i64 two.b.l.s.pc, Value.int .i64 two.b.l.k]) hA (by kernel_rfl) (by kernel_rfl) (by kernel_rfl) (by kernel_rfl) hW.cls (Rd.load (b := b1) (i := 10) (by kernel_rfl) (fun _ hw => (hw.1).cel 6 rfl) (by kernel_rfl)) ?_; clear hA ac; intro ac hA
                     refine stF hA (by kernel_rfl) (by kernel_rfl) (by kernel_rfl) (by kernel_rfl) (RunsF.of (Runs.call (fun _ => by kernel_rfl) (e_take27 (5) A1 c1 Lk A2 c2 Pk two.b w71 ((hW).getG 2 rfl) (by first | assumption | omega | (simp; omega) | simp) ((hW).getG 3 rfl) (by first | assumption | omega | (simp; omega) | simp) (by first | omega | exact ⟨by omega, by omega⟩ | exact hK.nd | exact hK.ok | exact hG5 | exact hG7 | assumption | simp) (by first | omega | exact ⟨by omega, by omega⟩ | exact hK.nd | exact hK.ok | exact hG5 | exact hG7 | assumption | simp)) ?_))
                     rintro _ w75 ⟨g76, g77, g78, Ao179, co180, Ao281, co282, rfl, hw75_hT, hcco180, hcco282, hfco180, hfco282, hfw75⟩; refine ⟨_, rfl, ?_⟩; have hW0 := hW; have hW := hW0.call hfw75
                     have hW := hW0.addFromAt hW hfco180 (in_cons (in_at 2 rfl) (in_cons (in_at 3 rfl) in_nil))
                     have hW := hW0.addFromAt hW hfco282 (in_cons (in_at 2 rfl) (in_cons (in_at 3 rfl) in_nil))
                     clear hW0 hA ac; intro ac hA
                     refine st_rdF (v := Value.tuple #[Value.agg #[Value.int .i64 (5), Value.slice Ao179 (g76).length co180, Value.slice Ao281 (g77).length co282], Value.bool g78]) hA (by kernel_rfl) (by kernel_rfl) (by kernel_rfl) (by kernel_rfl) hW.cls (Rd.pure fun _ => by kernel_rfl) ?_; clear hA ac; intro ac hA
                     refine st_rdF (v := Value.agg #[Value.int .i64 (5), Value.slice Ao179 (g76).length co180, Value.slice Ao281 (g77).length co282]) hA (by kernel_rfl) (by kernel_rfl) (by kernel_rfl) (by kernel_rfl) hW.cls (Rd.pure fun _ => by kernel_rfl) ?_; clear hA ac; intro ac hA
                     refine st_rdF (v := Value.bool g78) hA (by kernel_rfl) (by kernel_rfl) (by kernel_rfl) (by kernel_rfl) hW.cls (Rd.pure fun _ => by kernel_rfl) ?_; clear hA ac; intro ac hA
                     refine stF hA (by kernel_rfl) (by kernel_rfl) (by kernel_rfl) (by kernel_rfl) (RunsF.of (Runs.store (v := Value.agg #[Value.int .i64 (5), Value.slice Ao179 (g76).length co180, Value.slice Ao281 (g77).length co282]) (b := br12_3) (j := 0) (n := 3) (cs' := #[Value.int .i64 (5), Value.slice Ao179 (g76).length co180, Value.slice Ao281 (g77).length co282]) (H' := [Cel br12_3 #[Value.int .i64 (5), Value.slice Ao179 (g76).length co180, Value.slice Ao281 (g77).length co282] 29, Cel br12_2 #[Value.int .i64 5, Value.slice B5 L5.length d5, Value.slice C5 P5.length e5] 29, TabR n37 n38 n39 u72 u73 (Tab.take (⟨T.most, T.dropped, ones n42, T.l⟩) two.b).1, Cel b12 #[Value.int .i64 5, Value.slice A1 Lk.length c1, Value.slice A2 Pk.length c2] 29, TabR n9 n10 n11 A5 c5 T5, Cel b3 #[Value.bool false] 4, Cel b1 #[Value.int .i64 two.a.at_, Value.int .u32 two.a.addr, Value.int .i64 two.a.e.g, Value.int .i64 two.a.e.s.f, Value.int .i64 two.a.e.s.pc, Value.int .i64 two.a.e.k, Value.int .i64 two.a.l.g, Value.int .i64 two.a.l.s.f, Value.int .i64 two.a.l.s.pc, Value.int .i64 two.a.l.k, Value.int .i64 two.b.at_, Value.int .u32 two.b.addr, Value.int .i64 two.b.e.g, Value.int .i64 two.b.e.s.f, Value.int .i64 two.b.e.s.pc, Value.int .i64 two.b.e.k, Value.int .i64 two.b.l.g, Value.int .i64 two.b.l.s.f, Value.int .i64 two.b.l.s.pc, Value.int .i64 two.b.l.k] 55]) (by kernel_rfl) (by kernel_rfl) (by kernel_rfl) (by kernel_rfl) (by kernel_rfl) hW 0 (by rfl) (Nat.le_of_ble_eq_true (by kernel_rfl)) (by kernel_rfl) (by rfl) ?_)); clear hA ac hW; intro w83 hW ac hA
                     refine wpListIn_nil ?_
                     exact ⟨(Tab.take (⟨T.most, T.dropped, ones n42, T.l⟩) two.b).1, u72, u73, g76, g77, Ao179, co180, Ao281, co282, by exact (hGc.takes hw75_hT).1, by have h_ := RT.Takes.len hw75_hT; simp only at h_; omega, by exact hcco180, by exact hcco282, hA.sub ⟨⟨by kernel_rfl, by kernel_rfl⟩, ⟨by kernel_rfl, by kernel_rfl⟩, ⟨by kernel_rfl, by kernel_rfl⟩, ⟨by kernel_rfl, by kernel_rfl⟩, ⟨by kernel_rfl, by kernel_rfl⟩, ⟨by kernel_rfl, by kernel_rfl⟩, ⟨by kernel_rfl, by kernel_rfl⟩, ⟨by kernel_rfl, by kernel_rfl⟩, trivial⟩, (hW.pick [0, 1, 2, 3, 4, 5, 6] (by decide) rfl).pickG [1, 0, 2, 3, 4, 5, 6] rfl⟩)
                 · skip
                   have h74 := ne_of_beq_false h74
                   first
                   | (exfalso; clear hA hW; omega)
                   | (exfalso; clear hA hW; rw [h70] at h74; exact absurd rfl h74; done)
                   | (exfalso; clear hA hW; rw [h70] at h74; cases h74; done)
                   | (
                     refine wpIn_skip ?_
                     exact ⟨(Tab.take (⟨T.most, T.dropped, ones n42, T.l⟩) two.b).1, u72, u73, Lk, Pk, A1, c1, A2, c2, by exact hGc, by omega, by exact hcc1, by exact hcc2, hA.sub ⟨⟨by kernel_rfl, by kernel_rfl⟩, ⟨by kernel_rfl, by kernel_rfl⟩, ⟨by kernel_rfl, by kernel_rfl⟩, ⟨by kernel_rfl, by kernel_rfl⟩, ⟨by kernel_rfl, by kernel_rfl⟩, ⟨by kernel_rfl, by kernel_rfl⟩, ⟨by kernel_rfl, by kernel_rfl⟩, ⟨by kernel_rfl, by kernel_rfl⟩, trivial⟩, (hW.pick [0, 1, 2, 3, 4, 5, 6] (by decide) rfl).pickG [2, 3, 0, 1, 2, 3, 4] rfl⟩))
             · skip
               first
               | (exfalso; clear hA hW; omega)
               | (exfalso; clear hA hW; rw [h70] at h70; exact absurd rfl h70; done)
               | (exfalso; clear hA hW; rw [h70] at h70; cases h70; done)
               | (
                 refine wpIn_region_lit ?_
                 refine st_rdF (v := Value.pointer (some ⟨n37, 0, none⟩)) hA (by kernel_rfl) (by kernel_rfl) (by kernel_rfl) (by kernel_rfl) hW.cls (Rd.pure fun _ => by kernel_rfl) ?_; clear hA ac; intro ac hA
                 refine st_rdF (v := Value.pointer (some ⟨b1, 10, none⟩)) hA (by kernel_rfl) (by kernel_rfl) (by kernel_rfl) (by kernel_rfl) hW.cls (Rd.pure fun _ => by kernel_rfl) ?_; clear hA ac; intro ac hA
                 refine st_rdF (v := Value.agg #[Value.int .i64 two.b.at_, Value.int .u32 two.b.addr, Value.int .i64 two.b.e.g, Value.int .i64 two.b.e.s.f, Value.int .i64 two.b.e.s.pc, Value.int .i64 two.b.e.k, Value.int .i64 two.b.l.g, Value.int .i64 two.b.l.s.f, Value.int .i64 two.b.l.s.pc, Value.int .i64 two.b.l.k]) hA (by kernel_rfl) (by kernel_rfl) (by kernel_rfl) (by kernel_rfl) hW.cls (Rd.load (b := b1) (i := 10) (by kernel_rfl) (fun _ hw => (hw.1).cel 6 rfl) (by kernel_rfl)) ?_; clear hA ac; intro ac hA
                 refine stF hA (by kernel_rfl) (by kernel_rfl) (by kernel_rfl) (by kernel_rfl) (RunsF.of (Runs.callN (v := Value.tuple #[Value.bool false, Value.int .i64 2]) (fun _ => by kernel_rfl) hW (Take_no w69 0 n37 n38 n39 _ (⟨T.most, T.dropped, ones n42, T.l⟩) (TabR.tx ((hW).get 2 rfl)) two.b h70) ?_)); clear hA ac hW; intro w84 hW hfw84 ac hA
                 refine st_rdF (v := Value.tuple #[Value.bool false, Value.int .i64 2]) hA (by kernel_rfl) (by kernel_rfl) (by kernel_rfl) (by kernel_rfl) hW.cls (Rd.pure fun _ => by kernel_rfl) ?_; clear hA ac; intro ac hA
                 refine st_rdF (v := Value.bool false) hA (by kernel_rfl) (by kernel_rfl) (by kernel_rfl) (by kernel_rfl) hW.cls (Rd.pure fun _ => by kernel_rfl) ?_; clear hA ac; intro ac hA
                 refine st_rdF (v := Value.int .i64 2) hA (by kernel_rfl) (by kernel_rfl) (by kernel_rfl) (by kernel_rfl) hW.cls (Rd.pure fun _ => by kernel_rfl) ?_; clear hA ac; intro ac hA
                 refine st_rdF (v := Value.bool false) hA (by kernel_rfl) (by kernel_rfl) (by kernel_rfl) (by kernel_rfl) hW.cls (Rd.pure fun _ => by kernel_rfl) ?_; clear hA ac; intro ac hA
                 refine st_rdF (v := Value.int .i64 2) hA (by kernel_rfl) (by kernel_rfl) (by kernel_rfl) (by kernel_rfl) hW.cls (Rd.pure fun _ => by kernel_rfl) ?_; clear hA ac; intro ac hA
                 refine wpListIn_nil ?_
                 refine thenN ?_
                 refine wpIn_seq ?_
                 refine wpIn_region_lit ?_
                 refine st_rdF (v := Value.int .i64 2) hA (by kernel_rfl) (by kernel_rfl) (by kernel_rfl) (by kernel_rfl) hW.cls (Rd.pure fun _ => by kernel_rfl) ?_; clear hA ac; intro ac hA
                 refine stF hA (by kernel_rfl) (by kernel_rfl) (by kernel_rfl) (by kernel_rfl) (RunsF.of (Runs.callS (v := Value.int .i64 (2)) (fun _ => by kernel_rfl) (num27_any (2) w84) ?_)); clear hA ac; intro  ac hA
                 refine st_rdF (v := Value.bool (((2) : Int) == (0 : Int))) hA (by kernel_rfl) (by kernel_rfl) (by kernel_rfl) (by kernel_rfl) hW.cls (Rd.pure fun _ => by kernel_rfl) ?_; clear hA ac; intro ac hA
                 refine wpListIn_nil ?_
                 refine thenN ?_
                 refine wpIn_cond_split (t := ((2) : Int) == (0 : Int)) (hA.eval (by kernel_rfl)) (fun h85 => ?_) (fun h85 => ?_)
                 · skip
                   have h85 := eq_of_beq h85
                   first
                   | (exfalso; clear hA hW; omega)
                   | (exfalso; clear hA hW; rw [h70] at h85; exact absurd rfl h85; done)
                   | (exfalso; clear hA hW; rw [h70] at h85; cases h85; done)
                   | (
                     fail)
                 · skip
                   have h85 := ne_of_beq_false h85
                   first
                   | (exfalso; clear hA hW; omega)
                   | (exfalso; clear hA hW; rw [h70] at h85; exact absurd rfl h85; done)
                   | (exfalso; clear hA hW; rw [h70] at h85; cases h85; done)
                   | (
                     refine wpIn_skip ?_
                     exact ⟨⟨T.most, T.dropped, ones n42, T.l⟩, n40, n41, Lk, Pk, A1, c1, A2, c2, by exact hGc, by omega, by exact hcc1, by exact hcc2, hA.sub ⟨⟨by kernel_rfl, by kernel_rfl⟩, ⟨by kernel_rfl, by kernel_rfl⟩, ⟨by kernel_rfl, by kernel_rfl⟩, ⟨by kernel_rfl, by kernel_rfl⟩, ⟨by kernel_rfl, by kernel_rfl⟩, ⟨by kernel_rfl, by kernel_rfl⟩, ⟨by kernel_rfl, by kernel_rfl⟩, ⟨by kernel_rfl, by kernel_rfl⟩, trivial⟩, (hW.pick [0, 1, 2, 3, 4, 5, 6] (by decide) rfl).pickG [2, 3, 0, 1, 2, 3, 4] rfl⟩))
           · skip
             clear hA ac hW; rintro ac w86 ⟨T7, A7, c7, L7, P7, B7, d7, C7, e7, hG7, hl7, hcd7, hce7, hA, hW⟩
             have hz7 : _ = _ := congrArg List.length hG7.l_; simp only at hz7
             refine thenN ?_
             refine wpIn_seq ?_
             refine wpIn_region_lit ?_
             refine st_rdF (v := Value.pointer none) hA (by kernel_rfl) (by kernel_rfl) (by kernel_rfl) (by kernel_rfl) hW.cls (Rd.pure fun _ => by kernel_rfl) ?_; clear hA ac; intro ac hA
             refine wpListIn_nil ?_
             refine thenN ?_
             refine wpIn_seq ?_
             refine wpIn_seq ?_
             refine wpIn_region_lit ?_
             refine st_rdF (v := Value.bool zero) hA (by kernel_rfl) (by kernel_rfl) (by kernel_rfl) (by kernel_rfl) hW.cls (Rd.pure fun _ => by kernel_rfl) ?_; clear hA ac; intro ac hA
             refine wpListIn_nil ?_
             refine thenN ?_
             refine wpIn_cond_split (t := zero) (hA.eval (by kernel_rfl)) (fun h87 => ?_) (fun h87 => ?_)
             · skip
               first
               | (exfalso; clear hA hW; omega)
               | (
                 refine wpIn_region_lit ?_
                 refine st_rdF (v := Value.agg #[Value.pointer none, Value.int .i64 0, Value.int .i64 0, Value.slice none 0 0]) hA (by kernel_rfl) (by kernel_rfl) (by kernel_rfl) (by kernel_rfl) hW.cls (Rd.pure fun _ => by kernel_rfl) ?_; clear hA ac; intro ac hA
                 refine stF hA (by kernel_rfl) (by kernel_rfl) (by kernel_rfl) (by kernel_rfl) (RunsF.of (Runs.cells (fun b => Value.pointer (some ⟨b, 0, none⟩)) #[Value.pointer none, Value.int .i64 0, Value.int .i64 0, Value.slice none 0 0] 61 (fun _ => by kernel_rfl) hW ?_)); clear hA ac hW; intro b88 w89 hW hb88 hfw89 ac hA
                 refine st_rdF (v := Value.pointer (some ⟨b88, 0, none⟩)) hA (by kernel_rfl) (by kernel_rfl) (by kernel_rfl) (by kernel_rfl) hW.cls (Rd.pure fun _ => by kernel_rfl) ?_; clear hA ac; intro ac hA
                 refine wpListIn_nil ?_
                 refine thenN ?_
                 refine wpIn_seq ?_
                 refine wpIn_region_lit ?_
                 refine st_rdF (v := Value.pointer (some ⟨b88, 0, none⟩)) hA (by kernel_rfl) (by kernel_rfl) (by kernel_rfl) (by kernel_rfl) hW.cls (Rd.pure fun _ => by kernel_rfl) ?_; clear hA ac; intro ac hA
                 refine st_rdF (v := Value.pointer (some ⟨b1, 0, none⟩)) hA (by kernel_rfl) (by kernel_rfl) (by kernel_rfl) (by kernel_rfl) hW.cls (Rd.pure fun _ => by kernel_rfl) ?_; clear hA ac; intro ac hA
                 refine st_rdF (v := Value.agg #[Value.int .i64 two.a.at_, Value.int .u32 two.a.addr, Value.int .i64 two.a.e.g, Value.int .i64 two.a.e.s.f, Value.int .i64 two.a.e.s.pc, Value.int .i64 two.a.e.k, Value.int .i64 two.a.l.g, Value.int .i64 two.a.l.s.f, Value.int .i64 two.a.l.s.pc, Value.int .i64 two.a.l.k]) hA (by kernel_rfl) (by kernel_rfl) (by kernel_rfl) (by kernel_rfl) hW.cls (Rd.load (b := b1) (i := 0) (by kernel_rfl) (fun _ hw => (hw.1).cel 7 rfl) (by kernel_rfl)) ?_; clear hA ac; intro ac hA
                 refine stF hA (by kernel_rfl) (by kernel_rfl) (by kernel_rfl) (by kernel_rfl) (RunsF.of (Runs.callN (v := Value.tuple #[Value.bool false, Value.int .i64 1]) (fun _ => by kernel_rfl) hW (e_ttake_z b88 two.a w89 ((hW).cel 0 rfl)) ?_)); clear hA ac hW; intro w90 hW hfw90 ac hA
                 refine st_rdF (v := Value.tuple #[Value.bool false, Value.int .i64 1]) hA (by kernel_rfl) (by kernel_rfl) (by kernel_rfl) (by kernel_rfl) hW.cls (Rd.pure fun _ => by kernel_rfl) ?_; clear hA ac; intro ac hA
                 refine st_rdF (v := Value.bool false) hA (by kernel_rfl) (by kernel_rfl) (by kernel_rfl) (by kernel_rfl) hW.cls (Rd.pure fun _ => by kernel_rfl) ?_; clear hA ac; intro ac hA
                 refine st_rdF (v := Value.int .i64 1) hA (by kernel_rfl) (by kernel_rfl) (by kernel_rfl) (by kernel_rfl) hW.cls (Rd.pure fun _ => by kernel_rfl) ?_; clear hA ac; intro ac hA
                 refine st_rdF (v := Value.bool false) hA (by kernel_rfl) (by kernel_rfl) (by kernel_rfl) (by kernel_rfl) hW.cls (Rd.pure fun _ => by kernel_rfl) ?_; clear hA ac; intro ac hA
                 refine st_rdF (v := Value.int .i64 1) hA (by kernel_rfl) (by kernel_rfl) (by kernel_rfl) (by kernel_rfl) hW.cls (Rd.pure fun _ => by kernel_rfl) ?_; clear hA ac; intro ac hA
                 refine wpListIn_nil ?_
                 refine thenN ?_
                 refine wpIn_seq ?_
                 refine wpIn_region_lit ?_
                 refine st_rdF (v := Value.pointer (some ⟨b88, 0, none⟩)) hA (by kernel_rfl) (by kernel_rfl) (by kernel_rfl) (by kernel_rfl) hW.cls (Rd.pure fun _ => by kernel_rfl) ?_; clear hA ac; intro ac hA
                 refine stF hA (by kernel_rfl) (by kernel_rfl) (by kernel_rfl) (by kernel_rfl) (RunsF.of (Runs.call (fun _ => by kernel_rfl) (e_reports_z b88 w90 ((hW).cel 0 rfl)) ?_))
                 rintro _ w91 ⟨lb92, g93, rfl, hIg93, hfg93, hfw91⟩; refine ⟨_, rfl, ?_⟩; have hW0 := hW; have hW := hW0.call hfw91; have hW := hW0.addFromAt hW hfg93 in_nil; clear hW0 hA ac; intro ac hA
                 refine st_rdF (v := Value.func (.func 42) #[] lb92) hA (by kernel_rfl) (by kernel_rfl) (by kernel_rfl) (by kernel_rfl) hW.cls (Rd.pure fun _ => by kernel_rfl) ?_; clear hA ac; intro ac hA
                 refine wpListIn_nil ?_
                 refine thenN ?_
                 refine wpIn_seq ?_
                 refine wpIn_seq ?_
                 refine wpIn_region_lit ?_
                 refine st_rdF (v := Value.func (.func 42) #[] lb92) hA (by kernel_rfl) (by kernel_rfl) (by kernel_rfl) (by kernel_rfl) hW.cls (Rd.pure fun _ => by kernel_rfl) ?_; clear hA ac; intro ac hA
                 refine st_rdF (v := Value.bool false) hA (by kernel_rfl) (by kernel_rfl) (by kernel_rfl) (by kernel_rfl) hW.cls (Rd.pure fun _ => by kernel_rfl) ?_; clear hA ac; intro ac hA
                 refine wpListIn_nil ?_
                 refine thenN ?_
                 refine wpIn_cond_false (hA.eval (by kernel_rfl)) ?_
                 refine wpIn_skip ?_
                 refine thenN ?_
                 refine wpIn_seq ?_
                 refine wpIn_seq ?_
                 refine wpIn_region_lit ?_
                 refine st_rdF (v := Value.func (.func 42) #[] lb92) hA (by kernel_rfl) (by kernel_rfl) (by kernel_rfl) (by kernel_rfl) hW.cls (Rd.pure fun _ => by kernel_rfl) ?_; clear hA ac; intro ac hA
                 refine wpListIn_nil ?_
                 refine thenN ?_
                 refine wpIn_block ?_
                 refine wp_range (encs := (fun x_ : Flag × Nat => #[Value.int .i64 ((x_.2 : Nat) : Int), x_.1.v])) (Sx := (· = ([] : List Flag).zipIdx)) hA (by kernel_rfl) (by kernel_rfl) (enters_of Try.func42 (by kernel_rfl) rfl) (by kernel_rfl) (fun _ => rfl) hIg93 (List.forall_mem_singleton.2 (List.mem_of_getElem? (i := 0) rfl)) (fun pre_ H_ => ∃ k : Nat, pre_ = ([] : List Flag).zipIdx.take k ∧ k ≤ ([] : List Flag).length ∧ H_ = []) (fun _ _ _ => False) (H := []) (K := [Cel b88 #[Value.pointer none, Value.int .i64 0, Value.int .i64 0, Value.slice none 0 0] 61, Cel br12_3 #[Value.int .i64 5, Value.slice B7 L7.length d7, Value.slice C7 P7.length e7] 29, Cel br12_2 #[Value.int .i64 5, Value.slice B5 L5.length d5, Value.slice C5 P5.length e5] 29, TabR n37 n38 n39 A7 c7 T7, Cel b12 #[Value.int .i64 5, Value.slice A1 Lk.length c1, Value.slice A2 Pk.length c2] 29, TabR n9 n10 n11 A5 c5 T5, Cel b3 #[Value.bool false] 4, Cel b1 #[Value.int .i64 two.a.at_, Value.int .u32 two.a.addr, Value.int .i64 two.a.e.g, Value.int .i64 two.a.e.s.f, Value.int .i64 two.a.e.s.pc, Value.int .i64 two.a.e.k, Value.int .i64 two.a.l.g, Value.int .i64 two.a.l.s.f, Value.int .i64 two.a.l.s.pc, Value.int .i64 two.a.l.k, Value.int .i64 two.b.at_, Value.int .u32 two.b.addr, Value.int .i64 two.b.e.g, Value.int .i64 two.b.e.s.f, Value.int .i64 two.b.e.s.pc, Value.int .i64 two.b.e.k, Value.int .i64 two.b.l.g, Value.int .i64 two.b.l.s.f, Value.int .i64 two.b.l.s.pc, Value.int .i64 two.b.l.k] 55]) (hW.pick [0, 1, 2, 3, 4, 5, 6, 7] (by decide) rfl) ⟨0, rfl, Nat.zero_le _, rfl⟩ ?_ ?_ ?_
                 · skip
                   clear hA ac hW; intro l_94 rd_94 bs_94 pre_ x_ Hk_ w95 T_94 ac hrd_94 hbs_94 hbr_94 hok_ hJ_ hA hW hB_94 hT_94
                   obtain ⟨k, rfl, hk_, rfl⟩ := hJ_
                   replace hA : Fm 157 [] [(2, Value.bool zero), (4, Value.pointer (some ⟨b1, 0, none⟩)), (6, Value.pointer (some ⟨b3, 0, none⟩)), (7, Value.pointer (some ⟨n9, 0, none⟩)), (8, Value.int .i64 0), (13, Value.pointer (some ⟨n37, 0, none⟩)), (14, Value.pointer (some ⟨br12_2, 0, none⟩)), (15, Value.pointer (some ⟨br12_3, 0, none⟩)), (20, Value.pointer (some ⟨b88, 0, none⟩)), (21, Value.bool false), (22, Value.int .i64 1), (23, Value.func (.func 42) #[] lb92), (98, Value.bool zero), (99, Value.agg #[Value.pointer none, Value.int .i64 0, Value.int .i64 0, Value.slice none 0 0]), (100, Value.pointer (some ⟨b88, 0, none⟩)), (101, Value.tuple #[Value.bool false, Value.int .i64 1]), (102, Value.pointer (some ⟨b88, 0, none⟩)), (103, Value.pointer (some ⟨b1, 0, none⟩)), (104, Value.agg #[Value.int .i64 two.a.at_, Value.int .u32 two.a.addr, Value.int .i64 two.a.e.g, Value.int .i64 two.a.e.s.f, Value.int .i64 two.a.e.s.pc, Value.int .i64 two.a.e.k, Value.int .i64 two.a.l.g, Value.int .i64 two.a.l.s.f, Value.int .i64 two.a.l.s.pc, Value.int .i64 two.a.l.k]), (105, Value.tuple #[Value.bool false, Value.int .i64 1]), (106, Value.bool false), (107, Value.int .i64 1), (108, Value.pointer (some ⟨b88, 0, none⟩)), (109, Value.func (.func 42) #[] lb92), (110, Value.func (.func 42) #[] lb92), (111, Value.bool false), (112, Value.func (.func 42) #[] lb92), (113, Value.int .i64 ((x_.2 : Nat) : Int)), (114, x_.1.v)] ac := hA.sub ⟨⟨by kernel_rfl, by kernel_rfl⟩, ⟨by kernel_rfl, by kernel_rfl⟩, ⟨by kernel_rfl, by kernel_rfl⟩, ⟨by kernel_rfl, by kernel_rfl⟩, ⟨by kernel_rfl, by kernel_rfl⟩, ⟨by kernel_rfl, by kernel_rfl⟩, ⟨by kernel_rfl, by kernel_rfl⟩, ⟨by kernel_rfl, by kernel_rfl⟩, ⟨by kernel_rfl, by kernel_rfl⟩, ⟨by kernel_rfl, by kernel_rfl⟩, ⟨by kernel_rfl, by kernel_rfl⟩, ⟨by kernel_rfl, by kernel_rfl⟩, ⟨by kernel_rfl, by kernel_rfl⟩, ⟨by kernel_rfl, by kernel_rfl⟩, ⟨by kernel_rfl, by kernel_rfl⟩, ⟨by kernel_rfl, by kernel_rfl⟩, ⟨by kernel_rfl, by kernel_rfl⟩, ⟨by kernel_rfl, by kernel_rfl⟩, ⟨by kernel_rfl, by kernel_rfl⟩, ⟨by kernel_rfl, by kernel_rfl⟩, ⟨by kernel_rfl, by kernel_rfl⟩, ⟨by kernel_rfl, by kernel_rfl⟩, ⟨by kernel_rfl, by kernel_rfl⟩, ⟨by kernel_rfl, by kernel_rfl⟩, ⟨by kernel_rfl, by kernel_rfl⟩, ⟨by kernel_rfl, by kernel_rfl⟩, ⟨by kernel_rfl, by kernel_rfl⟩, ⟨by kernel_rfl, by kernel_rfl⟩, ⟨by kernel_rfl, by kernel_rfl⟩, trivial⟩
                   exact (comes_nilz hok_).elim
                 · skip
                   clear hA ac hW; intro D96 xs_ Hk_ w97 ac hS_ hJ_ hA hW
                   obtain ⟨k, hpre_, hk_, rfl⟩ := hJ_
                   replace hW : Ws w No [DefR D96, Cel b88 #[Value.pointer none, Value.int .i64 0, Value.int .i64 0, Value.slice none 0 0] 61, Cel br12_3 #[Value.int .i64 5, Value.slice B7 L7.length d7, Value.slice C7 P7.length e7] 29, Cel br12_2 #[Value.int .i64 5, Value.slice B5 L5.length d5, Value.slice C5 P5.length e5] 29, TabR n37 n38 n39 A7 c7 T7, Cel b12 #[Value.int .i64 5, Value.slice A1 Lk.length c1, Value.slice A2 Pk.length c2] 29, TabR n9 n10 n11 A5 c5 T5, Cel b3 #[Value.bool false] 4, Cel b1 #[Value.int .i64 two.a.at_, Value.int .u32 two.a.addr, Value.int .i64 two.a.e.g, Value.int .i64 two.a.e.s.f, Value.int .i64 two.a.e.s.pc, Value.int .i64 two.a.e.k, Value.int .i64 two.a.l.g, Value.int .i64 two.a.l.s.f, Value.int .i64 two.a.l.s.pc, Value.int .i64 two.a.l.k, Value.int .i64 two.b.at_, Value.int .u32 two.b.addr, Value.int .i64 two.b.e.g, Value.int .i64 two.b.e.s.f, Value.int .i64 two.b.e.s.pc, Value.int .i64 two.b.e.k, Value.int .i64 two.b.l.g, Value.int .i64 two.b.l.s.f, Value.int .i64 two.b.l.s.pc, Value.int .i64 two.b.l.k] 55] [g93, roR B7 10 enFlag L7, roR C7 4 enPair P7, roR B5 10 enFlag L5, roR C5 4 enPair P5, roR A1 10 enFlag Lk, roR A2 4 enPair Pk, roR A_l 10 enFlag l] w97 := hW
                   refine blkN ?_
                   refine thenN ?_
                   refine wpIn_seq ?_
                   refine wpIn_region_lit ?_
                   refine st_rdF (v := Value.int .i64 0) hA (by kernel_rfl) (by kernel_rfl) (by kernel_rfl) (by kernel_rfl) hW.cls (Rd.pure fun _ => by kernel_rfl) ?_; clear hA ac; intro ac hA
                   refine stF hA (by kernel_rfl) (by kernel_rfl) (by kernel_rfl) (by kernel_rfl) (RunsF.of (Runs.callS (v := Value.int .i64 (0)) (fun _ => by kernel_rfl) (num27_any (0) w97) ?_)); clear hA ac; intro  ac hA
                   refine st_rdF (v := Value.bool (((0) : Int) == (0 : Int))) hA (by kernel_rfl) (by kernel_rfl) (by kernel_rfl) (by kernel_rfl) hW.cls (Rd.pure fun _ => by kernel_rfl) ?_; clear hA ac; intro ac hA
                   refine st_rdF (v := Value.bool (((0) : Int) == (0 : Int))) hA (by kernel_rfl) (by kernel_rfl) (by kernel_rfl) (by kernel_rfl) hW.cls (Rd.pure fun _ => by kernel_rfl) ?_; clear hA ac; intro ac hA
                   rcases Bool.eq_false_or_eq_true (((0) : Int) == (0 : Int)) with h98 | h98
                   · skip
                     rw [h98] at hA
                     have h98 := eq_of_beq h98
                     first
                     | (exfalso; clear hA hW; omega)
                     | (
                       refine st_rdF (v := Value.pointer (some ⟨n9, 0, none⟩)) hA (by kernel_rfl) (by kernel_rfl) (by kernel_rfl) (by kernel_rfl) hW.cls (Rd.pure fun _ => by kernel_rfl) ?_; clear hA ac; intro ac hA
                       refine st_rdF (v := Value.agg #[Value.int .i64 5, Value.slice B5 L5.length d5, Value.slice C5 P5.length e5]) hA (by kernel_rfl) (by kernel_rfl) (by kernel_rfl) (by kernel_rfl) hW.cls (Rd.load (b := br12_2) (i := 0) (by kernel_rfl) (fun _ hw => (hw.1).cel 3 rfl) (by kernel_rfl)) ?_; clear hA ac; intro ac hA
                       refine st_rdF (v := Value.agg #[Value.int .i64 0, Value.int .i64 0, Value.int .i64 0, Value.int .i64 0]) hA (by kernel_rfl) (by kernel_rfl) (by kernel_rfl) (by kernel_rfl) hW.cls (Rd.pure fun _ => by kernel_rfl) ?_; clear hA ac; intro ac hA
                       refine stF hA (by kernel_rfl) (by kernel_rfl) (by kernel_rfl) (by kernel_rfl) (RunsF.of (Runs.callN (v := Value.bool true) (fun _ => by kernel_rfl) hW (e_is27 n9 n10 n11 A5 c5 T5 (5) B5 d5 L5 C5 e5 P5 (⟨(⟨0, 0⟩ : Site), (⟨0, 0⟩ : Site)⟩ : Pair) (99) w97 ((hW).get 6 rfl) ((hW).lt _ (List.mem_of_getElem? (i := 6) rfl)) ((hW).getG 3 rfl) (by first | assumption | omega | (simp; omega) | simp) ((hW).getG 4 rfl) (by first | assumption | omega | (simp; omega) | simp) (by first | omega | exact ⟨by omega, by omega⟩ | exact hK.nd | exact hK.ok | exact hG5 | exact hG7 | assumption | simp) (by first | omega | exact ⟨by omega, by omega⟩ | exact hK.nd | exact hK.ok | exact hG5 | exact hG7 | assumption | simp) (by first | omega | exact ⟨by omega, by omega⟩ | exact hK.nd | exact hK.ok | exact hG5 | exact hG7 | assumption | simp) (by first | omega | exact ⟨by omega, by omega⟩ | exact hK.nd | exact hK.ok | exact hG5 | exact hG7 | assumption | simp)) ?_)); clear hA ac hW; intro w99 hW hfw99 ac hA
                       refine st_rdF (v := Value.bool true) hA (by kernel_rfl) (by kernel_rfl) (by kernel_rfl) (by kernel_rfl) hW.cls (Rd.pure fun _ => by kernel_rfl) ?_; clear hA ac; intro ac hA
                       refine st_rdF (v := Value.bool true) hA (by kernel_rfl) (by kernel_rfl) (by kernel_rfl) (by kernel_rfl) hW.cls (Rd.pure fun _ => by kernel_rfl) ?_; clear hA ac; intro ac hA
                       refine st_rdF (v := Value.pointer (some ⟨n37, 0, none⟩)) hA (by kernel_rfl) (by kernel_rfl) (by kernel_rfl) (by kernel_rfl) hW.cls (Rd.pure fun _ => by kernel_rfl) ?_; clear hA ac; intro ac hA
                       refine st_rdF (v := Value.agg #[Value.int .i64 5, Value.slice B7 L7.length d7, Value.slice C7 P7.length e7]) hA (by kernel_rfl) (by kernel_rfl) (by kernel_rfl) (by kernel_rfl) hW.cls (Rd.load (b := br12_3) (i := 0) (by kernel_rfl) (fun _ hw => (hw.1).cel 2 rfl) (by kernel_rfl)) ?_; clear hA ac; intro ac hA
                       refine st_rdF (v := Value.agg #[Value.int .i64 0, Value.int .i64 0, Value.int .i64 0, Value.int .i64 0]) hA (by kernel_rfl) (by kernel_rfl) (by kernel_rfl) (by kernel_rfl) hW.cls (Rd.pure fun _ => by kernel_rfl) ?_; clear hA ac; intro ac hA
                       refine stF hA (by kernel_rfl) (by kernel_rfl) (by kernel_rfl) (by kernel_rfl) (RunsF.of (Runs.callN (v := Value.bool true) (fun _ => by kernel_rfl) hW (e_is27 n37 n38 n39 A7 c7 T7 (5) B7 d7 L7 C7 e7 P7 (⟨(⟨0, 0⟩ : Site), (⟨0, 0⟩ : Site)⟩ : Pair) (99) w99 ((hW).get 4 rfl) ((hW).lt _ (List.mem_of_getElem? (i := 4) rfl)) ((hW).getG 1 rfl) (by first | assumption | omega | (simp; omega) | simp) ((hW).getG 2 rfl) (by first | assumption | omega | (simp; omega) | simp) (by first | omega | exact ⟨by omega, by omega⟩ | exact hK.nd | exact hK.ok | exact hG5 | exact hG7 | assumption | simp) (by first | omega | exact ⟨by omega, by omega⟩ | exact hK.nd | exact hK.ok | exact hG5 | exact hG7 | assumption | simp) (by first | omega | exact ⟨by omega, by omega⟩ | exact hK.nd | exact hK.ok | exact hG5 | exact hG7 | assumption | simp) (by first | omega | exact ⟨by omega, by omega⟩ | exact hK.nd | exact hK.ok | exact hG5 | exact hG7 | assumption | simp)) ?_)); clear hA ac hW; intro w100 hW hfw100 ac hA
                       refine st_rdF (v := Value.bool true) hA (by kernel_rfl) (by kernel_rfl) (by kernel_rfl) (by kernel_rfl) hW.cls (Rd.pure fun _ => by kernel_rfl) ?_; clear hA ac; intro ac hA
                       refine st_rdF (v := Value.bool true) hA (by kernel_rfl) (by kernel_rfl) (by kernel_rfl) (by kernel_rfl) hW.cls (Rd.pure fun _ => by kernel_rfl) ?_; clear hA ac; intro ac hA
                       refine st_rdF (v := Value.int .i64 1) hA (by kernel_rfl) (by kernel_rfl) (by kernel_rfl) (by kernel_rfl) hW.cls (Rd.pure fun _ => by kernel_rfl) ?_; clear hA ac; intro ac hA
                       refine stF hA (by kernel_rfl) (by kernel_rfl) (by kernel_rfl) (by kernel_rfl) (RunsF.of (Runs.callS (v := Value.int .i64 (1)) (fun _ => by kernel_rfl) (num27_any (1) w100) ?_)); clear hA ac; intro  ac hA
                       refine st_rdF (v := Value.bool (((1) : Int) == (1 : Int))) hA (by kernel_rfl) (by kernel_rfl) (by kernel_rfl) (by kernel_rfl) hW.cls (Rd.pure fun _ => by kernel_rfl) ?_; clear hA ac; intro ac hA
                       refine st_rdF (v := Value.bool (((1) : Int) == (1 : Int))) hA (by kernel_rfl) (by kernel_rfl) (by kernel_rfl) (by kernel_rfl) hW.cls (Rd.pure fun _ => by kernel_rfl) ?_; clear hA ac; intro ac hA
                       refine st_rdF (v := Value.bool (((1) : Int) == (1 : Int))) hA (by kernel_rfl) (by kernel_rfl) (by kernel_rfl) (by kernel_rfl) hW.cls (Rd.pure fun _ => by kernel_rfl) ?_; clear hA ac; intro ac hA
                       rcases Bool.eq_false_or_eq_true (((1) : Int) == (1 : Int)) with h101 | h101
                       · skip
                         rw [h101] at hA
                         have h101 := eq_of_beq h101
                         first
                         | (exfalso; clear hA hW; omega)
                         | (
                           refine st_rdF (v := Value.pointer (some ⟨b88, 0, none⟩)) hA (by kernel_rfl) (by kernel_rfl) (by kernel_rfl) (by kernel_rfl) hW.cls (Rd.pure fun _ => by kernel_rfl) ?_; clear hA ac; intro ac hA
                           refine stF hA (by kernel_rfl) (by kernel_rfl) (by kernel_rfl) (by kernel_rfl) (RunsF.of (Runs.callS (v := Value.int .i64 0) (fun _ => by kernel_rfl) (e_tlen_z b88 w100 ((hW).cel 1 rfl)) ?_)); clear hA ac; intro  ac hA
                           refine st_rdF (v := Value.pointer (some ⟨b88, 0, none⟩)) hA (by kernel_rfl) (by kernel_rfl) (by kernel_rfl) (by kernel_rfl) hW.cls (Rd.pure fun _ => by kernel_rfl) ?_; clear hA ac; intro ac hA
                           refine stF hA (by kernel_rfl) (by kernel_rfl) (by kernel_rfl) (by kernel_rfl) (RunsF.of (Runs.callS (v := Value.int .i64 0) (fun _ => by kernel_rfl) (e_tdropped_z b88 w100 ((hW).cel 1 rfl)) ?_)); clear hA ac; intro  ac hA
                           refine st_rdF (v := Value.int .i64 0) hA (by kernel_rfl) (by kernel_rfl) (by kernel_rfl) (by kernel_rfl) hW.cls (Rd.pureE (v0 := Value.int .i64 (IntKind.i64.wrap ((0 : Int) + 0))) (fun _ => by kernel_rfl) (congrArg (Value.int .i64) ((w_i64 (x := (0 : Int) + 0) (by omega) (by omega)).trans (by omega)))) ?_; clear hA ac; intro ac hA
                           refine st_rdF (v := Value.bool true) hA (by kernel_rfl) (by kernel_rfl) (by kernel_rfl) (by kernel_rfl) hW.cls (Rd.pure fun _ => by kernel_rfl) ?_; clear hA ac; intro ac hA
                           refine st_rdF (v := Value.bool true) hA (by kernel_rfl) (by kernel_rfl) (by kernel_rfl) (by kernel_rfl) hW.cls (Rd.pure fun _ => by kernel_rfl) ?_; clear hA ac; intro ac hA
                           refine st_rdF (v := Value.bool true) hA (by kernel_rfl) (by kernel_rfl) (by kernel_rfl) (by kernel_rfl) hW.cls (Rd.pure fun _ => by kernel_rfl) ?_; clear hA ac; intro ac hA
                           refine st_rdF (v := Value.pointer (some ⟨b88, 0, none⟩)) hA (by kernel_rfl) (by kernel_rfl) (by kernel_rfl) (by kernel_rfl) hW.cls (Rd.pure fun _ => by kernel_rfl) ?_; clear hA ac; intro ac hA
                           refine st_rdF (v := Value.agg #[Value.int .i64 0, Value.int .i64 0, Value.int .i64 0, Value.int .i64 0]) hA (by kernel_rfl) (by kernel_rfl) (by kernel_rfl) (by kernel_rfl) hW.cls (Rd.pure fun _ => by kernel_rfl) ?_; clear hA ac; intro ac hA
                           refine stF hA (by kernel_rfl) (by kernel_rfl) (by kernel_rfl) (by kernel_rfl) (RunsF.of (Runs.callN (v := Value.bool false) (fun _ => by kernel_rfl) hW (e_thas_z b88 (⟨(⟨0, 0⟩ : Site), (⟨0, 0⟩ : Site)⟩ : Pair) w100 ((hW).cel 1 rfl)) ?_)); clear hA ac hW; intro w102 hW hfw102 ac hA
                           refine st_rdF (v := Value.bool true) hA (by kernel_rfl) (by kernel_rfl) (by kernel_rfl) (by kernel_rfl) hW.cls (Rd.pure fun _ => by kernel_rfl) ?_; clear hA ac; intro ac hA
                           refine st_rdF (v := Value.bool true) hA (by kernel_rfl) (by kernel_rfl) (by kernel_rfl) (by kernel_rfl) hW.cls (Rd.pure fun _ => by kernel_rfl) ?_; clear hA ac; intro ac hA
                           refine st_rdF (v := Value.bool true) hA (by kernel_rfl) (by kernel_rfl) (by kernel_rfl) (by kernel_rfl) hW.cls (Rd.pure fun _ => by kernel_rfl) ?_; clear hA ac; intro ac hA
                           refine st_rdF (v := Value.pointer (some ⟨b88, 0, none⟩)) hA (by kernel_rfl) (by kernel_rfl) (by kernel_rfl) (by kernel_rfl) hW.cls (Rd.pure fun _ => by kernel_rfl) ?_; clear hA ac; intro ac hA
                           refine stF hA (by kernel_rfl) (by kernel_rfl) (by kernel_rfl) (by kernel_rfl) (RunsF.of (Runs.callN (v := Value.pointer none) (fun _ => by kernel_rfl) hW (e_tcopy_z b88 w102 ((hW).cel 1 rfl)) ?_)); clear hA ac hW; intro w103 hW hfw103 ac hA
                           refine st_rdF (v := Value.bool true) hA (by kernel_rfl) (by kernel_rfl) (by kernel_rfl) (by kernel_rfl) hW.cls (Rd.pure fun _ => by kernel_rfl) ?_; clear hA ac; intro ac hA
                           refine st_rdF (v := Value.bool true) hA (by kernel_rfl) (by kernel_rfl) (by kernel_rfl) (by kernel_rfl) hW.cls (Rd.pure fun _ => by kernel_rfl) ?_; clear hA ac; intro ac hA
                           refine st_rdF (v := Value.bool true) hA (by kernel_rfl) (by kernel_rfl) (by kernel_rfl) (by kernel_rfl) hW.cls (Rd.pure fun _ => by kernel_rfl) ?_; clear hA ac; intro ac hA
                           refine stF hA (by kernel_rfl) (by kernel_rfl) (by kernel_rfl) (by kernel_rfl) (RunsF.of (Runs.callN (v := Value.bool true) (fun _ => by kernel_rfl) hW (works27_any w103) ?_)); clear hA ac hW; intro w104 hW hfw104 ac hA
                           refine st_rdF (v := Value.bool true) hA (by kernel_rfl) (by kernel_rfl) (by kernel_rfl) (by kernel_rfl) hW.cls (Rd.pure fun _ => by kernel_rfl) ?_; clear hA ac; intro ac hA
                           refine stF hA (by kernel_rfl) (by kernel_rfl) (by kernel_rfl) (by kernel_rfl) (RunsF.of (Runs.store (v := Value.bool true) (b := b3) (j := 0) (n := 1) (cs' := #[Value.bool true]) (H' := [DefR D96, Cel b88 #[Value.pointer none, Value.int .i64 0, Value.int .i64 0, Value.slice none 0 0] 61, Cel br12_3 #[Value.int .i64 5, Value.slice B7 L7.length d7, Value.slice C7 P7.length e7] 29, Cel br12_2 #[Value.int .i64 5, Value.slice B5 L5.length d5, Value.slice C5 P5.length e5] 29, TabR n37 n38 n39 A7 c7 T7, Cel b12 #[Value.int .i64 5, Value.slice A1 Lk.length c1, Value.slice A2 Pk.length c2] 29, TabR n9 n10 n11 A5 c5 T5, Cel b3 #[Value.bool true] 4, Cel b1 #[Value.int .i64 two.a.at_, Value.int .u32 two.a.addr, Value.int .i64 two.a.e.g, Value.int .i64 two.a.e.s.f, Value.int .i64 two.a.e.s.pc, Value.int .i64 two.a.e.k, Value.int .i64 two.a.l.g, Value.int .i64 two.a.l.s.f, Value.int .i64 two.a.l.s.pc, Value.int .i64 two.a.l.k, Value.int .i64 two.b.at_, Value.int .u32 two.b.addr, Value.int .i64 two.b.e.g, Value.int .i64 two.b.e.s.f, Value.int .i64 two.b.e.s.pc, Value.int .i64 two.b.e.k, Value.int .i64 two.b.l.g, Value.int .i64 two.b.l.s.f, Value.int .i64 two.b.l.s.pc, Value.int .i64 two.b.l.k] 55]) (by kernel_rfl) (by kernel_rfl) (by kernel_rfl) (by kernel_rfl) (by kernel_rfl) hW 7 (by rfl) (Nat.le_of_ble_eq_true (by kernel_rfl)) (by kernel_rfl) (by rfl) ?_)); clear hA ac hW; intro w105 hW ac hA
                           refine wpListIn_nil ?_
                           refine thenN ?_
                           refine wpIn_ret ?_
                           refine retF (.inl rfl) hA ?_
                           refine leaveD (H' := [Cel b88 #[Value.pointer none, Value.int .i64 0, Value.int .i64 0, Value.slice none 0 0] 61, Cel br12_3 #[Value.int .i64 5, Value.slice B7 L7.length d7, Value.slice C7 P7.length e7] 29, Cel br12_2 #[Value.int .i64 5, Value.slice B5 L5.length d5, Value.slice C5 P5.length e5] 29, TabR n37 n38 n39 A7 c7 T7, Cel b12 #[Value.int .i64 5, Value.slice A1 Lk.length c1, Value.slice A2 Pk.length c2] 29, TabR n9 n10 n11 A5 c5 T5, Cel b3 #[Value.bool true] 4, Cel b1 #[Value.int .i64 two.a.at_, Value.int .u32 two.a.addr, Value.int .i64 two.a.e.g, Value.int .i64 two.a.e.s.f, Value.int .i64 two.a.e.s.pc, Value.int .i64 two.a.e.k, Value.int .i64 two.a.l.g, Value.int .i64 two.a.l.s.f, Value.int .i64 two.a.l.s.pc, Value.int .i64 two.a.l.k, Value.int .i64 two.b.at_, Value.int .u32 two.b.addr, Value.int .i64 two.b.e.g, Value.int .i64 two.b.e.s.f, Value.int .i64 two.b.e.s.pc, Value.int .i64 two.b.e.k, Value.int .i64 two.b.l.g, Value.int .i64 two.b.l.s.f, Value.int .i64 two.b.l.s.pc, Value.int .i64 two.b.l.k] 55]) hW 0 rfl rfl ?_; clear hW; intro w106 hW
                           refine leave1 (v := Value.bool true) (by rfl) (GotF.cell (b := b3) (i := 0) hA (by kernel_rfl) (by kernel_rfl) (hW.cel 6 rfl) (by kernel_rfl)) ?_
                           clear hA
                           exact ⟨retv (by rfl), hW.fr⟩)
                       · skip
                         rw [h101] at hA
                         have h101 := ne_of_beq_false h101
                         first
                         | (exfalso; clear hA hW; omega)
                         | (
                           refine st_skipF hA (by kernel_rfl) (by kernel_rfl) ?_; clear hA ac; intro ac hA
                           refine st_skipF hA (by kernel_rfl) (by kernel_rfl) ?_; clear hA ac; intro ac hA
                           refine st_skipF hA (by kernel_rfl) (by kernel_rfl) ?_; clear hA ac; intro ac hA
                           refine st_skipF hA (by kernel_rfl) (by kernel_rfl) ?_; clear hA ac; intro ac hA
                           refine st_skipF hA (by kernel_rfl) (by kernel_rfl) ?_; clear hA ac; intro ac hA
                           refine st_skipF hA (by kernel_rfl) (by kernel_rfl) ?_; clear hA ac; intro ac hA
                           refine st_rdF (v := Value.bool false) hA (by kernel_rfl) (by kernel_rfl) (by kernel_rfl) (by kernel_rfl) hW.cls (Rd.pure fun _ => by kernel_rfl) ?_; clear hA ac; intro ac hA
                           refine st_rdF (v := Value.bool false) hA (by kernel_rfl) (by kernel_rfl) (by kernel_rfl) (by kernel_rfl) hW.cls (Rd.pure fun _ => by kernel_rfl) ?_; clear hA ac; intro ac hA
                           refine st_skipF hA (by kernel_rfl) (by kernel_rfl) ?_; clear hA ac; intro ac hA
                           refine st_skipF hA (by kernel_rfl) (by kernel_rfl) ?_; clear hA ac; intro ac hA
                           refine st_skipF hA (by kernel_rfl) (by kernel_rfl) ?_; clear hA ac; intro ac hA
                           refine st_skipF hA (by kernel_rfl) (by kernel_rfl) ?_; clear hA ac; intro ac hA
                           refine st_rdF (v := Value.bool false) hA (by kernel_rfl) (by kernel_rfl) (by kernel_rfl) (by kernel_rfl) hW.cls (Rd.pure fun _ => by kernel_rfl) ?_; clear hA ac; intro ac hA
                           refine st_rdF (v := Value.bool false) hA (by kernel_rfl) (by kernel_rfl) (by kernel_rfl) (by kernel_rfl) hW.cls (Rd.pure fun _ => by kernel_rfl) ?_; clear hA ac; intro ac hA
                           refine st_skipF hA (by kernel_rfl) (by kernel_rfl) ?_; clear hA ac; intro ac hA
                           refine st_skipF hA (by kernel_rfl) (by kernel_rfl) ?_; clear hA ac; intro ac hA
                           refine st_skipF hA (by kernel_rfl) (by kernel_rfl) ?_; clear hA ac; intro ac hA
                           refine st_rdF (v := Value.bool false) hA (by kernel_rfl) (by kernel_rfl) (by kernel_rfl) (by kernel_rfl) hW.cls (Rd.pure fun _ => by kernel_rfl) ?_; clear hA ac; intro ac hA
                           refine st_rdF (v := Value.bool false) hA (by kernel_rfl) (by kernel_rfl) (by kernel_rfl) (by kernel_rfl) hW.cls (Rd.pure fun _ => by kernel_rfl) ?_; clear hA ac; intro ac hA
                           refine st_skipF hA (by kernel_rfl) (by kernel_rfl) ?_; clear hA ac; intro ac hA
                           refine st_rdF (v := Value.bool false) hA (by kernel_rfl) (by kernel_rfl) (by kernel_rfl) (by kernel_rfl) hW.cls (Rd.pure fun _ => by kernel_rfl) ?_; clear hA ac; intro ac hA
                           refine stF hA (by kernel_rfl) (by kernel_rfl) (by kernel_rfl) (by kernel_rfl) (RunsF.of (Runs.store (v := Value.bool false) (b := b3) (j := 0) (n := 1) (cs' := #[Value.bool false]) (H' := [DefR D96, Cel b88 #[Value.pointer none, Value.int .i64 0, Value.int .i64 0, Value.slice none 0 0] 61, Cel br12_3 #[Value.int .i64 5, Value.slice B7 L7.length d7, Value.slice C7 P7.length e7] 29, Cel br12_2 #[Value.int .i64 5, Value.slice B5 L5.length d5, Value.slice C5 P5.length e5] 29, TabR n37 n38 n39 A7 c7 T7, Cel b12 #[Value.int .i64 5, Value.slice A1 Lk.length c1, Value.slice A2 Pk.length c2] 29, TabR n9 n10 n11 A5 c5 T5, Cel b3 #[Value.bool false] 4, Cel b1 #[Value.int .i64 two.a.at_, Value.int .u32 two.a.addr, Value.int .i64 two.a.e.g, Value.int .i64 two.a.e.s.f, Value.int .i64 two.a.e.s.pc, Value.int .i64 two.a.e.k, Value.int .i64 two.a.l.g, Value.int .i64 two.a.l.s.f, Value.int .i64 two.a.l.s.pc, Value.int .i64 two.a.l.k, Value.int .i64 two.b.at_, Value.int .u32 two.b.addr, Value.int .i64 two.b.e.g, Value.int .i64 two.b.e.s.f, Value.int .i64 two.b.e.s.pc, Value.int .i64 two.b.e.k, Value.int .i64 two.b.l.g, Value.int .i64 two.b.l.s.f, Value.int .i64 two.b.l.s.pc, Value.int .i64 two.b.l.k] 55]) (by kernel_rfl) (by kernel_rfl) (by kernel_rfl) (by kernel_rfl) (by kernel_rfl) hW 7 (by rfl) (Nat.le_of_ble_eq_true (by kernel_rfl)) (by kernel_rfl) (by rfl) ?_)); clear hA ac hW; intro w107 hW ac hA
                           refine wpListIn_nil ?_
                           refine thenN ?_
                           refine wpIn_ret ?_
                           refine retF (.inl rfl) hA ?_
                           refine leaveD (H' := [Cel b88 #[Value.pointer none, Value.int .i64 0, Value.int .i64 0, Value.slice none 0 0] 61, Cel br12_3 #[Value.int .i64 5, Value.slice B7 L7.length d7, Value.slice C7 P7.length e7] 29, Cel br12_2 #[Value.int .i64 5, Value.slice B5 L5.length d5, Value.slice C5 P5.length e5] 29, TabR n37 n38 n39 A7 c7 T7, Cel b12 #[Value.int .i64 5, Value.slice A1 Lk.length c1, Value.slice A2 Pk.length c2] 29, TabR n9 n10 n11 A5 c5 T5, Cel b3 #[Value.bool false] 4, Cel b1 #[Value.int .i64 two.a.at_, Value.int .u32 two.a.addr, Value.int .i64 two.a.e.g, Value.int .i64 two.a.e.s.f, Value.int .i64 two.a.e.s.pc, Value.int .i64 two.a.e.k, Value.int .i64 two.a.l.g, Value.int .i64 two.a.l.s.f, Value.int .i64 two.a.l.s.pc, Value.int .i64 two.a.l.k, Value.int .i64 two.b.at_, Value.int .u32 two.b.addr, Value.int .i64 two.b.e.g, Value.int .i64 two.b.e.s.f, Value.int .i64 two.b.e.s.pc, Value.int .i64 two.b.e.k, Value.int .i64 two.b.l.g, Value.int .i64 two.b.l.s.f, Value.int .i64 two.b.l.s.pc, Value.int .i64 two.b.l.k] 55]) hW 0 rfl rfl ?_; clear hW; intro w108 hW
                           refine leave1 (v := Value.bool false) (by rfl) (GotF.cell (b := b3) (i := 0) hA (by kernel_rfl) (by kernel_rfl) (hW.cel 6 rfl) (by kernel_rfl)) ?_
                           clear hA
                           exact ⟨retv (by rfl), hW.fr⟩))
                   · skip
                     rw [h98] at hA
                     have h98 := ne_of_beq_false h98
                     first
                     | (exfalso; clear hA hW; omega)
                     | (
                       refine st_skipF hA (by kernel_rfl) (by kernel_rfl) ?_; clear hA ac; intro ac hA
                       refine st_skipF hA (by kernel_rfl) (by kernel_rfl) ?_; clear hA ac; intro ac hA
                       refine st_skipF hA (by kernel_rfl) (by kernel_rfl) ?_; clear hA ac; intro ac hA
                       refine st_skipF hA (by kernel_rfl) (by kernel_rfl) ?_; clear hA ac; intro ac hA
                       refine st_rdF (v := Value.bool false) hA (by kernel_rfl) (by kernel_rfl) (by kernel_rfl) (by kernel_rfl) hW.cls (Rd.pure fun _ => by kernel_rfl) ?_; clear hA ac; intro ac hA
                       refine st_rdF (v := Value.bool false) hA (by kernel_rfl) (by kernel_rfl) (by kernel_rfl) (by kernel_rfl) hW.cls (Rd.pure fun _ => by kernel_rfl) ?_; clear hA ac; intro ac hA
                       refine st_skipF hA (by kernel_rfl) (by kernel_rfl) ?_; clear hA ac; intro ac hA
                       refine st_skipF hA (by kernel_rfl) (by kernel_rfl) ?_; clear hA ac; intro ac hA
                       refine st_skipF hA (by kernel_rfl) (by kernel_rfl) ?_; clear hA ac; intro ac hA
                       refine st_skipF hA (by kernel_rfl) (by kernel_rfl) ?_; clear hA ac; intro ac hA
                       refine st_rdF (v := Value.bool false) hA (by kernel_rfl) (by kernel_rfl) (by kernel_rfl) (by kernel_rfl) hW.cls (Rd.pure fun _ => by kernel_rfl) ?_; clear hA ac; intro ac hA
                       refine st_rdF (v := Value.bool false) hA (by kernel_rfl) (by kernel_rfl) (by kernel_rfl) (by kernel_rfl) hW.cls (Rd.pure fun _ => by kernel_rfl) ?_; clear hA ac; intro ac hA
                       refine st_skipF hA (by kernel_rfl) (by kernel_rfl) ?_; clear hA ac; intro ac hA
                       refine st_skipF hA (by kernel_rfl) (by kernel_rfl) ?_; clear hA ac; intro ac hA
                       refine st_skipF hA (by kernel_rfl) (by kernel_rfl) ?_; clear hA ac; intro ac hA
                       refine st_rdF (v := Value.bool false) hA (by kernel_rfl) (by kernel_rfl) (by kernel_rfl) (by kernel_rfl) hW.cls (Rd.pure fun _ => by kernel_rfl) ?_; clear hA ac; intro ac hA
                       refine st_rdF (v := Value.bool false) hA (by kernel_rfl) (by kernel_rfl) (by kernel_rfl) (by kernel_rfl) hW.cls (Rd.pure fun _ => by kernel_rfl) ?_; clear hA ac; intro ac hA
                       refine st_skipF hA (by kernel_rfl) (by kernel_rfl) ?_; clear hA ac; intro ac hA
                       refine st_skipF hA (by kernel_rfl) (by kernel_rfl) ?_; clear hA ac; intro ac hA
                       refine st_skipF hA (by kernel_rfl) (by kernel_rfl) ?_; clear hA ac; intro ac hA
                       refine st_skipF hA (by kernel_rfl) (by kernel_rfl) ?_; clear hA ac; intro ac hA
                       refine st_skipF hA (by kernel_rfl) (by kernel_rfl) ?_; clear hA ac; intro ac hA
                       refine st_skipF hA (by kernel_rfl) (by kernel_rfl) ?_; clear hA ac; intro ac hA
                       refine st_rdF (v := Value.bool false) hA (by kernel_rfl) (by kernel_rfl) (by kernel_rfl) (by kernel_rfl) hW.cls (Rd.pure fun _ => by kernel_rfl) ?_; clear hA ac; intro ac hA
                       refine st_rdF (v := Value.bool false) hA (by kernel_rfl) (by kernel_rfl) (by kernel_rfl) (by kernel_rfl) hW.cls (Rd.pure fun _ => by kernel_rfl) ?_; clear hA ac; intro ac hA
                       refine st_skipF hA (by kernel_rfl) (by kernel_rfl) ?_; clear hA ac; intro ac hA
                       refine st_skipF hA (by kernel_rfl) (by kernel_rfl) ?_; clear hA ac; intro ac hA
                       refine st_skipF hA (by kernel_rfl) (by kernel_rfl) ?_; clear hA ac; intro ac hA
                       refine st_skipF hA (by kernel_rfl) (by kernel_rfl) ?_; clear hA ac; intro ac hA
                       refine st_rdF (v := Value.bool false) hA (by kernel_rfl) (by kernel_rfl) (by kernel_rfl) (by kernel_rfl) hW.cls (Rd.pure fun _ => by kernel_rfl) ?_; clear hA ac; intro ac hA
                       refine st_rdF (v := Value.bool false) hA (by kernel_rfl) (by kernel_rfl) (by kernel_rfl) (by kernel_rfl) hW.cls (Rd.pure fun _ => by kernel_rfl) ?_; clear hA ac; intro ac hA
                       refine st_skipF hA (by kernel_rfl) (by kernel_rfl) ?_; clear hA ac; intro ac hA
                       refine st_skipF hA (by kernel_rfl) (by kernel_rfl) ?_; clear hA ac; intro ac hA
                       refine st_skipF hA (by kernel_rfl) (by kernel_rfl) ?_; clear hA ac; intro ac hA
                       refine st_rdF (v := Value.bool false) hA (by kernel_rfl) (by kernel_rfl) (by kernel_rfl) (by kernel_rfl) hW.cls (Rd.pure fun _ => by kernel_rfl) ?_; clear hA ac; intro ac hA
                       refine st_rdF (v := Value.bool false) hA (by kernel_rfl) (by kernel_rfl) (by kernel_rfl) (by kernel_rfl) hW.cls (Rd.pure fun _ => by kernel_rfl) ?_; clear hA ac; intro ac hA
                       refine st_skipF hA (by kernel_rfl) (by kernel_rfl) ?_; clear hA ac; intro ac hA
                       refine st_rdF (v := Value.bool false) hA (by kernel_rfl) (by kernel_rfl) (by kernel_rfl) (by kernel_rfl) hW.cls (Rd.pure fun _ => by kernel_rfl) ?_; clear hA ac; intro ac hA
                       refine stF hA (by kernel_rfl) (by kernel_rfl) (by kernel_rfl) (by kernel_rfl) (RunsF.of (Runs.store (v := Value.bool false) (b := b3) (j := 0) (n := 1) (cs' := #[Value.bool false]) (H' := [DefR D96, Cel b88 #[Value.pointer none, Value.int .i64 0, Value.int .i64 0, Value.slice none 0 0] 61, Cel br12_3 #[Value.int .i64 5, Value.slice B7 L7.length d7, Value.slice C7 P7.length e7] 29, Cel br12_2 #[Value.int .i64 5, Value.slice B5 L5.length d5, Value.slice C5 P5.length e5] 29, TabR n37 n38 n39 A7 c7 T7, Cel b12 #[Value.int .i64 5, Value.slice A1 Lk.length c1, Value.slice A2 Pk.length c2] 29, TabR n9 n10 n11 A5 c5 T5, Cel b3 #[Value.bool false] 4, Cel b1 #[Value.int .i64 two.a.at_, Value.int .u32 two.a.addr, Value.int .i64 two.a.e.g, Value.int .i64 two.a.e.s.f, Value.int .i64 two.a.e.s.pc, Value.int .i64 two.a.e.k, Value.int .i64 two.a.l.g, Value.int .i64 two.a.l.s.f, Value.int .i64 two.a.l.s.pc, Value.int .i64 two.a.l.k, Value.int .i64 two.b.at_, Value.int .u32 two.b.addr, Value.int .i64 two.b.e.g, Value.int .i64 two.b.e.s.f, Value.int .i64 two.b.e.s.pc, Value.int .i64 two.b.e.k, Value.int .i64 two.b.l.g, Value.int .i64 two.b.l.s.f, Value.int .i64 two.b.l.s.pc, Value.int .i64 two.b.l.k] 55]) (by kernel_rfl) (by kernel_rfl) (by kernel_rfl) (by kernel_rfl) (by kernel_rfl) hW 7 (by rfl) (Nat.le_of_ble_eq_true (by kernel_rfl)) (by kernel_rfl) (by rfl) ?_)); clear hA ac hW; intro w109 hW ac hA
                       refine wpListIn_nil ?_
                       refine thenN ?_
                       refine wpIn_ret ?_
                       refine retF (.inl rfl) hA ?_
                       refine leaveD (H' := [Cel b88 #[Value.pointer none, Value.int .i64 0, Value.int .i64 0, Value.slice none 0 0] 61, Cel br12_3 #[Value.int .i64 5, Value.slice B7 L7.length d7, Value.slice C7 P7.length e7] 29, Cel br12_2 #[Value.int .i64 5, Value.slice B5 L5.length d5, Value.slice C5 P5.length e5] 29, TabR n37 n38 n39 A7 c7 T7, Cel b12 #[Value.int .i64 5, Value.slice A1 Lk.length c1, Value.slice A2 Pk.length c2] 29, TabR n9 n10 n11 A5 c5 T5, Cel b3 #[Value.bool false] 4, Cel b1 #[Value.int .i64 two.a.at_, Value.int .u32 two.a.addr, Value.int .i64 two.a.e.g, Value.int .i64 two.a.e.s.f, Value.int .i64 two.a.e.s.pc, Value.int .i64 two.a.e.k, Value.int .i64 two.a.l.g, Value.int .i64 two.a.l.s.f, Value.int .i64 two.a.l.s.pc, Value.int .i64 two.a.l.k, Value.int .i64 two.b.at_, Value.int .u32 two.b.addr, Value.int .i64 two.b.e.g, Value.int .i64 two.b.e.s.f, Value.int .i64 two.b.e.s.pc, Value.int .i64 two.b.e.k, Value.int .i64 two.b.l.g, Value.int .i64 two.b.l.s.f, Value.int .i64 two.b.l.s.pc, Value.int .i64 two.b.l.k] 55]) hW 0 rfl rfl ?_; clear hW; intro w110 hW
                       refine leave1 (v := Value.bool false) (by rfl) (GotF.cell (b := b3) (i := 0) hA (by kernel_rfl) (by kernel_rfl) (hW.cel 6 rfl) (by kernel_rfl)) ?_
                       clear hA
                       exact ⟨retv (by rfl), hW.fr⟩)
                 · skip
                   clear hA ac hW; intro D111 c_ pre_ Hk_ w112 ac hJ_ hA hW
                   exact hJ_.elim)
             · skip
               first
               | (exfalso; clear hA hW; omega)
               | (
                 refine wpIn_skip ?_
                 refine thenN ?_
                 refine wpIn_seq ?_
                 refine wpIn_region_lit ?_
                 refine st_rdF (v := Value.pointer none) hA (by kernel_rfl) (by kernel_rfl) (by kernel_rfl) (by kernel_rfl) hW.cls (Rd.pure fun _ => by kernel_rfl) ?_; clear hA ac; intro ac hA
                 refine st_rdF (v := Value.pointer (some ⟨b1, 0, none⟩)) hA (by kernel_rfl) (by kernel_rfl) (by kernel_rfl) (by kernel_rfl) hW.cls (Rd.pure fun _ => by kernel_rfl) ?_; clear hA ac; intro ac hA
                 refine st_rdF (v := Value.agg #[Value.int .i64 two.a.at_, Value.int .u32 two.a.addr, Value.int .i64 two.a.e.g, Value.int .i64 two.a.e.s.f, Value.int .i64 two.a.e.s.pc, Value.int .i64 two.a.e.k, Value.int .i64 two.a.l.g, Value.int .i64 two.a.l.s.f, Value.int .i64 two.a.l.s.pc, Value.int .i64 two.a.l.k]) hA (by kernel_rfl) (by kernel_rfl) (by kernel_rfl) (by kernel_rfl) hW.cls (Rd.load (b := b1) (i := 0) (by kernel_rfl) (fun _ hw => (hw.1).cel 6 rfl) (by kernel_rfl)) ?_; clear hA ac; intro ac hA
                 refine stF hA (by kernel_rfl) (by kernel_rfl) (by kernel_rfl) (by kernel_rfl) (RunsF.of (Runs.callN (v := Value.tuple #[Value.bool false, Value.int .i64 1]) (fun _ => by kernel_rfl) hW (e_ttake_nil two.a w86) ?_)); clear hA ac hW; intro w113 hW hfw113 ac hA
                 refine st_rdF (v := Value.tuple #[Value.bool false, Value.int .i64 1]) hA (by kernel_rfl) (by kernel_rfl) (by kernel_rfl) (by kernel_rfl) hW.cls (Rd.pure fun _ => by kernel_rfl) ?_; clear hA ac; intro ac hA
                 refine st_rdF (v := Value.bool false) hA (by kernel_rfl) (by kernel_rfl) (by kernel_rfl) (by kernel_rfl) hW.cls (Rd.pure fun _ => by kernel_rfl) ?_; clear hA ac; intro ac hA
                 refine st_rdF (v := Value.int .i64 1) hA (by kernel_rfl) (by kernel_rfl) (by kernel_rfl) (by kernel_rfl) hW.cls (Rd.pure fun _ => by kernel_rfl) ?_; clear hA ac; intro ac hA
                 refine st_rdF (v := Value.bool false) hA (by kernel_rfl) (by kernel_rfl) (by kernel_rfl) (by kernel_rfl) hW.cls (Rd.pure fun _ => by kernel_rfl) ?_; clear hA ac; intro ac hA
                 refine st_rdF (v := Value.int .i64 1) hA (by kernel_rfl) (by kernel_rfl) (by kernel_rfl) (by kernel_rfl) hW.cls (Rd.pure fun _ => by kernel_rfl) ?_; clear hA ac; intro ac hA
                 refine wpListIn_nil ?_
                 refine thenN ?_
                 refine wpIn_seq ?_
                 refine wpIn_region_lit ?_
                 refine st_rdF (v := Value.pointer none) hA (by kernel_rfl) (by kernel_rfl) (by kernel_rfl) (by kernel_rfl) hW.cls (Rd.pure fun _ => by kernel_rfl) ?_; clear hA ac; intro ac hA
                 refine stF hA (by kernel_rfl) (by kernel_rfl) (by kernel_rfl) (by kernel_rfl) (RunsF.of (Runs.call (fun _ => by kernel_rfl) (e_reports_nil w113) ?_))
                 rintro _ w114 ⟨lb115, g116, rfl, hIg116, hfg116, hfw114⟩; refine ⟨_, rfl, ?_⟩; have hW0 := hW; have hW := hW0.call hfw114; have hW := hW0.addFromAt hW hfg116 in_nil; clear hW0 hA ac; intro ac hA
                 refine st_rdF (v := Value.func (.func 42) #[] lb115) hA (by kernel_rfl) (by kernel_rfl) (by kernel_rfl) (by kernel_rfl) hW.cls (Rd.pure fun _ => by kernel_rfl) ?_; clear hA ac; intro ac hA
                 refine wpListIn_nil ?_
                 refine thenN ?_
                 refine wpIn_seq ?_
                 refine wpIn_seq ?_
                 refine wpIn_region_lit ?_
                 refine st_rdF (v := Value.func (.func 42) #[] lb115) hA (by kernel_rfl) (by kernel_rfl) (by kernel_rfl) (by kernel_rfl) hW.cls (Rd.pure fun _ => by kernel_rfl) ?_; clear hA ac; intro ac hA
                 refine st_rdF (v := Value.bool false) hA (by kernel_rfl) (by kernel_rfl) (by kernel_rfl) (by kernel_rfl) hW.cls (Rd.pure fun _ => by kernel_rfl) ?_; clear hA ac; intro ac hA
                 refine wpListIn_nil ?_
                 refine thenN ?_
                 refine wpIn_cond_false (hA.eval (by kernel_rfl)) ?_
                 refine wpIn_skip ?_
                 refine thenN ?_
                 refine wpIn_seq ?_
                 refine wpIn_seq ?_
                 refine wpIn_region_lit ?_
                 refine st_rdF (v := Value.func (.func 42) #[] lb115) hA (by kernel_rfl) (by kernel_rfl) (by kernel_rfl) (by kernel_rfl) hW.cls (Rd.pure fun _ => by kernel_rfl) ?_; clear hA ac; intro ac hA
                 refine wpListIn_nil ?_
                 refine thenN ?_
                 refine wpIn_block ?_
                 refine wp_range (encs := (fun x_ : Flag × Nat => #[Value.int .i64 ((x_.2 : Nat) : Int), x_.1.v])) (Sx := (· = ([] : List Flag).zipIdx)) hA (by kernel_rfl) (by kernel_rfl) (enters_of Try.func42 (by kernel_rfl) rfl) (by kernel_rfl) (fun _ => rfl) hIg116 (List.forall_mem_singleton.2 (List.mem_of_getElem? (i := 0) rfl)) (fun pre_ H_ => ∃ k : Nat, pre_ = ([] : List Flag).zipIdx.take k ∧ k ≤ ([] : List Flag).length ∧ H_ = []) (fun _ _ _ => False) (H := []) (K := [Cel br12_3 #[Value.int .i64 5, Value.slice B7 L7.length d7, Value.slice C7 P7.length e7] 29, Cel br12_2 #[Value.int .i64 5, Value.slice B5 L5.length d5, Value.slice C5 P5.length e5] 29, TabR n37 n38 n39 A7 c7 T7, Cel b12 #[Value.int .i64 5, Value.slice A1 Lk.length c1, Value.slice A2 Pk.length c2] 29, TabR n9 n10 n11 A5 c5 T5, Cel b3 #[Value.bool false] 4, Cel b1 #[Value.int .i64 two.a.at_, Value.int .u32 two.a.addr, Value.int .i64 two.a.e.g, Value.int .i64 two.a.e.s.f, Value.int .i64 two.a.e.s.pc, Value.int .i64 two.a.e.k, Value.int .i64 two.a.l.g, Value.int .i64 two.a.l.s.f, Value.int .i64 two.a.l.s.pc, Value.int .i64 two.a.l.k, Value.int .i64 two.b.at_, Value.int .u32 two.b.addr, Value.int .i64 two.b.e.g, Value.int .i64 two.b.e.s.f, Value.int .i64 two.b.e.s.pc, Value.int .i64 two.b.e.k, Value.int .i64 two.b.l.g, Value.int .i64 two.b.l.s.f, Value.int .i64 two.b.l.s.pc, Value.int .i64 two.b.l.k] 55]) (hW.pick [0, 1, 2, 3, 4, 5, 6] (by decide) rfl) ⟨0, rfl, Nat.zero_le _, rfl⟩ ?_ ?_ ?_
                 · skip
                   clear hA ac hW; intro l_117 rd_117 bs_117 pre_ x_ Hk_ w118 T_117 ac hrd_117 hbs_117 hbr_117 hok_ hJ_ hA hW hB_117 hT_117
                   obtain ⟨k, rfl, hk_, rfl⟩ := hJ_
                   replace hA : Fm 157 [] [(2, Value.bool zero), (4, Value.pointer (some ⟨b1, 0, none⟩)), (6, Value.pointer (some ⟨b3, 0, none⟩)), (7, Value.pointer (some ⟨n9, 0, none⟩)), (8, Value.int .i64 0), (13, Value.pointer (some ⟨n37, 0, none⟩)), (14, Value.pointer (some ⟨br12_2, 0, none⟩)), (15, Value.pointer (some ⟨br12_3, 0, none⟩)), (20, Value.pointer none), (21, Value.bool false), (22, Value.int .i64 1), (23, Value.func (.func 42) #[] lb115), (98, Value.bool zero), (101, Value.tuple #[Value.bool false, Value.int .i64 1]), (102, Value.pointer none), (103, Value.pointer (some ⟨b1, 0, none⟩)), (104, Value.agg #[Value.int .i64 two.a.at_, Value.int .u32 two.a.addr, Value.int .i64 two.a.e.g, Value.int .i64 two.a.e.s.f, Value.int .i64 two.a.e.s.pc, Value.int .i64 two.a.e.k, Value.int .i64 two.a.l.g, Value.int .i64 two.a.l.s.f, Value.int .i64 two.a.l.s.pc, Value.int .i64 two.a.l.k]), (105, Value.tuple #[Value.bool false, Value.int .i64 1]), (106, Value.bool false), (107, Value.int .i64 1), (108, Value.pointer none), (109, Value.func (.func 42) #[] lb115), (110, Value.func (.func 42) #[] lb115), (111, Value.bool false), (112, Value.func (.func 42) #[] lb115), (113, Value.int .i64 ((x_.2 : Nat) : Int)), (114, x_.1.v)] ac := hA.sub ⟨⟨by kernel_rfl, by kernel_rfl⟩, ⟨by kernel_rfl, by kernel_rfl⟩, ⟨by kernel_rfl, by kernel_rfl⟩, ⟨by kernel_rfl, by kernel_rfl⟩, ⟨by kernel_rfl, by kernel_rfl⟩, ⟨by kernel_rfl, by kernel_rfl⟩, ⟨by kernel_rfl, by kernel_rfl⟩, ⟨by kernel_rfl, by kernel_rfl⟩, ⟨by kernel_rfl, by kernel_rfl⟩, ⟨by kernel_rfl, by kernel_rfl⟩, ⟨by kernel_rfl, by kernel_rfl⟩, ⟨by kernel_rfl, by kernel_rfl⟩, ⟨by kernel_rfl, by kernel_rfl⟩, ⟨by kernel_rfl, by kernel_rfl⟩, ⟨by kernel_rfl, by kernel_rfl⟩, ⟨by kernel_rfl, by kernel_rfl⟩, ⟨by kernel_rfl, by kernel_rfl⟩, ⟨by kernel_rfl, by kernel_rfl⟩, ⟨by kernel_rfl, by kernel_rfl⟩, ⟨by kernel_rfl, by kernel_rfl⟩, ⟨by kernel_rfl, by kernel_rfl⟩, ⟨by kernel_rfl, by kernel_rfl⟩, ⟨by kernel_rfl, by kernel_rfl⟩, ⟨by kernel_rfl, by kernel_rfl⟩, ⟨by kernel_rfl, by kernel_rfl⟩, ⟨by kernel_rfl, by kernel_rfl⟩, ⟨by kernel_rfl, by kernel_rfl⟩, trivial⟩
                   exact (comes_nilz hok_).elim
                 · skip
                   clear hA ac hW; intro D119 xs_ Hk_ w120 ac hS_ hJ_ hA hW
                   obtain ⟨k, hpre_, hk_, rfl⟩ := hJ_
                   replace hW : Ws w No [DefR D119, Cel br12_3 #[Value.int .i64 5, Value.slice B7 L7.length d7, Value.slice C7 P7.length e7] 29, Cel br12_2 #[Value.int .i64 5, Value.slice B5 L5.length d5, Value.slice C5 P5.length e5] 29, TabR n37 n38 n39 A7 c7 T7, Cel b12 #[Value.int .i64 5, Value.slice A1 Lk.length c1, Value.slice A2 Pk.length c2] 29, TabR n9 n10 n11 A5 c5 T5, Cel b3 #[Value.bool false] 4, Cel b1 #[Value.int .i64 two.a.at_, Value.int .u32 two.a.addr, Value.int .i64 two.a.e.g, Value.int .i64 two.a.e.s.f, Value.int .i64 two.a.e.s.pc, Value.int .i64 two.a.e.k, Value.int .i64 two.a.l.g, Value.int .i64 two.a.l.s.f, Value.int .i64 two.a.l.s.pc, Value.int .i64 two.a.l.k, Value.int .i64 two.b.at_, Value.int .u32 two.b.addr, Value.int .i64 two.b.e.g, Value.int .i64 two.b.e.s.f, Value.int .i64 two.b.e.s.pc, Value.int .i64 two.b.e.k, Value.int .i64 two.b.l.g, Value.int .i64 two.b.l.s.f, Value.int .i64 two.b.l.s.pc, Value.int .i64 two.b.l.k] 55] [g116, roR B7 10 enFlag L7, roR C7 4 enPair P7, roR B5 10 enFlag L5, roR C5 4 enPair P5, roR A1 10 enFlag Lk, roR A2 4 enPair Pk, roR A_l 10 enFlag l] w120 := hW
                   refine blkN ?_
                   refine thenN ?_
                   refine wpIn_seq ?_
                   refine wpIn_region_lit ?_
                   refine st_rdF (v := Value.int .i64 0) hA (by kernel_rfl) (by kernel_rfl) (by kernel_rfl) (by kernel_rfl) hW.cls (Rd.pure fun _ => by kernel_rfl) ?_; clear hA ac; intro ac hA
                   refine stF hA (by kernel_rfl) (by kernel_rfl) (by kernel_rfl) (by kernel_rfl) (RunsF.of (Runs.callS (v := Value.int .i64 (0)) (fun _ => by kernel_rfl) (num27_any (0) w120) ?_)); clear hA ac; intro  ac hA
                   refine st_rdF (v := Value.bool (((0) : Int) == (0 : Int))) hA (by kernel_rfl) (by kernel_rfl) (by kernel_rfl) (by kernel_rfl) hW.cls (Rd.pure fun _ => by kernel_rfl) ?_; clear hA ac; intro ac hA
                   refine st_rdF (v := Value.bool (((0) : Int) == (0 : Int))) hA (by kernel_rfl) (by kernel_rfl) (by kernel_rfl) (by kernel_rfl) hW.cls (Rd.pure fun _ => by kernel_rfl) ?_; clear hA ac; intro ac hA
                   rcases Bool.eq_false_or_eq_true (((0) : Int) == (0 : Int)) with h121 | h121
                   · skip
                     rw [h121] at hA
                     have h121 := eq_of_beq h121
                     first
                     | (exfalso; clear hA hW; omega)
                     | (
                       refine st_rdF (v := Value.pointer (some ⟨n9, 0, none⟩)) hA (by kernel_rfl) (by kernel_rfl) (by kernel_rfl) (by kernel_rfl) hW.cls (Rd.pure fun _ => by kernel_rfl) ?_; clear hA ac; intro ac hA
                       refine st_rdF (v := Value.agg #[Value.int .i64 5, Value.slice B5 L5.length d5, Value.slice C5 P5.length e5]) hA (by kernel_rfl) (by kernel_rfl) (by kernel_rfl) (by kernel_rfl) hW.cls (Rd.load (b := br12_2) (i := 0) (by kernel_rfl) (fun _ hw => (hw.1).cel 2 rfl) (by kernel_rfl)) ?_; clear hA ac; intro ac hA
                       refine st_rdF (v := Value.agg #[Value.int .i64 0, Value.int .i64 0, Value.int .i64 0, Value.int .i64 0]) hA (by kernel_rfl) (by kernel_rfl) (by kernel_rfl) (by kernel_rfl) hW.cls (Rd.pure fun _ => by kernel_rfl) ?_; clear hA ac; intro ac hA
                       refine stF hA (by kernel_rfl) (by kernel_rfl) (by kernel_rfl) (by kernel_rfl) (RunsF.of (Runs.callN (v := Value.bool true) (fun _ => by kernel_rfl) hW (e_is27 n9 n10 n11 A5 c5 T5 (5) B5 d5 L5 C5 e5 P5 (⟨(⟨0, 0⟩ : Site), (⟨0, 0⟩ : Site)⟩ : Pair) (99) w120 ((hW).get 5 rfl) ((hW).lt _ (List.mem_of_getElem? (i := 5) rfl)) ((hW).getG 3 rfl) (by first | assumption | omega | (simp; omega) | simp) ((hW).getG 4 rfl) (by first | assumption | omega | (simp; omega) | simp) (by first | omega | exact ⟨by omega, by omega⟩ | exact hK.nd | exact hK.ok | exact hG5 | exact hG7 | assumption | simp) (by first | omega | exact ⟨by omega, by omega⟩ | exact hK.nd | exact hK.ok | exact hG5 | exact hG7 | assumption | simp) (by first | omega | exact ⟨by omega, by omega⟩ | exact hK.nd | exact hK.ok | exact hG5 | exact hG7 | assumption | simp) (by first | omega | exact ⟨by omega, by omega⟩ | exact hK.nd | exact hK.ok | exact hG5 | exact hG7 | assumption | simp)) ?_)); clear hA ac hW; intro w122 hW hfw122 ac hA
                       refine st_rdF (v := Value.bool true) hA (by kernel_rfl) (by kernel_rfl) (by kernel_rfl) (by kernel_rfl) hW.cls (Rd.pure fun _ => by kernel_rfl) ?_; clear hA ac; intro ac hA
                       refine st_rdF (v := Value.bool true) hA (by kernel_rfl) (by kernel_rfl) (by kernel_rfl) (by kernel_rfl) hW.cls (Rd.pure fun _ => by kernel_rfl) ?_; clear hA ac; intro ac hA
                       refine st_rdF (v := Value.pointer (some ⟨n37, 0, none⟩)) hA (by kernel_rfl) (by kernel_rfl) (by kernel_rfl) (by kernel_rfl) hW.cls (Rd.pure fun _ => by kernel_rfl) ?_; clear hA ac; intro ac hA
                       refine st_rdF (v := Value.agg #[Value.int .i64 5, Value.slice B7 L7.length d7, Value.slice C7 P7.length e7]) hA (by kernel_rfl) (by kernel_rfl) (by kernel_rfl) (by kernel_rfl) hW.cls (Rd.load (b := br12_3) (i := 0) (by kernel_rfl) (fun _ hw => (hw.1).cel 1 rfl) (by kernel_rfl)) ?_; clear hA ac; intro ac hA
                       refine st_rdF (v := Value.agg #[Value.int .i64 0, Value.int .i64 0, Value.int .i64 0, Value.int .i64 0]) hA (by kernel_rfl) (by kernel_rfl) (by kernel_rfl) (by kernel_rfl) hW.cls (Rd.pure fun _ => by kernel_rfl) ?_; clear hA ac; intro ac hA
                       refine stF hA (by kernel_rfl) (by kernel_rfl) (by kernel_rfl) (by kernel_rfl) (RunsF.of (Runs.callN (v := Value.bool true) (fun _ => by kernel_rfl) hW (e_is27 n37 n38 n39 A7 c7 T7 (5) B7 d7 L7 C7 e7 P7 (⟨(⟨0, 0⟩ : Site), (⟨0, 0⟩ : Site)⟩ : Pair) (99) w122 ((hW).get 3 rfl) ((hW).lt _ (List.mem_of_getElem? (i := 3) rfl)) ((hW).getG 1 rfl) (by first | assumption | omega | (simp; omega) | simp) ((hW).getG 2 rfl) (by first | assumption | omega | (simp; omega) | simp) (by first | omega | exact ⟨by omega, by omega⟩ | exact hK.nd | exact hK.ok | exact hG5 | exact hG7 | assumption | simp) (by first | omega | exact ⟨by omega, by omega⟩ | exact hK.nd | exact hK.ok | exact hG5 | exact hG7 | assumption | simp) (by first | omega | exact ⟨by omega, by omega⟩ | exact hK.nd | exact hK.ok | exact hG5 | exact hG7 | assumption | simp) (by first | omega | exact ⟨by omega, by omega⟩ | exact hK.nd | exact hK.ok | exact hG5 | exact hG7 | assumption | simp)) ?_)); clear hA ac hW; intro w123 hW hfw123 ac hA
                       refine st_rdF (v := Value.bool true) hA (by kernel_rfl) (by kernel_rfl) (by kernel_rfl) (by kernel_rfl) hW.cls (Rd.pure fun _ => by kernel_rfl) ?_; clear hA ac; intro ac hA
                       refine st_rdF (v := Value.bool true) hA (by kernel_rfl) (by kernel_rfl) (by kernel_rfl) (by kernel_rfl) hW.cls (Rd.pure fun _ => by kernel_rfl) ?_; clear hA ac; intro ac hA
                       refine st_rdF (v := Value.int .i64 1) hA (by kernel_rfl) (by kernel_rfl) (by kernel_rfl) (by kernel_rfl) hW.cls (Rd.pure fun _ => by kernel_rfl) ?_; clear hA ac; intro ac hA
                       refine stF hA (by kernel_rfl) (by kernel_rfl) (by kernel_rfl) (by kernel_rfl) (RunsF.of (Runs.callS (v := Value.int .i64 (1)) (fun _ => by kernel_rfl) (num27_any (1) w123) ?_)); clear hA ac; intro  ac hA
                       refine st_rdF (v := Value.bool (((1) : Int) == (1 : Int))) hA (by kernel_rfl) (by kernel_rfl) (by kernel_rfl) (by kernel_rfl) hW.cls (Rd.pure fun _ => by kernel_rfl) ?_; clear hA ac; intro ac hA
                       refine st_rdF (v := Value.bool (((1) : Int) == (1 : Int))) hA (by kernel_rfl) (by kernel_rfl) (by kernel_rfl) (by kernel_rfl) hW.cls (Rd.pure fun _ => by kernel_rfl) ?_; clear hA ac; intro ac hA
                       refine st_rdF (v := Value.bool (((1) : Int) == (1 : Int))) hA (by kernel_rfl) (by kernel_rfl) (by kernel_rfl) (by kernel_rfl) hW.cls (Rd.pure fun _ => by kernel_rfl) ?_; clear hA ac; intro ac hA
                       rcases Bool.eq_false_or_eq_true (((1) : Int) == (1 : Int)) with h124 | h124
                       · skip
                         rw [h124] at hA
                         have h124 := eq_of_beq h124
                         first
                         | (exfalso; clear hA hW; omega)
                         | (
                           refine st_rdF (v := Value.pointer none) hA (by kernel_rfl) (by kernel_rfl) (by kernel_rfl) (by kernel_rfl) hW.cls (Rd.pure fun _ => by kernel_rfl) ?_; clear hA ac; intro ac hA
                           refine stF hA (by kernel_rfl) (by kernel_rfl) (by kernel_rfl) (by kernel_rfl) (RunsF.of (Runs.callS (v := Value.int .i64 0) (fun _ => by kernel_rfl) (e_tlen_nil w123) ?_)); clear hA ac; intro  ac hA
                           refine st_rdF (v := Value.pointer none) hA (by kernel_rfl) (by kernel_rfl) (by kernel_rfl) (by kernel_rfl) hW.cls (Rd.pure fun _ => by kernel_rfl) ?_; clear hA ac; intro ac hA
                           refine stF hA (by kernel_rfl) (by kernel_rfl) (by kernel_rfl) (by kernel_rfl) (RunsF.of (Runs.callS (v := Value.int .i64 0) (fun _ => by kernel_rfl) (e_tdropped_nil w123) ?_)); clear hA ac; intro  ac hA
                           refine st_rdF (v := Value.int .i64 0) hA (by kernel_rfl) (by kernel_rfl) (by kernel_rfl) (by kernel_rfl) hW.cls (Rd.pureE (v0 := Value.int .i64 (IntKind.i64.wrap ((0 : Int) + 0))) (fun _ => by kernel_rfl) (congrArg (Value.int .i64) ((w_i64 (x := (0 : Int) + 0) (by omega) (by omega)).trans (by omega)))) ?_; clear hA ac; intro ac hA
                           refine st_rdF (v := Value.bool true) hA (by kernel_rfl) (by kernel_rfl) (by kernel_rfl) (by kernel_rfl) hW.cls (Rd.pure fun _ => by kernel_rfl) ?_; clear hA ac; intro ac hA
                           refine st_rdF (v := Value.bool true) hA (by kernel_rfl) (by kernel_rfl) (by kernel_rfl) (by kernel_rfl) hW.cls (Rd.pure fun _ => by kernel_rfl) ?_; clear hA ac; intro ac hA
                           refine st_rdF (v := Value.bool true) hA (by kernel_rfl) (by kernel_rfl) (by kernel_rfl) (by kernel_rfl) hW.cls (Rd.pure fun _ => by kernel_rfl) ?_; clear hA ac; intro ac hA
                           refine st_rdF (v := Value.pointer none) hA (by kernel_rfl) (by kernel_rfl) (by kernel_rfl) (by kernel_rfl) hW.cls (Rd.pure fun _ => by kernel_rfl) ?_; clear hA ac; intro ac hA
                           refine st_rdF (v := Value.agg #[Value.int .i64 0, Value.int .i64 0, Value.int .i64 0, Value.int .i64 0]) hA (by kernel_rfl) (by kernel_rfl) (by kernel_rfl) (by kernel_rfl) hW.cls (Rd.pure fun _ => by kernel_rfl) ?_; clear hA ac; intro ac hA
                           refine stF hA (by kernel_rfl) (by kernel_rfl) (by kernel_rfl) (by kernel_rfl) (RunsF.of (Runs.callN (v := Value.bool false) (fun _ => by kernel_rfl) hW (e_thas_nil (⟨(⟨0, 0⟩ : Site), (⟨0, 0⟩ : Site)⟩ : Pair) w123) ?_)); clear hA ac hW; intro w125 hW hfw125 ac hA
                           refine st_rdF (v := Value.bool true) hA (by kernel_rfl) (by kernel_rfl) (by kernel_rfl) (by kernel_rfl) hW.cls (Rd.pure fun _ => by kernel_rfl) ?_; clear hA ac; intro ac hA
                           refine st_rdF (v := Value.bool true) hA (by kernel_rfl) (by kernel_rfl) (by kernel_rfl) (by kernel_rfl) hW.cls (Rd.pure fun _ => by kernel_rfl) ?_; clear hA ac; intro ac hA
                           refine st_rdF (v := Value.bool true) hA (by kernel_rfl) (by kernel_rfl) (by kernel_rfl) (by kernel_rfl) hW.cls (Rd.pure fun _ => by kernel_rfl) ?_; clear hA ac; intro ac hA
                           refine st_rdF (v := Value.pointer none) hA (by kernel_rfl) (by kernel_rfl) (by kernel_rfl) (by kernel_rfl) hW.cls (Rd.pure fun _ => by kernel_rfl) ?_; clear hA ac; intro ac hA
                           refine stF hA (by kernel_rfl) (by kernel_rfl) (by kernel_rfl) (by kernel_rfl) (RunsF.of (Runs.callN (v := Value.pointer none) (fun _ => by kernel_rfl) hW (e_tcopy_nil w125) ?_)); clear hA ac hW; intro w126 hW hfw126 ac hA
                           refine st_rdF (v := Value.bool true) hA (by kernel_rfl) (by kernel_rfl) (by kernel_rfl) (by kernel_rfl) hW.cls (Rd.pure fun _ => by kernel_rfl) ?_; clear hA ac; intro ac hA
                           refine st_rdF (v := Value.bool true) hA (by kernel_rfl) (by kernel_rfl) (by kernel_rfl) (by kernel_rfl) hW.cls (Rd.pure fun _ => by kernel_rfl) ?_; clear hA ac; intro ac hA
                           refine st_rdF (v := Value.bool true) hA (by kernel_rfl) (by kernel_rfl) (by kernel_rfl) (by kernel_rfl) hW.cls (Rd.pure fun _ => by kernel_rfl) ?_; clear hA ac; intro ac hA
                           refine stF hA (by kernel_rfl) (by kernel_rfl) (by kernel_rfl) (by kernel_rfl) (RunsF.of (Runs.callN (v := Value.bool true) (fun _ => by kernel_rfl) hW (works27_any w126) ?_)); clear hA ac hW; intro w127 hW hfw127 ac hA
                           refine st_rdF (v := Value.bool true) hA (by kernel_rfl) (by kernel_rfl) (by kernel_rfl) (by kernel_rfl) hW.cls (Rd.pure fun _ => by kernel_rfl) ?_; clear hA ac; intro ac hA
                           refine stF hA (by kernel_rfl) (by kernel_rfl) (by kernel_rfl) (by kernel_rfl) (RunsF.of (Runs.store (v := Value.bool true) (b := b3) (j := 0) (n := 1) (cs' := #[Value.bool true]) (H' := [DefR D119, Cel br12_3 #[Value.int .i64 5, Value.slice B7 L7.length d7, Value.slice C7 P7.length e7] 29, Cel br12_2 #[Value.int .i64 5, Value.slice B5 L5.length d5, Value.slice C5 P5.length e5] 29, TabR n37 n38 n39 A7 c7 T7, Cel b12 #[Value.int .i64 5, Value.slice A1 Lk.length c1, Value.slice A2 Pk.length c2] 29, TabR n9 n10 n11 A5 c5 T5, Cel b3 #[Value.bool true] 4, Cel b1 #[Value.int .i64 two.a.at_, Value.int .u32 two.a.addr, Value.int .i64 two.a.e.g, Value.int .i64 two.a.e.s.f, Value.int .i64 two.a.e.s.pc, Value.int .i64 two.a.e.k, Value.int .i64 two.a.l.g, Value.int .i64 two.a.l.s.f, Value.int .i64 two.a.l.s.pc, Value.int .i64 two.a.l.k, Value.int .i64 two.b.at_, Value.int .u32 two.b.addr, Value.int .i64 two.b.e.g, Value.int .i64 two.b.e.s.f, Value.int .i64 two.b.e.s.pc, Value.int .i64 two.b.e.k, Value.int .i64 two.b.l.g, Value.int .i64 two.b.l.s.f, Value.int .i64 two.b.l.s.pc, Value.int .i64 two.b.l.k] 55]) (by kernel_rfl) (by kernel_rfl) (by kernel_rfl) (by kernel_rfl) (by kernel_rfl) hW 6 (by rfl) (Nat.le_of_ble_eq_true (by kernel_rfl)) (by kernel_rfl) (by rfl) ?_)); clear hA ac hW; intro w128 hW ac hA
                           refine wpListIn_nil ?_
                           refine thenN ?_
                           refine wpIn_ret ?_
                           refine retF (.inl rfl) hA ?_
                           refine leaveD (H' := [Cel br12_3 #[Value.int .i64 5, Value.slice B7 L7.length d7, Value.slice C7 P7.length e7] 29, Cel br12_2 #[Value.int .i64 5, Value.slice B5 L5.length d5, Value.slice C5 P5.length e5] 29, TabR n37 n38 n39 A7 c7 T7, Cel b12 #[Value.int .i64 5, Value.slice A1 Lk.length c1, Value.slice A2 Pk.length c2] 29, TabR n9 n10 n11 A5 c5 T5, Cel b3 #[Value.bool true] 4, Cel b1 #[Value.int .i64 two.a.at_, Value.int .u32 two.a.addr, Value.int .i64 two.a.e.g, Value.int .i64 two.a.e.s.f, Value.int .i64 two.a.e.s.pc, Value.int .i64 two.a.e.k, Value.int .i64 two.a.l.g, Value.int .i64 two.a.l.s.f, Value.int .i64 two.a.l.s.pc, Value.int .i64 two.a.l.k, Value.int .i64 two.b.at_, Value.int .u32 two.b.addr, Value.int .i64 two.b.e.g, Value.int .i64 two.b.e.s.f, Value.int .i64 two.b.e.s.pc, Value.int .i64 two.b.e.k, Value.int .i64 two.b.l.g, Value.int .i64 two.b.l.s.f, Value.int .i64 two.b.l.s.pc, Value.int .i64 two.b.l.k] 55]) hW 0 rfl rfl ?_; clear hW; intro w129 hW
                           refine leave1 (v := Value.bool true) (by rfl) (GotF.cell (b := b3) (i := 0) hA (by kernel_rfl) (by kernel_rfl) (hW.cel 5 rfl) (by kernel_rfl)) ?_
                           clear hA
                           exact ⟨retv (by rfl), hW.fr⟩)
                       · skip
                         rw [h124] at hA
                         have h124 := ne_of_beq_false h124
                         first
                         | (exfalso; clear hA hW; omega)
                         | (
                           refine st_skipF hA (by kernel_rfl) (by kernel_rfl) ?_; clear hA ac; intro ac hA
                           refine st_skipF hA (by kernel_rfl) (by kernel_rfl) ?_; clear hA ac; intro ac hA
                           refine st_skipF hA (by kernel_rfl) (by kernel_rfl) ?_; clear hA ac; intro ac hA
                           refine st_skipF hA (by kernel_rfl) (by kernel_rfl) ?_; clear hA ac; intro ac hA
                           refine st_skipF hA (by kernel_rfl) (by kernel_rfl) ?_; clear hA ac; intro ac hA
                           refine st_skipF hA (by kernel_rfl) (by kernel_rfl) ?_; clear hA ac; intro ac hA
                           refine st_rdF (v := Value.bool false) hA (by kernel_rfl) (by kernel_rfl) (by kernel_rfl) (by kernel_rfl) hW.cls (Rd.pure fun _ => by kernel_rfl) ?_; clear hA ac; intro ac hA
                           refine st_rdF (v := Value.bool false) hA (by kernel_rfl) (by kernel_rfl) (by kernel_rfl) (by kernel_rfl) hW.cls (Rd.pure fun _ => by kernel_rfl) ?_; clear hA ac; intro ac hA
                           refine st_skipF hA (by kernel_rfl) (by kernel_rfl) ?_; clear hA ac; intro ac hA
                           refine st_skipF hA (by kernel_rfl) (by kernel_rfl) ?_; clear hA ac; intro ac hA
                           refine st_skipF hA (by kernel_rfl) (by kernel_rfl) ?_; clear hA ac; intro ac hA
                           refine st_skipF hA (by kernel_rfl) (by kernel_rfl) ?_; clear hA ac; intro ac hA
                           refine st_rdF (v := Value.bool false) hA (by kernel_rfl) (by kernel_rfl) (by kernel_rfl) (by kernel_rfl) hW.cls (Rd.pure fun _ => by kernel_rfl) ?_; clear hA ac; intro ac hA
                           refine st_rdF (v := Value.bool false) hA (by kernel_rfl) (by kernel_rfl) (by kernel_rfl) (by kernel_rfl) hW.cls (Rd.pure fun _ => by kernel_rfl) ?_; clear hA ac; intro ac hA
                           refine st_skipF hA (by kernel_rfl) (by kernel_rfl) ?_; clear hA ac; intro ac hA
                           refine st_skipF hA (by kernel_rfl) (by kernel_rfl) ?_; clear hA ac; intro ac hA
                           refine st_skipF hA (by kernel_rfl) (by kernel_rfl) ?_; clear hA ac; intro ac hA
                           refine st_rdF (v := Value.bool false) hA (by kernel_rfl) (by kernel_rfl) (by kernel_rfl) (by kernel_rfl) hW.cls (Rd.pure fun _ => by kernel_rfl) ?_; clear hA ac; intro ac hA
                           refine st_rdF (v := Value.bool false) hA (by kernel_rfl) (by kernel_rfl) (by kernel_rfl) (by kernel_rfl) hW.cls (Rd.pure fun _ => by kernel_rfl) ?_; clear hA ac; intro ac hA
                           refine st_skipF hA (by kernel_rfl) (by kernel_rfl) ?_; clear hA ac; intro ac hA
                           refine st_rdF (v := Value.bool false) hA (by kernel_rfl) (by kernel_rfl) (by kernel_rfl) (by kernel_rfl) hW.cls (Rd.pure fun _ => by kernel_rfl) ?_; clear hA ac; intro ac hA
                           refine stF hA (by kernel_rfl) (by kernel_rfl) (by kernel_rfl) (by kernel_rfl) (RunsF.of (Runs.store (v := Value.bool false) (b := b3) (j := 0) (n := 1) (cs' := #[Value.bool false]) (H' := [DefR D119, Cel br12_3 #[Value.int .i64 5, Value.slice B7 L7.length d7, Value.slice C7 P7.length e7] 29, Cel br12_2 #[Value.int .i64 5, Value.slice B5 L5.length d5, Value.slice C5 P5.length e5] 29, TabR n37 n38 n39 A7 c7 T7, Cel b12 #[Value.int .i64 5, Value.slice A1 Lk.length c1, Value.slice A2 Pk.length c2] 29, TabR n9 n10 n11 A5 c5 T5, Cel b3 #[Value.bool false] 4, Cel b1 #[Value.int .i64 two.a.at_, Value.int .u32 two.a.addr, Value.int .i64 two.a.e.g, Value.int .i64 two.a.e.s.f, Value.int .i64 two.a.e.s.pc, Value.int .i64 two.a.e.k, Value.int .i64 two.a.l.g, Value.int .i64 two.a.l.s.f, Value.int .i64 two.a.l.s.pc, Value.int .i64 two.a.l.k, Value.int .i64 two.b.at_, Value.int .u32 two.b.addr, Value.int .i64 two.b.e.g, Value.int .i64 two.b.e.s.f, Value.int .i64 two.b.e.s.pc, Value.int .i64 two.b.e.k, Value.int .i64 two.b.l.g, Value.int .i64 two.b.l.s.f, Value.int .i64 two.b.l.s.pc, Value.int .i64 two.b.l.k] 55]) (by kernel_rfl) (by kernel_rfl) (by kernel_rfl) (by kernel_rfl) (by kernel_rfl) hW 6 (by rfl) (Nat.le_of_ble_eq_true (by kernel_rfl)) (by kernel_rfl) (by rfl) ?_)); clear hA ac hW; intro w130 hW ac hA
                           refine wpListIn_nil ?_
                           refine thenN ?_
                           refine wpIn_ret ?_
                           refine retF (.inl rfl) hA ?_
                           refine leaveD (H' := [Cel br12_3 #[Value.int .i64 5, Value.slice B7 L7.length d7, Value.slice C7 P7.length e7] 29, Cel br12_2 #[Value.int .i64 5, Value.slice B5 L5.length d5, Value.slice C5 P5.length e5] 29, TabR n37 n38 n39 A7 c7 T7, Cel b12 #[Value.int .i64 5, Value.slice A1 Lk.length c1, Value.slice A2 Pk.length c2] 29, TabR n9 n10 n11 A5 c5 T5, Cel b3 #[Value.bool false] 4, Cel b1 #[Value.int .i64 two.a.at_, Value.int .u32 two.a.addr, Value.int .i64 two.a.e.g, Value.int .i64 two.a.e.s.f, Value.int .i64 two.a.e.s.pc, Value.int .i64 two.a.e.k, Value.int .i64 two.a.l.g, Value.int .i64 two.a.l.s.f, Value.int .i64 two.a.l.s.pc, Value.int .i64 two.a.l.k, Value.int .i64 two.b.at_, Value.int .u32 two.b.addr, Value.int .i64 two.b.e.g, Value.int .i64 two.b.e.s.f, Value.int .i64 two.b.e.s.pc, Value.int .i64 two.b.e.k, Value.int .i64 two.b.l.g, Value.int .i64 two.b.l.s.f, Value.int .i64 two.b.l.s.pc, Value.int .i64 two.b.l.k] 55]) hW 0 rfl rfl ?_; clear hW; intro w131 hW
                           refine leave1 (v := Value.bool false) (by rfl) (GotF.cell (b := b3) (i := 0) hA (by kernel_rfl) (by kernel_rfl) (hW.cel 5 rfl) (by kernel_rfl)) ?_
                           clear hA
                           exact ⟨retv (by rfl), hW.fr⟩))
                   · skip
                     rw [h121] at hA
                     have h121 := ne_of_beq_false h121
                     first
                     | (exfalso; clear hA hW; omega)
                     | (
                       refine st_skipF hA (by kernel_rfl) (by kernel_rfl) ?_; clear hA ac; intro ac hA
                       refine st_skipF hA (by kernel_rfl) (by kernel_rfl) ?_; clear hA ac; intro ac hA
                       refine st_skipF hA (by kernel_rfl) (by kernel_rfl) ?_; clear hA ac; intro ac hA
                       refine st_skipF hA (by kernel_rfl) (by kernel_rfl) ?_; clear hA ac; intro ac hA
                       refine st_rdF (v := Value.bool false) hA (by kernel_rfl) (by kernel_rfl) (by kernel_rfl) (by kernel_rfl) hW.cls (Rd.pure fun _ => by kernel_rfl) ?_; clear hA ac; intro ac hA
                       refine st_rdF (v := Value.bool false) hA (by kernel_rfl) (by kernel_rfl) (by kernel_rfl) (by kernel_rfl) hW.cls (Rd.pure fun _ => by kernel_rfl) ?_; clear hA ac; intro ac hA
                       refine st_skipF hA (by kernel_rfl) (by kernel_rfl) ?_; clear hA ac; intro ac hA
                       refine st_skipF hA (by kernel_rfl) (by kernel_rfl) ?_; clear hA ac; intro ac hA
                       refine st_skipF hA (by kernel_rfl) (by kernel_rfl) ?_; clear hA ac; intro ac hA
                       refine st_skipF hA (by kernel_rfl) (by kernel_rfl) ?_; clear hA ac; intro ac hA
                       refine st_rdF (v := Value.bool false) hA (by kernel_rfl) (by kernel_rfl) (by kernel_rfl) (by kernel_rfl) hW.cls (Rd.pure fun _ => by kernel_rfl) ?_; clear hA ac; intro ac hA
                       refine st_rdF (v := Value.bool false) hA (by kernel_rfl) (by kernel_rfl) (by kernel_rfl) (by kernel_rfl) hW.cls (Rd.pure fun _ => by kernel_rfl) ?_; clear hA ac; intro ac hA
                       refine st_skipF hA (by kernel_rfl) (by kernel_rfl) ?_; clear hA ac; intro ac hA
                       refine st_skipF hA (by kernel_rfl) (by kernel_rfl) ?_; clear hA ac; intro ac hA
                       refine st_skipF hA (by kernel_rfl) (by kernel_rfl) ?_; clear hA ac; intro ac hA
                       refine st_rdF (v := Value.bool false) hA (by kernel_rfl) (by kernel_rfl) (by kernel_rfl) (by kernel_rfl) hW.cls (Rd.pure fun _ => by kernel_rfl) ?_; clear hA ac; intro ac hA
                       refine st_rdF (v := Value.bool false) hA (by kernel_rfl) (by kernel_rfl) (by kernel_rfl) (by kernel_rfl) hW.cls (Rd.pure fun _ => by kernel_rfl) ?_; clear hA ac; intro ac hA
                       refine st_skipF hA (by kernel_rfl) (by kernel_rfl) ?_; clear hA ac; intro ac hA
                       refine st_skipF hA (by kernel_rfl) (by kernel_rfl) ?_; clear hA ac; intro ac hA
                       refine st_skipF hA (by kernel_rfl) (by kernel_rfl) ?_; clear hA ac; intro ac hA
                       refine st_skipF hA (by kernel_rfl) (by kernel_rfl) ?_; clear hA ac; intro ac hA
                       refine st_skipF hA (by kernel_rfl) (by kernel_rfl) ?_; clear hA ac; intro ac hA
                       refine st_skipF hA (by kernel_rfl) (by kernel_rfl) ?_; clear hA ac; intro ac hA
                       refine st_rdF (v := Value.bool false) hA (by kernel_rfl) (by kernel_rfl) (by kernel_rfl) (by kernel_rfl) hW.cls (Rd.pure fun _ => by kernel_rfl) ?_; clear hA ac; intro ac hA
                       refine st_rdF (v := Value.bool false) hA (by kernel_rfl) (by kernel_rfl) (by kernel_rfl) (by kernel_rfl) hW.cls (Rd.pure fun _ => by kernel_rfl) ?_; clear hA ac; intro ac hA
                       refine st_skipF hA (by kernel_rfl) (by kernel_rfl) ?_; clear hA ac; intro ac hA
                       refine st_skipF hA (by kernel_rfl) (by kernel_rfl) ?_; clear hA ac; intro ac hA
                       refine st_skipF hA (by kernel_rfl) (by kernel_rfl) ?_; clear hA ac; intro ac hA
                       refine st_skipF hA (by kernel_rfl) (by kernel_rfl) ?_; clear hA ac; intro ac hA
                       refine st_rdF (v := Value.bool false) hA (by kernel_rfl) (by kernel_rfl) (by kernel_rfl) (by kernel_rfl) hW.cls (Rd.pure fun _ => by kernel_rfl) ?_; clear hA ac; intro ac hA
                       refine st_rdF (v := Value.bool false) hA (by kernel_rfl) (by kernel_rfl) (by kernel_rfl) (by kernel_rfl) hW.cls (Rd.pure fun _ => by kernel_rfl) ?_; clear hA ac; intro ac hA
                       refine st_skipF hA (by kernel_rfl) (by kernel_rfl) ?_; clear hA ac; intro ac hA
                       refine st_skipF hA (by kernel_rfl) (by kernel_rfl) ?_; clear hA ac; intro ac hA
                       refine st_skipF hA (by kernel_rfl) (by kernel_rfl) ?_; clear hA ac; intro ac hA
                       refine st_rdF (v := Value.bool false) hA (by kernel_rfl) (by kernel_rfl) (by kernel_rfl) (by kernel_rfl) hW.cls (Rd.pure fun _ => by kernel_rfl) ?_; clear hA ac; intro ac hA
                       refine st_rdF (v := Value.bool false) hA (by kernel_rfl) (by kernel_rfl) (by kernel_rfl) (by kernel_rfl) hW.cls (Rd.pure fun _ => by kernel_rfl) ?_; clear hA ac; intro ac hA
                       refine st_skipF hA (by kernel_rfl) (by kernel_rfl) ?_; clear hA ac; intro ac hA
                       refine st_rdF (v := Value.bool false) hA (by kernel_rfl) (by kernel_rfl) (by kernel_rfl) (by kernel_rfl) hW.cls (Rd.pure fun _ => by kernel_rfl) ?_; clear hA ac; intro ac hA
                       refine stF hA (by kernel_rfl) (by kernel_rfl) (by kernel_rfl) (by kernel_rfl) (RunsF.of (Runs.store (v := Value.bool false) (b := b3) (j := 0) (n := 1) (cs' := #[Value.bool false]) (H' := [DefR D119, Cel br12_3 #[Value.int .i64 5, Value.slice B7 L7.length d7, Value.slice C7 P7.length e7] 29, Cel br12_2 #[Value.int .i64 5, Value.slice B5 L5.length d5, Value.slice C5 P5.length e5] 29, TabR n37 n38 n39 A7 c7 T7, Cel b12 #[Value.int .i64 5, Value.slice A1 Lk.length c1, Value.slice A2 Pk.length c2] 29, TabR n9 n10 n11 A5 c5 T5, Cel b3 #[Value.bool false] 4, Cel b1 #[Value.int .i64 two.a.at_, Value.int .u32 two.a.addr, Value.int .i64 two.a.e.g, Value.int .i64 two.a.e.s.f, Value.int .i64 two.a.e.s.pc, Value.int .i64 two.a.e.k, Value.int .i64 two.a.l.g, Value.int .i64 two.a.l.s.f, Value.int .i64 two.a.l.s.pc, Value.int .i64 two.a.l.k, Value.int .i64 two.b.at_, Value.int .u32 two.b.addr, Value.int .i64 two.b.e.g, Value.int .i64 two.b.e.s.f, Value.int .i64 two.b.e.s.pc, Value.int .i64 two.b.e.k, Value.int .i64 two.b.l.g, Value.int .i64 two.b.l.s.f, Value.int .i64 two.b.l.s.pc, Value.int .i64 two.b.l.k] 55]) (by kernel_rfl) (by kernel_rfl) (by kernel_rfl) (by kernel_rfl) (by kernel_rfl) hW 6 (by rfl) (Nat.le_of_ble_eq_true (by kernel_rfl)) (by kernel_rfl) (by rfl) ?_)); clear hA ac hW; intro w132 hW ac hA
                       refine wpListIn_nil ?_
                       refine thenN ?_
                       refine wpIn_ret ?_
                       refine retF (.inl rfl) hA ?_
                       refine leaveD (H' := [Cel br12_3 #[Value.int .i64 5, Value.slice B7 L7.length d7, Value.slice C7 P7.length e7] 29, Cel br12_2 #[Value.int .i64 5, Value.slice B5 L5.length d5, Value.slice C5 P5.length e5] 29, TabR n37 n38 n39 A7 c7 T7, Cel b12 #[Value.int .i64 5, Value.slice A1 Lk.length c1, Value.slice A2 Pk.length c2] 29, TabR n9 n10 n11 A5 c5 T5, Cel b3 #[Value.bool false] 4, Cel b1 #[Value.int .i64 two.a.at_, Value.int .u32 two.a.addr, Value.int .i64 two.a.e.g, Value.int .i64 two.a.e.s.f, Value.int .i64 two.a.e.s.pc, Value.int .i64 two.a.e.k, Value.int .i64 two.a.l.g, Value.int .i64 two.a.l.s.f, Value.int .i64 two.a.l.s.pc, Value.int .i64 two.a.l.k, Value.int .i64 two.b.at_, Value.int .u32 two.b.addr, Value.int .i64 two.b.e.g, Value.int .i64 two.b.e.s.f, Value.int .i64 two.b.e.s.pc, Value.int .i64 two.b.e.k, Value.int .i64 two.b.l.g, Value.int .i64 two.b.l.s.f, Value.int .i64 two.b.l.s.pc, Value.int .i64 two.b.l.k] 55]) hW 0 rfl rfl ?_; clear hW; intro w133 hW
                       refine leave1 (v := Value.bool false) (by rfl) (GotF.cell (b := b3) (i := 0) hA (by kernel_rfl) (by kernel_rfl) (hW.cel 5 rfl) (by kernel_rfl)) ?_
                       clear hA
                       exact ⟨retv (by rfl), hW.fr⟩)
                 · skip
                   clear hA ac hW; intro D134 c_ pre_ Hk_ w135 ac hJ_ hA hW
                   exact hJ_.elim)))

theorem rc_walk (A : Option Addr) (len cap : Nat) (l : List Flag) (two : Flags2) (zero : Bool) (w : World) (hl : l.length = len) (hc : len ≤ cap) (_ : cap ≤ maxLen) (_ : ∀ x ∈ l, wfFlag x) (hr : RowAt w A 10 enFlag l) (_ : wfFlags2 two) :
    Calls Try.prog 6 #[.slice A len cap, two.v, .bool zero] w fun e w' => e = .returned (.bool true) ∧ Fr No w w' := by
  subst hl; exact e_reportCopies A cap l two zero w hr hc
end Go.Proofs.Ytgkhaoogfpnbbaa.L
