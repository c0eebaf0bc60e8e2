/- Contracts, walked by program over the engine's laws. -/
import Derived.Test.YtobbocpacacnhaaProg
import Derived.Test.YtobbocpacacnhaaT18
namespace Go.Proofs.Ytobbocpacacnhaa.L
open Go.RowKit

structure Acts23 where
  a : Act23
  b : Act23
deriving DecidableEq
def Acts23.v (x : Acts23) : Value := .agg #[.int .i64 x.a.what, .int .i64 x.a.h, .int .i64 x.a.id, .int .u64 x.a.m.clock, .int .i64 x.a.m.site.f, .int .i64 x.a.m.site.pc, .int .i64 x.b.what, .int .i64 x.b.h, .int .i64 x.b.id, .int .u64 x.b.m.clock, .int .i64 x.b.m.site.f, .int .i64 x.b.m.site.pc]
def enActs23 (x : Acts23) : List Value := [.int .i64 x.a.what, .int .i64 x.a.h, .int .i64 x.a.id, .int .u64 x.a.m.clock, .int .i64 x.a.m.site.f, .int .i64 x.a.m.site.pc, .int .i64 x.b.what, .int .i64 x.b.h, .int .i64 x.b.id, .int .u64 x.b.m.clock, .int .i64 x.b.m.site.f, .int .i64 x.b.m.site.pc]
def deActs23 : List Value → Acts23
  | [.int _ a0, .int _ a1, .int _ a2, .int _ a3, .int _ a4, .int _ a5, .int _ a6, .int _ a7, .int _ a8, .int _ a9, .int _ a10, .int _ a11] => ⟨⟨a0, a1, a2, ⟨a3, ⟨a4, a5⟩⟩⟩, ⟨a6, a7, a8, ⟨a9, ⟨a10, a11⟩⟩⟩⟩
  | _ => ⟨⟨0, 0, 0, ⟨0, ⟨0, 0⟩⟩⟩, ⟨0, 0, 0, ⟨0, ⟨0, 0⟩⟩⟩⟩
def wfActs23 (x : Acts23) : Prop := (Lit.int .i64 x.a.what).wf = true ∧ (Lit.int .i64 x.a.h).wf = true ∧ (Lit.int .i64 x.a.id).wf = true ∧ (Lit.int .u64 x.a.m.clock).wf = true ∧ (Lit.int .i64 x.a.m.site.f).wf = true ∧ (Lit.int .i64 x.a.m.site.pc).wf = true ∧ (Lit.int .i64 x.b.what).wf = true ∧ (Lit.int .i64 x.b.h).wf = true ∧ (Lit.int .i64 x.b.id).wf = true ∧ (Lit.int .u64 x.b.m.clock).wf = true ∧ (Lit.int .i64 x.b.m.site.f).wf = true ∧ (Lit.int .i64 x.b.m.site.pc).wf = true ∧ True
theorem deActs23_ok (cs : List Value) (h : cksOk [.int .i64, .int .i64, .int .i64, .int .u64, .int .i64, .int .i64, .int .i64, .int .i64, .int .i64, .int .u64, .int .i64, .int .i64] cs) : enActs23 (deActs23 cs) = cs ∧ wfActs23 (deActs23 cs) := by
  have hl := cksOk_length h
  match cs, hl, h with
  | [c0, c1, c2, c3, c4, c5, c6, c7, c8, c9, c10, c11], _, ⟨⟨_, h0, w0⟩, ⟨_, h1, w1⟩, ⟨_, h2, w2⟩, ⟨_, h3, w3⟩, ⟨_, h4, w4⟩, ⟨_, h5, w5⟩, ⟨_, h6, w6⟩, ⟨_, h7, w7⟩, ⟨_, h8, w8⟩, ⟨_, h9, w9⟩, ⟨_, h10, w10⟩, ⟨_, h11, w11⟩, _⟩ =>
    subst h0 h1 h2 h3 h4 h5 h6 h7 h8 h9 h10 h11
    exact ⟨rfl, w0, w1, w2, w3, w4, w5, w6, w7, w8, w9, w10, w11, trivial⟩
theorem flatActs23 {v : Value} (h : cksOk [.int .i64, .int .i64, .int .i64, .int .u64, .int .i64, .int .i64, .int .i64, .int .i64, .int .i64, .int .u64, .int .i64, .int .i64] v.cells.toList) : ∃ x : Acts23, v = x.v ∧ wfActs23 x := by
  have hl := cksOk_length h
  cases v with
  | agg a => exact ⟨deActs23 a.toList, by have := (deActs23_ok _ h).1; have h2 := congrArg List.toArray this; exact congrArg Value.agg (h2.symm), (deActs23_ok _ h).2⟩
  | _ => simp [Value.cells] at hl

theorem sameB_comm (P Q : PV) : sameB P Q = sameB Q P := by
  unfold sameB; rw [Nat.max_comm]; congr 1; funext i; unfold sameQ
  rw [Bool.eq_iff_iff]; simp only [Bool.and_eq_true, beq_iff_eq, decide_eq_true_eq]
  exact ⟨fun h => ⟨h.1.symm, h.2.symm⟩, fun h => ⟨h.1.symm, h.2.symm⟩⟩
theorem Acts23.wf2 {two : Acts23} (h : wfActs23 two) : wfAct23 two.a ∧ wfAct23 two.b := by
  obtain ⟨h1, h2, h3, h4, h5, h6, h7, h8, h9, h10, h11, h12, -⟩ := h
  exact ⟨⟨h1, h2, h3, h4, h5, h6, trivial⟩, ⟨h7, h8, h9, h10, h11, h12, trivial⟩⟩
set_option maxRecDepth 100000 in
theorem e_poolCopies (A_l : Option Addr) (c_l : Nat) (l : List Act23) (two : Acts23) (w : World) (hr_l : RowAt w A_l 6 enAct23 l) (hc_l : l.length ≤ c_l) (hwf : ∀ x ∈ l, wfAct23 x) (hwt : wfAct23 two.a ∧ wfAct23 two.b) : Calls Try.prog 5 #[Value.slice A_l l.length c_l, two.v] w (fun e w' => e = .returned (Value.bool true) ∧ Fr No w w') := by
 have _hu := hc_l; have _hv := hr_l; clear _hu _hv
 have _hu := hwf; clear _hu
 have _hu := hwt; clear _hu
 refine enter_E 95 Try.func5 rfl rfl (by kernel_rfl) (L := [(0, Value.slice A_l l.length c_l), (1, two.v)]) (by kernel_rfl) ?_
 intro ac hA
 have hW := Ws.start w No
 have hW := hW.arg hr_l
 refine wp_seq ?_
 refine wp_region_lit ?_
 refine st hA (by kernel_rfl) (by kernel_rfl) (by kernel_rfl) (Runs.cells (fun b => Value.pointer (some ⟨b, 0, none⟩)) #[Value.int .i64 two.a.what, Value.int .i64 two.a.h, Value.int .i64 two.a.id, Value.int .u64 two.a.m.clock, Value.int .i64 two.a.m.site.f, Value.int .i64 two.a.m.site.pc, Value.int .i64 two.b.what, Value.int .i64 two.b.h, Value.int .i64 two.b.id, Value.int .u64 two.b.m.clock, Value.int .i64 two.b.m.site.f, Value.int .i64 two.b.m.site.pc] 55 (fun _ => by kernel_rfl) hW ?_); clear hA ac hW; intro b1 w2 hW hb1 hfw2 ac hA
 refine st_rd (v := Value.bool false) hA (by kernel_rfl) (by kernel_rfl) (by kernel_rfl) hW.cls (Rd.pure fun _ => by kernel_rfl) ?_; clear hA ac; intro ac hA
 refine wpList_nil ?_
 refine thenN ?_
 refine wp_seq ?_
 refine wp_seq ?_
 refine wp_region_lit ?_
 refine st_rd (v := Value.slice A_l l.length c_l) hA (by kernel_rfl) (by kernel_rfl) (by kernel_rfl) hW.cls (Rd.pure fun _ => by kernel_rfl) ?_; clear hA ac; intro ac hA
 refine st_rd (v := Value.int .i64 ((l.length : Nat) : Int)) hA (by kernel_rfl) (by kernel_rfl) (by kernel_rfl) hW.cls (Rd.pure fun _ => by kernel_rfl) ?_; clear hA ac; intro ac hA
 refine st_rd (v := Value.bool (decide ((((l.length : Nat) : Int) : Int) > (30 : Int)))) hA (by kernel_rfl) (by kernel_rfl) (by kernel_rfl) hW.cls (Rd.pure fun _ => by kernel_rfl) ?_; clear hA ac; intro ac hA
 refine wpList_nil ?_
 refine thenN ?_
 refine wp_cond_split (t := decide ((((l.length : Nat) : Int) : Int) > (30 : Int))) (hA.eval (by kernel_rfl)) (fun h3 => ?_) (fun h3 => ?_)
 · skip
   have h3 := of_decide_eq_true h3
   first
   | (exfalso; clear hA hW; omega)
   | (
     refine wp_seq ?_
     refine wp_region_lit ?_
     refine st hA (by kernel_rfl) (by kernel_rfl) (by kernel_rfl) (Runs.callN (v := Value.bool true) (fun _ => by kernel_rfl) hW (e_works23 w2) ?_); clear hA ac hW; intro w4 hW hfw4 ac hA
     refine st_rd (v := Value.bool true) hA (by kernel_rfl) (by kernel_rfl) (by kernel_rfl) hW.cls (Rd.pure fun _ => by kernel_rfl) ?_; clear hA ac; intro ac hA
     refine wpList_nil ?_
     refine thenN ?_
     refine wp_ret ?_
     refine thenR ?_
     refine ret1 (v := Value.bool true) (by rfl) hA (Got.tmp hA (by kernel_rfl) (by kernel_rfl)) ?_
     clear hA
     exact ⟨retv (by rfl), hW.fr⟩)
 · skip
   have h3 := of_decide_eq_false h3
   first
   | (exfalso; clear hA hW; omega)
   | (exfalso; clear hA hW; exact h3 (hRp.same hRq); done)
   | (exfalso; clear hA hW; exact h3 ((hRq.same hRp).trans (sameB_comm _ _)); done)
   | (
     refine wp_skip ?_
     refine thenN ?_
     refine wp_seq ?_
     refine wp_region_lit ?_
     refine st hA (by kernel_rfl) (by kernel_rfl) (by kernel_rfl) (Runs.call (fun _ => by kernel_rfl) (e_pNew w2) ?_)
     rintro _ w5 ⟨n6, n7, rfl, hu_⟩; refine ⟨_, rfl, ?_⟩; replace hW := hW.made hu_; clear hA ac; intro ac hA
     refine st_rd (v := Value.agg #[Value.slice none 0 0]) hA (by kernel_rfl) (by kernel_rfl) (by kernel_rfl) hW.cls (Rd.pure fun _ => by kernel_rfl) ?_; clear hA ac; intro ac hA
     refine st hA (by kernel_rfl) (by kernel_rfl) (by kernel_rfl) (Runs.cells (fun b => Value.pointer (some ⟨b, 0, none⟩)) #[Value.slice none 0 0] 51 (fun _ => by kernel_rfl) hW ?_); clear hA ac hW; intro b8 w9 hW hb8 hfw9 ac hA
     refine st_rd (v := Value.pointer (some ⟨n6, 0, none⟩)) hA (by kernel_rfl) (by kernel_rfl) (by kernel_rfl) hW.cls (Rd.pure fun _ => by kernel_rfl) ?_; clear hA ac; intro ac hA
     refine st hA (by kernel_rfl) (by kernel_rfl) (by kernel_rfl) (Runs.store (v := Value.agg #[Value.slice none 0 0]) (b := b8) (j := 0) (n := 1) (cs' := #[Value.slice none 0 0]) (H' := [Cel b8 #[Value.slice none 0 0] 51, PoolR n6 n7 ([] : List (Int × Nat × List (Int × Mark))), Cel b1 #[Value.int .i64 two.a.what, Value.int .i64 two.a.h, Value.int .i64 two.a.id, Value.int .u64 two.a.m.clock, Value.int .i64 two.a.m.site.f, Value.int .i64 two.a.m.site.pc, Value.int .i64 two.b.what, Value.int .i64 two.b.h, Value.int .i64 two.b.id, Value.int .u64 two.b.m.clock, Value.int .i64 two.b.m.site.f, Value.int .i64 two.b.m.site.pc] 55]) (by kernel_rfl) (by kernel_rfl) (by kernel_rfl) (by kernel_rfl) (by kernel_rfl) hW 0 (by rfl) (Nat.le_of_ble_eq_true (by kernel_rfl)) (by kernel_rfl) (by rfl) ?_); clear hA ac hW; intro w10 hW ac hA
     refine wpList_nil ?_
     refine thenN ?_
     refine wp_seq ?_
     refine wp_seq ?_
     refine wp_region_lit ?_
     refine st_rd (v := Value.int .i64 0) hA (by kernel_rfl) (by kernel_rfl) (by kernel_rfl) hW.cls (Rd.pure fun _ => by kernel_rfl) ?_; clear hA ac; intro ac hA
     refine wpList_nil ?_
     refine thenN ?_
     refine wp_block ?_
     have hW := hW.addG (roR none 2 enVecE ([] : List VecE)) (.inl rfl) (by simp [roR]) (by simp [roR])
     have hW := hW.nestNil innerVecE
     have hknq11 : ∀ x_ ∈ ([] : List VecE), capVecE x_ := all_nil
     refine wp_loop_m (fun m_ ac_ wl_ => ∃ k : Nat, ∃ m : Nat, ∃ b : Nat, ∃ V : VT23, ∃ W : List VecE, ∃ AA : Option Addr, ∃ cc : Nat, m_ = l.length - k ∧ (k ≤ l.length) ∧ (Rel23 k (pv W) V) ∧ (W.length ≤ cc) ∧ (∀ x_ ∈ W, capVecE x_) ∧ Fm 95 [] [(0, Value.slice A_l l.length c_l), (3, Value.pointer (some ⟨b1, 0, none⟩)), (5, Value.pointer (some ⟨m, 0, none⟩)), (6, Value.pointer (some ⟨b8, 0, none⟩)), (7, Value.int .i64 ((k : Nat) : Int))] ac_ ∧ Ws w No [Cel b8 #[Value.slice AA W.length cc] 51, PoolR m b V, Cel b1 #[Value.int .i64 two.a.what, Value.int .i64 two.a.h, Value.int .i64 two.a.id, Value.int .u64 two.a.m.clock, Value.int .i64 two.a.m.site.f, Value.int .i64 two.a.m.site.pc, Value.int .i64 two.b.what, Value.int .i64 two.b.h, Value.int .i64 two.b.id, Value.int .u64 two.b.m.clock, Value.int .i64 two.b.m.site.f, Value.int .i64 two.b.m.site.pc] 55] [nestR innerVecE W, roR AA 2 enVecE W, roR A_l 6 enAct23 l] wl_) _ ⟨0, n6, n7, ([] : List (Int × Nat × List (Int × Mark))), ([] : List VecE), none, 0, rfl, by omega, by exact Rel23.start, by simp, by exact all_nil, hA.sub ⟨⟨by kernel_rfl, by kernel_rfl⟩, ⟨by kernel_rfl, by kernel_rfl⟩, ⟨by kernel_rfl, by kernel_rfl⟩, ⟨by kernel_rfl, by kernel_rfl⟩, ⟨by kernel_rfl, by kernel_rfl⟩, trivial⟩, (hW.pick [0, 1, 2] (by decide) rfl).pickG [0, 1, 2] rfl⟩ ?_
     clear hA ac hW; rintro m_ ac w12 ⟨k, m, b, V, W, AA, cc, rfl, hk, hRl, hcW, hkW, hA, hW⟩
     refine wp_seq ?_
     refine wp_seq ?_
     refine wp_region_lit ?_
     refine st_rd (v := Value.int .i64 ((k : Nat) : Int)) hA (by kernel_rfl) (by kernel_rfl) (by kernel_rfl) hW.cls (Rd.pure fun _ => by kernel_rfl) ?_; clear hA ac; intro ac hA
     refine st_rd (v := Value.slice A_l l.length c_l) hA (by kernel_rfl) (by kernel_rfl) (by kernel_rfl) hW.cls (Rd.pure fun _ => by kernel_rfl) ?_; clear hA ac; intro ac hA
     refine st_rd (v := Value.int .i64 ((l.length : Nat) : Int)) hA (by kernel_rfl) (by kernel_rfl) (by kernel_rfl) hW.cls (Rd.pure fun _ => by kernel_rfl) ?_; clear hA ac; intro ac hA
     refine st_rd (v := Value.bool (decide ((((k : Nat) : Int) : Int) < (((l.length : Nat) : Int) : Int)))) hA (by kernel_rfl) (by kernel_rfl) (by kernel_rfl) hW.cls (Rd.pure fun _ => by kernel_rfl) ?_; clear hA ac; intro ac hA
     refine wpList_nil ?_
     refine thenN ?_
     refine wp_cond_split (t := decide ((((k : Nat) : Int) : Int) < (((l.length : Nat) : Int) : Int))) (hA.eval (by kernel_rfl)) (fun h13 => ?_) (fun h13 => ?_)
     · skip
       have h13 := of_decide_eq_true h13
       first
       | (exfalso; clear hA hW; omega)
       | (
         refine wp_skip ?_
         refine thenN ?_
         refine wp_seq ?_
         refine wp_block ?_
         obtain ⟨y14, hy14⟩ : ∃ y, l[k]? = some y := ⟨_, List.getElem?_eq_getElem (by omega)⟩
         obtain ⟨b15, o16, rfl, hbb15⟩ := row_some ((hW).getG 2 rfl) hy14
         refine wp_cut (fun ac_ wl_ => ∃ Aor7_6 : Option Addr, ∃ cor7_6 : Nat, ∃ g0r7_6 : Nat, ∃ g1r7_6 : Nat, ∃ g2r7_6 : VT23, ∃ g3r7_6 : List VecE, ((g3r7_6).length ≤ cor7_6) ∧ (∀ x_ ∈ g3r7_6, capVecE x_) ∧ (∀ n, Rel23 n (pv W) V → Rel23 (n + 1) (pv g3r7_6) g2r7_6) ∧ Fm 95 [] [(0, Value.slice (some ⟨b15, o16, none⟩) l.length c_l), (3, Value.pointer (some ⟨b1, 0, none⟩)), (5, Value.pointer (some ⟨g0r7_6, 0, none⟩)), (6, Value.pointer (some ⟨b8, 0, none⟩)), (7, Value.int .i64 ((k : Nat) : Int)), (20, Value.int .i64 ((k : Nat) : Int)), (21, Value.slice (some ⟨b15, o16, none⟩) l.length c_l), (22, Value.int .i64 ((l.length : Nat) : Int)), (23, Value.bool (decide ((((k : Nat) : Int) : Int) < (((l.length : Nat) : Int) : Int))))] ac_ ∧ Ws w No [Cel b8 #[Value.slice Aor7_6 (g3r7_6).length cor7_6] 51, PoolR g0r7_6 g1r7_6 g2r7_6, Cel b1 #[Value.int .i64 two.a.what, Value.int .i64 two.a.h, Value.int .i64 two.a.id, Value.int .u64 two.a.m.clock, Value.int .i64 two.a.m.site.f, Value.int .i64 two.a.m.site.pc, Value.int .i64 two.b.what, Value.int .i64 two.b.h, Value.int .i64 two.b.id, Value.int .u64 two.b.m.clock, Value.int .i64 two.b.m.site.f, Value.int .i64 two.b.m.site.pc] 55] [nestR innerVecE g3r7_6, roR Aor7_6 2 enVecE g3r7_6, nestR innerVecE W, roR AA 2 enVecE W, roR (some ⟨b15, o16, none⟩) 6 enAct23 l] wl_) ?_ ?_
         · refine sr_region (m := 13) (C := Ws w No [Cel b8 #[Value.slice AA W.length cc] 51, Cel b1 #[Value.int .i64 two.a.what, Value.int .i64 two.a.h, Value.int .i64 two.a.id, Value.int .u64 two.a.m.clock, Value.int .i64 two.a.m.site.f, Value.int .i64 two.a.m.site.pc, Value.int .i64 two.b.what, Value.int .i64 two.b.h, Value.int .i64 two.b.id, Value.int .u64 two.b.m.clock, Value.int .i64 two.b.m.site.f, Value.int .i64 two.b.m.site.pc] 55] [nestR innerVecE W, roR AA 2 enVecE W, roR (some ⟨b15, o16, none⟩) 6 enAct23 l]) (fun i => [1, 5].contains i) (fun i => [1, 5].contains i) (fun i => [0, 2, 3, 4, 7, 8, 9, 10, 11].contains i) (by kernel_rfl) (by kernel_rfl) (by kernel_rfl) (by kernel_rfl) hW ?_; clear hW; intro w17 hW hfw17 hR; have hC : Ws w No [Cel b8 #[Value.slice AA W.length cc] 51, Cel b1 #[Value.int .i64 two.a.what, Value.int .i64 two.a.h, Value.int .i64 two.a.id, Value.int .u64 two.a.m.clock, Value.int .i64 two.a.m.site.f, Value.int .i64 two.a.m.site.pc, Value.int .i64 two.b.what, Value.int .i64 two.b.h, Value.int .i64 two.b.id, Value.int .u64 two.b.m.clock, Value.int .i64 two.b.m.site.f, Value.int .i64 two.b.m.site.pc] 55] [nestR innerVecE W, roR AA 2 enVecE W, roR (some ⟨b15, o16, none⟩) 6 enAct23 l] w17 := hW.pick [0, 2] (by decide) rfl
           refine sr_pure (i := 0) (v := Value.pointer (some ⟨m, 0, none⟩)) hR (by kernel_rfl) rfl (by kernel_rfl) (by kernel_rfl) (fun _ _ _ h => h.elim) hA (by kernel_rfl) (by kernel_rfl) (by kernel_rfl) (Rd.pure fun _ => by kernel_rfl) ?_; clear hA ac; intro ac hA
           refine sr_take (i := 1) (v := Value.agg #[Value.slice AA W.length cc]) hR (by kernel_rfl) rfl (by kernel_rfl) (by kernel_rfl) (by kernel_rfl) (fun _ _ _ h => h.elim) hA (by kernel_rfl) (by kernel_rfl) (by kernel_rfl) hC (Rd.load (b := b8) (i := 0) (by kernel_rfl) (fun _ hw => (hw).cel 0 rfl) (by kernel_rfl)) ?_; clear hA ac; intro ac hA
           refine sr_pure (i := 2) (v := Value.slice (some ⟨b15, o16, none⟩) l.length c_l) hR (by kernel_rfl) rfl (by kernel_rfl) (by kernel_rfl) (fun _ _ _ h => h.elim) hA (by kernel_rfl) (by kernel_rfl) (by kernel_rfl) (Rd.pure fun _ => by kernel_rfl) ?_; clear hA ac; intro ac hA
           refine sr_pure (i := 3) (v := Value.int .i64 ((k : Nat) : Int)) hR (by kernel_rfl) rfl (by kernel_rfl) (by kernel_rfl) (fun _ _ _ h => h.elim) hA (by kernel_rfl) (by kernel_rfl) (by kernel_rfl) (Rd.pure fun _ => by kernel_rfl) ?_; clear hA ac; intro ac hA
           refine sr_pure (i := 4) (v := Value.pointer (some ⟨b15, o16 + k * 6, none⟩)) hR (by kernel_rfl) rfl (by kernel_rfl) (by kernel_rfl) (fun _ _ _ h => h.elim) hA (by kernel_rfl) (by kernel_rfl) (by kernel_rfl) (Rd.indexAddr (e := 34) (sz := 6) (b := b15) (off := o16) (n := l.length) (c := c_l) (k := k) (by kernel_rfl) (by kernel_rfl) (by first | omega | (simp; done) | (simp; omega)) (fun _ => by kernel_rfl) (fun _ => by kernel_rfl)) ?_; clear hA ac; intro ac hA
           refine sr_take (i := 5) (v := Value.agg #[Value.int .i64 y14.what, Value.int .i64 y14.h, Value.int .i64 y14.id, Value.int .u64 y14.m.clock, Value.int .i64 y14.m.site.f, Value.int .i64 y14.m.site.pc]) hR (by kernel_rfl) rfl (by kernel_rfl) (by kernel_rfl) (by kernel_rfl) (fun _ _ _ h => h.elim) hA (by kernel_rfl) (by kernel_rfl) (by kernel_rfl) hC (Rd.loadRow (b := b15) (i := o16 + k * 6) (xs := [Value.int .i64 y14.what, Value.int .i64 y14.h, Value.int .i64 y14.id, Value.int .u64 y14.m.clock, Value.int .i64 y14.m.site.f, Value.int .i64 y14.m.site.pc]) (by kernel_rfl) (fun _ hw => row_ld ((hw).getG 2 rfl) hy14 (Fr.refl No _) (fun h => h) 0 6 (by kernel_rfl)) (by kernel_rfl)) ?_; clear hA ac; intro ac hA
           refine sr_one (i := 6) (by kernel_rfl) (sr_do rfl hA (by kernel_rfl) (by kernel_rfl) (by kernel_rfl) (Runs.call (fun _ => by kernel_rfl) (e_act23 m b V AA cc W y14 w17 ((hW).get 1 rfl) ((hW).lt _ (List.mem_of_getElem? (i := 1) rfl)) ((hW).getG 1 rfl) (by first | assumption | omega | (simp; omega) | simp) ((hW).gd _ (List.mem_of_getElem? (i := 1) rfl) _ (List.mem_of_getElem? (i := 1) rfl)) ((hW).getG 0 rfl) hkW ((hW).gd _ (List.mem_of_getElem? (i := 0) rfl) _ (List.mem_of_getElem? (i := 1) rfl)) (by first | omega | exact ⟨_, by omega, hRp⟩ | exact ⟨_, by omega, hRq⟩ | exact ⟨_, by omega, hRc⟩ | exact ⟨_, by omega, hRl⟩ | exact Act23.bounds (hwf _ (List.mem_of_getElem? ‹_›)) | exact Act23.bounds hwt.1 | exact Act23.bounds hwt.2 | exact hw5 | (simp; omega) | simp | assumption) (by first | omega | exact ⟨_, by omega, hRp⟩ | exact ⟨_, by omega, hRq⟩ | exact ⟨_, by omega, hRc⟩ | exact ⟨_, by omega, hRl⟩ | exact Act23.bounds (hwf _ (List.mem_of_getElem? ‹_›)) | exact Act23.bounds hwt.1 | exact Act23.bounds hwt.2 | exact hw5 | (simp; omega) | simp | assumption)) ?_))
           rintro _ w18 ⟨g0r7_6, g1r7_6, g2r7_6, g3r7_6, Aor7_6, cor7_6, rfl, hr7_6_hR, hccor7_6, hkcor7_6, hfcor7_6, hnfcor7_6, hdcor7_6, hnecor7_6, hu_⟩; refine ⟨_, rfl, ?_⟩; have hW0 := hW; have hW := hW.upd (H' := [Cel b8 #[Value.slice AA W.length cc] 51, PoolR g0r7_6 g1r7_6 g2r7_6, Cel b1 #[Value.int .i64 two.a.what, Value.int .i64 two.a.h, Value.int .i64 two.a.id, Value.int .u64 two.a.m.clock, Value.int .i64 two.a.m.site.f, Value.int .i64 two.a.m.site.pc, Value.int .i64 two.b.what, Value.int .i64 two.b.h, Value.int .i64 two.b.id, Value.int .u64 two.b.m.clock, Value.int .i64 two.b.m.site.f, Value.int .i64 two.b.m.site.pc] 55]) 1 rfl hu_ rfl
           have hW := hW0.addFromU hW 1 rfl rfl hfcor7_6 (in_cons (in_at 1 rfl) (in_cons (in_at 0 rfl) in_nil)) hdcor7_6
           have hW := hW0.addFromU hW 1 rfl rfl hnfcor7_6 (in_cons (in_at 1 rfl) (in_cons (in_at 0 rfl) in_nil)) hnecor7_6
           clear hW0 hu_ hfcor7_6 hdcor7_6 hnfcor7_6 hnecor7_6 hA ac; intro ac hA
           refine ⟨⟨fun h => absurd h (by decide), fun h => absurd h (by decide)⟩, ?_⟩
           refine sr_pure (i := 7) (v := Value.tuple #[Value.pointer (some ⟨g0r7_6, 0, none⟩), Value.agg #[Value.slice Aor7_6 (g3r7_6).length cor7_6], Value.bool true]) hR (by kernel_rfl) rfl (by kernel_rfl) (by kernel_rfl) (fun _ _ _ h => h.elim) hA (by kernel_rfl) (by kernel_rfl) (by kernel_rfl) (Rd.pure fun _ => by kernel_rfl) ?_; clear hA ac; intro ac hA
           refine sr_pure (i := 8) (v := Value.pointer (some ⟨g0r7_6, 0, none⟩)) hR (by kernel_rfl) rfl (by kernel_rfl) (by kernel_rfl) (fun _ _ _ h => h.elim) hA (by kernel_rfl) (by kernel_rfl) (by kernel_rfl) (Rd.pure fun _ => by kernel_rfl) ?_; clear hA ac; intro ac hA
           refine sr_pure (i := 9) (v := Value.agg #[Value.slice Aor7_6 (g3r7_6).length cor7_6]) hR (by kernel_rfl) rfl (by kernel_rfl) (by kernel_rfl) (fun _ _ _ h => h.elim) hA (by kernel_rfl) (by kernel_rfl) (by kernel_rfl) (Rd.pure fun _ => by kernel_rfl) ?_; clear hA ac; intro ac hA
           refine sr_pure (i := 10) (v := Value.bool true) hR (by kernel_rfl) rfl (by kernel_rfl) (by kernel_rfl) (fun _ _ _ h => h.elim) hA (by kernel_rfl) (by kernel_rfl) (by kernel_rfl) (Rd.pure fun _ => by kernel_rfl) ?_; clear hA ac; intro ac hA
           refine sr_pure (i := 11) (v := Value.pointer (some ⟨g0r7_6, 0, none⟩)) hR (by kernel_rfl) rfl (by kernel_rfl) (by kernel_rfl) (fun _ _ _ h => h.elim) hA (by kernel_rfl) (by kernel_rfl) (by kernel_rfl) (Rd.pure fun _ => by kernel_rfl) ?_; clear hA ac; intro ac hA
           refine sr_one (i := 12) (by kernel_rfl) (sr_do rfl hA (by kernel_rfl) (by kernel_rfl) (by kernel_rfl) (Runs.store (v := Value.agg #[Value.slice Aor7_6 (g3r7_6).length cor7_6]) (b := b8) (j := 0) (n := 1) (cs' := #[Value.slice Aor7_6 (g3r7_6).length cor7_6]) (H' := [Cel b8 #[Value.slice Aor7_6 (g3r7_6).length cor7_6] 51, PoolR g0r7_6 g1r7_6 g2r7_6, Cel b1 #[Value.int .i64 two.a.what, Value.int .i64 two.a.h, Value.int .i64 two.a.id, Value.int .u64 two.a.m.clock, Value.int .i64 two.a.m.site.f, Value.int .i64 two.a.m.site.pc, Value.int .i64 two.b.what, Value.int .i64 two.b.h, Value.int .i64 two.b.id, Value.int .u64 two.b.m.clock, Value.int .i64 two.b.m.site.f, Value.int .i64 two.b.m.site.pc] 55]) (by kernel_rfl) (by kernel_rfl) (by kernel_rfl) (by kernel_rfl) (by kernel_rfl) hW 0 (by rfl) (Nat.le_of_ble_eq_true (by kernel_rfl)) (by kernel_rfl) (by rfl) ?_)); clear hA ac hW; intro w19 hW ac hA
           refine ⟨⟨fun h => absurd h (by decide), fun h => absurd h (by decide)⟩, ?_⟩
           refine sr_done (by kernel_rfl) ?_ _
           exact ⟨Aor7_6, cor7_6, g0r7_6, g1r7_6, g2r7_6, g3r7_6, hccor7_6, hkcor7_6, hr7_6_hR, hA.sub ⟨⟨by kernel_rfl, by kernel_rfl⟩, ⟨by kernel_rfl, by kernel_rfl⟩, ⟨by kernel_rfl, by kernel_rfl⟩, ⟨by kernel_rfl, by kernel_rfl⟩, ⟨by kernel_rfl, by kernel_rfl⟩, ⟨by kernel_rfl, by kernel_rfl⟩, ⟨by kernel_rfl, by kernel_rfl⟩, ⟨by kernel_rfl, by kernel_rfl⟩, ⟨by kernel_rfl, by kernel_rfl⟩, trivial⟩, (hW.pick [0, 1, 2] (by decide) rfl).pickG [0, 1, 2, 3, 4] rfl⟩
         clear hA ac hW; rintro ac w20 ⟨Aor7_6, cor7_6, g0r7_6, g1r7_6, g2r7_6, g3r7_6, hccor7_6, hkcor7_6, hr7_6_hR, hA, hW⟩
         refine blkN ?_
         refine thenN ?_
         refine wp_region_lit ?_
         refine st_rd (v := Value.int .i64 ((k : Nat) : Int)) hA (by kernel_rfl) (by kernel_rfl) (by kernel_rfl) hW.cls (Rd.pure fun _ => by kernel_rfl) ?_; clear hA ac; intro ac hA
         refine st_rd (v := Value.int .i64 ((k + 1 : Nat) : Int)) hA (by kernel_rfl) (by kernel_rfl) (by kernel_rfl) hW.cls (Rd.pureE (v0 := Value.int .i64 (IntKind.i64.wrap ((((k : Nat) : Int) : Int) + 1))) (fun _ => by kernel_rfl) (congrArg (Value.int .i64) ((w_i64 (x := (((k : Nat) : Int) : Int) + 1) (by omega) (by omega)).trans (by omega)))) ?_; clear hA ac; intro ac hA
         refine st_rd (v := Value.int .i64 ((k + 1 : Nat) : Int)) hA (by kernel_rfl) (by kernel_rfl) (by kernel_rfl) hW.cls (Rd.pure fun _ => by kernel_rfl) ?_; clear hA ac; intro ac hA
         refine wpList_nil ?_
         refine thenN ?_
         exact ⟨l.length - (k + 1), by omega, k + 1, g0r7_6, g1r7_6, g2r7_6, g3r7_6, Aor7_6, cor7_6, rfl, by omega, by exact hr7_6_hR k hRl, by first | exact hccor7_6 | simp, by exact hkcor7_6, hA.sub ⟨⟨by kernel_rfl, by kernel_rfl⟩, ⟨by kernel_rfl, by kernel_rfl⟩, ⟨by kernel_rfl, by kernel_rfl⟩, ⟨by kernel_rfl, by kernel_rfl⟩, ⟨by kernel_rfl, by kernel_rfl⟩, trivial⟩, (hW.pick [0, 1, 2] (by decide) rfl).pickG [0, 1, 4] rfl⟩)
     · skip
       have h13 := of_decide_eq_false h13
       first
       | (exfalso; clear hA hW; omega)
       | (exfalso; clear hA hW; exact h13 (hRp.same hRq); done)
       | (exfalso; clear hA hW; exact h13 ((hRq.same hRp).trans (sameB_comm _ _)); done)
       | (
         refine wp_exit ?_
         refine thenX ?_
         refine thenX ?_
         refine blkX ?_
         refine thenN ?_
         refine wp_seq ?_
         obtain ⟨hw1, hw2, hw3, hw4, hw5⟩ := hRl.lenW (by omega)
         refine wp_region_lit ?_
         refine st_rd (v := Value.pointer (some ⟨m, 0, none⟩)) hA (by kernel_rfl) (by kernel_rfl) (by kernel_rfl) hW.cls (Rd.pure fun _ => by kernel_rfl) ?_; clear hA ac; intro ac hA
         refine st hA (by kernel_rfl) (by kernel_rfl) (by kernel_rfl) (Runs.call (fun _ => by kernel_rfl) (e_copy m b V w12 ((hW).get 1 rfl) ((hW).lt _ (List.mem_of_getElem? (i := 1) rfl)) (by first | omega | exact ⟨_, by omega, hRp⟩ | exact ⟨_, by omega, hRq⟩ | exact ⟨_, by omega, hRc⟩ | exact ⟨_, by omega, hRl⟩ | exact Act23.bounds (hwf _ (List.mem_of_getElem? ‹_›)) | exact Act23.bounds hwt.1 | exact Act23.bounds hwt.2 | exact hw5 | (simp; omega) | simp | assumption)) ?_)
         rintro _ w21 ⟨n22, n23, n24, rfl, hw21_hp, hu_⟩; refine ⟨_, rfl, ?_⟩; replace hW := hW.made hu_; clear hA ac; intro ac hA
         refine st_rd (v := Value.pointer (some ⟨n22, 0, none⟩)) hA (by kernel_rfl) (by kernel_rfl) (by kernel_rfl) hW.cls (Rd.pure fun _ => by kernel_rfl) ?_; clear hA ac; intro ac hA
         refine wpList_nil ?_
         refine thenN ?_
         refine wp_seq ?_
         have hRc := hRl.copy hw21_hp
         refine wp_region_lit ?_
         refine st_rd (v := Value.pointer (some ⟨m, 0, none⟩)) hA (by kernel_rfl) (by kernel_rfl) (by kernel_rfl) hW.cls (Rd.pure fun _ => by kernel_rfl) ?_; clear hA ac; intro ac hA
         refine st_rd (v := Value.agg #[Value.slice AA W.length cc]) hA (by kernel_rfl) (by kernel_rfl) (by kernel_rfl) hW.cls (Rd.load (b := b8) (i := 0) (by kernel_rfl) (fun _ hw => (hw.1).cel 1 rfl) (by kernel_rfl)) ?_; clear hA ac; intro ac hA
         refine st_rd (v := Value.pointer (some ⟨b1, 0, none⟩)) hA (by kernel_rfl) (by kernel_rfl) (by kernel_rfl) hW.cls (Rd.pure fun _ => by kernel_rfl) ?_; clear hA ac; intro ac hA
         refine st_rd (v := Value.agg #[Value.int .i64 two.a.what, Value.int .i64 two.a.h, Value.int .i64 two.a.id, Value.int .u64 two.a.m.clock, Value.int .i64 two.a.m.site.f, Value.int .i64 two.a.m.site.pc]) hA (by kernel_rfl) (by kernel_rfl) (by kernel_rfl) hW.cls (Rd.load (b := b1) (i := 0) (by kernel_rfl) (fun _ hw => (hw.1).cel 3 rfl) (by kernel_rfl)) ?_; clear hA ac; intro ac hA
         refine st hA (by kernel_rfl) (by kernel_rfl) (by kernel_rfl) (Runs.call (fun _ => by kernel_rfl) (e_act23 m b V AA cc W two.a w21 ((hW).get 2 rfl) ((hW).lt _ (List.mem_of_getElem? (i := 2) rfl)) ((hW).getG 1 rfl) (by first | assumption | omega | (simp; omega) | simp) ((hW).gd _ (List.mem_of_getElem? (i := 1) rfl) _ (List.mem_of_getElem? (i := 2) rfl)) ((hW).getG 0 rfl) hkW ((hW).gd _ (List.mem_of_getElem? (i := 0) rfl) _ (List.mem_of_getElem? (i := 2) rfl)) (by first | omega | exact ⟨_, by omega, hRp⟩ | exact ⟨_, by omega, hRq⟩ | exact ⟨_, by omega, hRc⟩ | exact ⟨_, by omega, hRl⟩ | exact Act23.bounds (hwf _ (List.mem_of_getElem? ‹_›)) | exact Act23.bounds hwt.1 | exact Act23.bounds hwt.2 | exact hw5 | (simp; omega) | simp | assumption) (by first | omega | exact ⟨_, by omega, hRp⟩ | exact ⟨_, by omega, hRq⟩ | exact ⟨_, by omega, hRc⟩ | exact ⟨_, by omega, hRl⟩ | exact Act23.bounds (hwf _ (List.mem_of_getElem? ‹_›)) | exact Act23.bounds hwt.1 | exact Act23.bounds hwt.2 | exact hw5 | (simp; omega) | simp | assumption)) ?_)
         rintro _ w25 ⟨g26, g27, g28, g29, Ao30, co31, rfl, hw25_hR, hcco31, hkco31, hfco31, hnfco31, hdco31, hneco31, hu_⟩; refine ⟨_, rfl, ?_⟩; have hW0 := hW; have hW := hW.upd (H' := [PoolR n22 n23 n24, Cel b8 #[Value.slice AA W.length cc] 51, PoolR g26 g27 g28, Cel b1 #[Value.int .i64 two.a.what, Value.int .i64 two.a.h, Value.int .i64 two.a.id, Value.int .u64 two.a.m.clock, Value.int .i64 two.a.m.site.f, Value.int .i64 two.a.m.site.pc, Value.int .i64 two.b.what, Value.int .i64 two.b.h, Value.int .i64 two.b.id, Value.int .u64 two.b.m.clock, Value.int .i64 two.b.m.site.f, Value.int .i64 two.b.m.site.pc] 55]) 2 rfl hu_ rfl
         have hW := hW0.addFromU hW 2 rfl rfl hfco31 (in_cons (in_at 1 rfl) (in_cons (in_at 0 rfl) in_nil)) hdco31
         have hW := hW0.addFromU hW 2 rfl rfl hnfco31 (in_cons (in_at 1 rfl) (in_cons (in_at 0 rfl) in_nil)) hneco31
         clear hW0 hu_ hfco31 hdco31 hnfco31 hneco31 hA ac; intro ac hA
         refine st_rd (v := Value.tuple #[Value.pointer (some ⟨g26, 0, none⟩), Value.agg #[Value.slice Ao30 (g29).length co31], Value.bool true]) hA (by kernel_rfl) (by kernel_rfl) (by kernel_rfl) hW.cls (Rd.pure fun _ => by kernel_rfl) ?_; clear hA ac; intro ac hA
         refine st_rd (v := Value.pointer (some ⟨g26, 0, none⟩)) hA (by kernel_rfl) (by kernel_rfl) (by kernel_rfl) hW.cls (Rd.pure fun _ => by kernel_rfl) ?_; clear hA ac; intro ac hA
         refine st_rd (v := Value.agg #[Value.slice Ao30 (g29).length co31]) hA (by kernel_rfl) (by kernel_rfl) (by kernel_rfl) hW.cls (Rd.pure fun _ => by kernel_rfl) ?_; clear hA ac; intro ac hA
         refine st_rd (v := Value.bool true) hA (by kernel_rfl) (by kernel_rfl) (by kernel_rfl) hW.cls (Rd.pure fun _ => by kernel_rfl) ?_; clear hA ac; intro ac hA
         refine st hA (by kernel_rfl) (by kernel_rfl) (by kernel_rfl) (Runs.cells (fun b => Value.pointer (some ⟨b, 0, none⟩)) #[Value.slice none 0 0] 51 (fun _ => by kernel_rfl) hW ?_); clear hA ac hW; intro b32 w33 hW hb32 hfw33 ac hA
         refine st_rd (v := Value.pointer (some ⟨g26, 0, none⟩)) hA (by kernel_rfl) (by kernel_rfl) (by kernel_rfl) hW.cls (Rd.pure fun _ => by kernel_rfl) ?_; clear hA ac; intro ac hA
         refine st hA (by kernel_rfl) (by kernel_rfl) (by kernel_rfl) (Runs.store (v := Value.agg #[Value.slice Ao30 (g29).length co31]) (b := b32) (j := 0) (n := 1) (cs' := #[Value.slice Ao30 (g29).length co31]) (H' := [Cel b32 #[Value.slice Ao30 (g29).length co31] 51, PoolR n22 n23 n24, Cel b8 #[Value.slice AA W.length cc] 51, PoolR g26 g27 g28, Cel b1 #[Value.int .i64 two.a.what, Value.int .i64 two.a.h, Value.int .i64 two.a.id, Value.int .u64 two.a.m.clock, Value.int .i64 two.a.m.site.f, Value.int .i64 two.a.m.site.pc, Value.int .i64 two.b.what, Value.int .i64 two.b.h, Value.int .i64 two.b.id, Value.int .u64 two.b.m.clock, Value.int .i64 two.b.m.site.f, Value.int .i64 two.b.m.site.pc] 55]) (by kernel_rfl) (by kernel_rfl) (by kernel_rfl) (by kernel_rfl) (by kernel_rfl) hW 0 (by rfl) (Nat.le_of_ble_eq_true (by kernel_rfl)) (by kernel_rfl) (by rfl) ?_); clear hA ac hW; intro w34 hW ac hA
         refine st_rd (v := Value.bool true) hA (by kernel_rfl) (by kernel_rfl) (by kernel_rfl) hW.cls (Rd.pure fun _ => by kernel_rfl) ?_; clear hA ac; intro ac hA
         refine wpList_nil ?_
         refine thenN ?_
         refine wp_seq ?_
         refine wp_region_lit ?_
         refine st_rd (v := Value.pointer (some ⟨n22, 0, none⟩)) hA (by kernel_rfl) (by kernel_rfl) (by kernel_rfl) hW.cls (Rd.pure fun _ => by kernel_rfl) ?_; clear hA ac; intro ac hA
         refine st_rd (v := Value.agg #[Value.slice AA W.length cc]) hA (by kernel_rfl) (by kernel_rfl) (by kernel_rfl) hW.cls (Rd.load (b := b8) (i := 0) (by kernel_rfl) (fun _ hw => (hw.1).cel 2 rfl) (by kernel_rfl)) ?_; clear hA ac; intro ac hA
         refine st_rd (v := Value.pointer (some ⟨b1, 6, none⟩)) hA (by kernel_rfl) (by kernel_rfl) (by kernel_rfl) hW.cls (Rd.pure fun _ => by kernel_rfl) ?_; clear hA ac; intro ac hA
         refine st_rd (v := Value.agg #[Value.int .i64 two.b.what, Value.int .i64 two.b.h, Value.int .i64 two.b.id, Value.int .u64 two.b.m.clock, Value.int .i64 two.b.m.site.f, Value.int .i64 two.b.m.site.pc]) hA (by kernel_rfl) (by kernel_rfl) (by kernel_rfl) hW.cls (Rd.load (b := b1) (i := 6) (by kernel_rfl) (fun _ hw => (hw.1).cel 4 rfl) (by kernel_rfl)) ?_; clear hA ac; intro ac hA
         refine st hA (by kernel_rfl) (by kernel_rfl) (by kernel_rfl) (Runs.call (fun _ => by kernel_rfl) (e_act23 n22 n23 n24 AA cc W two.b w34 ((hW).get 1 rfl) ((hW).lt _ (List.mem_of_getElem? (i := 1) rfl)) ((hW).getG 3 rfl) (by first | assumption | omega | (simp; omega) | simp) ((hW).gd _ (List.mem_of_getElem? (i := 3) rfl) _ (List.mem_of_getElem? (i := 1) rfl)) ((hW).getG 2 rfl) hkW ((hW).gd _ (List.mem_of_getElem? (i := 2) rfl) _ (List.mem_of_getElem? (i := 1) rfl)) (by first | omega | exact ⟨_, by omega, hRp⟩ | exact ⟨_, by omega, hRq⟩ | exact ⟨_, by omega, hRc⟩ | exact ⟨_, by omega, hRl⟩ | exact Act23.bounds (hwf _ (List.mem_of_getElem? ‹_›)) | exact Act23.bounds hwt.1 | exact Act23.bounds hwt.2 | exact hw5 | (simp; omega) | simp | assumption) (by first | omega | exact ⟨_, by omega, hRp⟩ | exact ⟨_, by omega, hRq⟩ | exact ⟨_, by omega, hRc⟩ | exact ⟨_, by omega, hRl⟩ | exact Act23.bounds (hwf _ (List.mem_of_getElem? ‹_›)) | exact Act23.bounds hwt.1 | exact Act23.bounds hwt.2 | exact hw5 | (simp; omega) | simp | assumption)) ?_)
         rintro _ w35 ⟨g36, g37, g38, g39, Ao40, co41, rfl, hw35_hR, hcco41, hkco41, hfco41, hnfco41, hdco41, hneco41, hu_⟩; refine ⟨_, rfl, ?_⟩; have hW0 := hW; have hW := hW.upd (H' := [Cel b32 #[Value.slice Ao30 (g29).length co31] 51, PoolR g36 g37 g38, Cel b8 #[Value.slice AA W.length cc] 51, PoolR g26 g27 g28, Cel b1 #[Value.int .i64 two.a.what, Value.int .i64 two.a.h, Value.int .i64 two.a.id, Value.int .u64 two.a.m.clock, Value.int .i64 two.a.m.site.f, Value.int .i64 two.a.m.site.pc, Value.int .i64 two.b.what, Value.int .i64 two.b.h, Value.int .i64 two.b.id, Value.int .u64 two.b.m.clock, Value.int .i64 two.b.m.site.f, Value.int .i64 two.b.m.site.pc] 55]) 1 rfl hu_ rfl
         have hW := hW0.addFromU hW 1 rfl rfl hfco41 (in_cons (in_at 3 rfl) (in_cons (in_at 2 rfl) in_nil)) hdco41
         have hW := hW0.addFromU hW 1 rfl rfl hnfco41 (in_cons (in_at 3 rfl) (in_cons (in_at 2 rfl) in_nil)) hneco41
         clear hW0 hu_ hfco41 hdco41 hnfco41 hneco41 hA ac; intro ac hA
         refine st_rd (v := Value.tuple #[Value.pointer (some ⟨g36, 0, none⟩), Value.agg #[Value.slice Ao40 (g39).length co41], Value.bool true]) hA (by kernel_rfl) (by kernel_rfl) (by kernel_rfl) hW.cls (Rd.pure fun _ => by kernel_rfl) ?_; clear hA ac; intro ac hA
         refine st_rd (v := Value.pointer (some ⟨g36, 0, none⟩)) hA (by kernel_rfl) (by kernel_rfl) (by kernel_rfl) hW.cls (Rd.pure fun _ => by kernel_rfl) ?_; clear hA ac; intro ac hA
         refine st_rd (v := Value.agg #[Value.slice Ao40 (g39).length co41]) hA (by kernel_rfl) (by kernel_rfl) (by kernel_rfl) hW.cls (Rd.pure fun _ => by kernel_rfl) ?_; clear hA ac; intro ac hA
         refine st_rd (v := Value.bool true) hA (by kernel_rfl) (by kernel_rfl) (by kernel_rfl) hW.cls (Rd.pure fun _ => by kernel_rfl) ?_; clear hA ac; intro ac hA
         refine st hA (by kernel_rfl) (by kernel_rfl) (by kernel_rfl) (Runs.cells (fun b => Value.pointer (some ⟨b, 0, none⟩)) #[Value.slice none 0 0] 51 (fun _ => by kernel_rfl) hW ?_); clear hA ac hW; intro b42 w43 hW hb42 hfw43 ac hA
         refine st_rd (v := Value.pointer (some ⟨g36, 0, none⟩)) hA (by kernel_rfl) (by kernel_rfl) (by kernel_rfl) hW.cls (Rd.pure fun _ => by kernel_rfl) ?_; clear hA ac; intro ac hA
         refine st hA (by kernel_rfl) (by kernel_rfl) (by kernel_rfl) (Runs.store (v := Value.agg #[Value.slice Ao40 (g39).length co41]) (b := b42) (j := 0) (n := 1) (cs' := #[Value.slice Ao40 (g39).length co41]) (H' := [Cel b42 #[Value.slice Ao40 (g39).length co41] 51, Cel b32 #[Value.slice Ao30 (g29).length co31] 51, PoolR g36 g37 g38, Cel b8 #[Value.slice AA W.length cc] 51, PoolR g26 g27 g28, Cel b1 #[Value.int .i64 two.a.what, Value.int .i64 two.a.h, Value.int .i64 two.a.id, Value.int .u64 two.a.m.clock, Value.int .i64 two.a.m.site.f, Value.int .i64 two.a.m.site.pc, Value.int .i64 two.b.what, Value.int .i64 two.b.h, Value.int .i64 two.b.id, Value.int .u64 two.b.m.clock, Value.int .i64 two.b.m.site.f, Value.int .i64 two.b.m.site.pc] 55]) (by kernel_rfl) (by kernel_rfl) (by kernel_rfl) (by kernel_rfl) (by kernel_rfl) hW 0 (by rfl) (Nat.le_of_ble_eq_true (by kernel_rfl)) (by kernel_rfl) (by rfl) ?_); clear hA ac hW; intro w44 hW ac hA
         refine st_rd (v := Value.bool true) hA (by kernel_rfl) (by kernel_rfl) (by kernel_rfl) hW.cls (Rd.pure fun _ => by kernel_rfl) ?_; clear hA ac; intro ac hA
         refine wpList_nil ?_
         refine thenN ?_
         refine wp_seq ?_
         have hRp := hw25_hR k hRl; have hRq := hw35_hR k hRc
         obtain ⟨hx1, hx2, hx3, hx4, hx5⟩ := hRp.lenW (by omega); obtain ⟨hy1, hy2, hy3, hy4, hy5⟩ := hRq.lenW (by omega)
         refine wp_region_lit ?_
         refine st_rd (v := Value.agg #[Value.slice Ao30 (g29).length co31]) hA (by kernel_rfl) (by kernel_rfl) (by kernel_rfl) hW.cls (Rd.load (b := b32) (i := 0) (by kernel_rfl) (fun _ hw => (hw.1).cel 1 rfl) (by kernel_rfl)) ?_; clear hA ac; intro ac hA
         refine st_rd (v := Value.agg #[Value.slice Ao40 (g39).length co41]) hA (by kernel_rfl) (by kernel_rfl) (by kernel_rfl) hW.cls (Rd.load (b := b42) (i := 0) (by kernel_rfl) (fun _ hw => (hw.1).cel 0 rfl) (by kernel_rfl)) ?_; clear hA ac; intro ac hA
         refine st hA (by kernel_rfl) (by kernel_rfl) (by kernel_rfl) (Runs.callN (v := Value.bool (sameB (pv g29) (pv g39))) (fun _ => by kernel_rfl) hW (e_rsame Ao30 co31 g29 Ao40 co41 g39 w44 ((hW).getG 3 rfl) (by first | assumption | omega | (simp; omega) | simp) ((hW).getG 2 rfl) hkco31 ((hW).getG 1 rfl) (by first | assumption | omega | (simp; omega) | simp) ((hW).getG 0 rfl) hkco41 (by first | omega | exact ⟨_, by omega, hRp⟩ | exact ⟨_, by omega, hRq⟩ | exact ⟨_, by omega, hRc⟩ | exact ⟨_, by omega, hRl⟩ | exact Act23.bounds (hwf _ (List.mem_of_getElem? ‹_›)) | exact Act23.bounds hwt.1 | exact Act23.bounds hwt.2 | exact hw5 | (simp; omega) | simp | assumption) (by first | omega | exact ⟨_, by omega, hRp⟩ | exact ⟨_, by omega, hRq⟩ | exact ⟨_, by omega, hRc⟩ | exact ⟨_, by omega, hRl⟩ | exact Act23.bounds (hwf _ (List.mem_of_getElem? ‹_›)) | exact Act23.bounds hwt.1 | exact Act23.bounds hwt.2 | exact hw5 | (simp; omega) | simp | assumption) (by first | omega | exact ⟨_, by omega, hRp⟩ | exact ⟨_, by omega, hRq⟩ | exact ⟨_, by omega, hRc⟩ | exact ⟨_, by omega, hRl⟩ | exact Act23.bounds (hwf _ (List.mem_of_getElem? ‹_›)) | exact Act23.bounds hwt.1 | exact Act23.bounds hwt.2 | exact hw5 | (simp; omega) | simp | assumption)) ?_); clear hA ac hW; intro w45 hW hfw45 ac hA
         refine st_rd (v := Value.bool (sameB (pv g29) (pv g39))) hA (by kernel_rfl) (by kernel_rfl) (by kernel_rfl) hW.cls (Rd.pure fun _ => by kernel_rfl) ?_; clear hA ac; intro ac hA
         refine wpList_nil ?_
         refine thenN ?_
         refine wp_seq ?_
         refine wp_region_lit ?_
         refine st_rd (v := Value.bool true) hA (by kernel_rfl) (by kernel_rfl) (by kernel_rfl) hW.cls (Rd.pure fun _ => by kernel_rfl) ?_; clear hA ac; intro ac hA
         refine st_rd (v := Value.bool true) hA (by kernel_rfl) (by kernel_rfl) (by kernel_rfl) hW.cls (Rd.pure fun _ => by kernel_rfl) ?_; clear hA ac; intro ac hA
         refine st_rd (v := Value.bool true) hA (by kernel_rfl) (by kernel_rfl) (by kernel_rfl) hW.cls (Rd.pure fun _ => by kernel_rfl) ?_; clear hA ac; intro ac hA
         refine st_rd (v := Value.bool true) hA (by kernel_rfl) (by kernel_rfl) (by kernel_rfl) hW.cls (Rd.pure fun _ => by kernel_rfl) ?_; clear hA ac; intro ac hA
         refine st_rd (v := Value.bool true) hA (by kernel_rfl) (by kernel_rfl) (by kernel_rfl) hW.cls (Rd.pure fun _ => by kernel_rfl) ?_; clear hA ac; intro ac hA
         refine st_rd (v := Value.pointer (some ⟨g26, 0, none⟩)) hA (by kernel_rfl) (by kernel_rfl) (by kernel_rfl) hW.cls (Rd.pure fun _ => by kernel_rfl) ?_; clear hA ac; intro ac hA
         refine st_rd (v := Value.agg #[Value.slice Ao30 (g29).length co31]) hA (by kernel_rfl) (by kernel_rfl) (by kernel_rfl) hW.cls (Rd.load (b := b32) (i := 0) (by kernel_rfl) (fun _ hw => (hw.1).cel 1 rfl) (by kernel_rfl)) ?_; clear hA ac; intro ac hA
         refine st_rd (v := Value.pointer (some ⟨b1, 0, none⟩)) hA (by kernel_rfl) (by kernel_rfl) (by kernel_rfl) hW.cls (Rd.pure fun _ => by kernel_rfl) ?_; clear hA ac; intro ac hA
         refine st_rd (v := Value.agg #[Value.int .i64 two.a.what, Value.int .i64 two.a.h, Value.int .i64 two.a.id, Value.int .u64 two.a.m.clock, Value.int .i64 two.a.m.site.f, Value.int .i64 two.a.m.site.pc]) hA (by kernel_rfl) (by kernel_rfl) (by kernel_rfl) hW.cls (Rd.load (b := b1) (i := 0) (by kernel_rfl) (fun _ hw => (hw.1).cel 5 rfl) (by kernel_rfl)) ?_; clear hA ac; intro ac hA
         refine st hA (by kernel_rfl) (by kernel_rfl) (by kernel_rfl) (Runs.callN (v := Value.bool true) (fun _ => by kernel_rfl) hW (e_is23 g26 g27 g28 Ao30 co31 g29 two.a none 0 ([] : List Int) (99) w45 ((hW).get 4 rfl) ((hW).lt _ (List.mem_of_getElem? (i := 4) rfl)) ((hW).getG 3 rfl) (by first | assumption | omega | (simp; omega) | simp) ((hW).getG 2 rfl) hkco31 (RowAt.nil' _ _) (by first | assumption | omega | (simp; omega) | simp) (by first | omega | exact ⟨_, by omega, hRp⟩ | exact ⟨_, by omega, hRq⟩ | exact ⟨_, by omega, hRc⟩ | exact ⟨_, by omega, hRl⟩ | exact Act23.bounds (hwf _ (List.mem_of_getElem? ‹_›)) | exact Act23.bounds hwt.1 | exact Act23.bounds hwt.2 | exact hw5 | (simp; omega) | simp | assumption) (by first | omega | exact ⟨_, by omega, hRp⟩ | exact ⟨_, by omega, hRq⟩ | exact ⟨_, by omega, hRc⟩ | exact ⟨_, by omega, hRl⟩ | exact Act23.bounds (hwf _ (List.mem_of_getElem? ‹_›)) | exact Act23.bounds hwt.1 | exact Act23.bounds hwt.2 | exact hw5 | (simp; omega) | simp | assumption)) ?_); clear hA ac hW; intro w46 hW hfw46 ac hA
         refine st_rd (v := Value.bool true) hA (by kernel_rfl) (by kernel_rfl) (by kernel_rfl) hW.cls (Rd.pure fun _ => by kernel_rfl) ?_; clear hA ac; intro ac hA
         refine st_rd (v := Value.bool true) hA (by kernel_rfl) (by kernel_rfl) (by kernel_rfl) hW.cls (Rd.pure fun _ => by kernel_rfl) ?_; clear hA ac; intro ac hA
         refine st_rd (v := Value.pointer (some ⟨g36, 0, none⟩)) hA (by kernel_rfl) (by kernel_rfl) (by kernel_rfl) hW.cls (Rd.pure fun _ => by kernel_rfl) ?_; clear hA ac; intro ac hA
         refine st_rd (v := Value.agg #[Value.slice Ao40 (g39).length co41]) hA (by kernel_rfl) (by kernel_rfl) (by kernel_rfl) hW.cls (Rd.load (b := b42) (i := 0) (by kernel_rfl) (fun _ hw => (hw.1).cel 0 rfl) (by kernel_rfl)) ?_; clear hA ac; intro ac hA
         refine st_rd (v := Value.pointer (some ⟨b1, 6, none⟩)) hA (by kernel_rfl) (by kernel_rfl) (by kernel_rfl) hW.cls (Rd.pure fun _ => by kernel_rfl) ?_; clear hA ac; intro ac hA
         refine st_rd (v := Value.agg #[Value.int .i64 two.b.what, Value.int .i64 two.b.h, Value.int .i64 two.b.id, Value.int .u64 two.b.m.clock, Value.int .i64 two.b.m.site.f, Value.int .i64 two.b.m.site.pc]) hA (by kernel_rfl) (by kernel_rfl) (by kernel_rfl) hW.cls (Rd.load (b := b1) (i := 6) (by kernel_rfl) (fun _ hw => (hw.1).cel 5 rfl) (by kernel_rfl)) ?_; clear hA ac; intro ac hA
         refine st hA (by kernel_rfl) (by kernel_rfl) (by kernel_rfl) (Runs.callN (v := Value.bool true) (fun _ => by kernel_rfl) hW (e_is23 g36 g37 g38 Ao40 co41 g39 two.b none 0 ([] : List Int) (99) w46 ((hW).get 2 rfl) ((hW).lt _ (List.mem_of_getElem? (i := 2) rfl)) ((hW).getG 1 rfl) (by first | assumption | omega | (simp; omega) | simp) ((hW).getG 0 rfl) hkco41 (RowAt.nil' _ _) (by first | assumption | omega | (simp; omega) | simp) (by first | omega | exact ⟨_, by omega, hRp⟩ | exact ⟨_, by omega, hRq⟩ | exact ⟨_, by omega, hRc⟩ | exact ⟨_, by omega, hRl⟩ | exact Act23.bounds (hwf _ (List.mem_of_getElem? ‹_›)) | exact Act23.bounds hwt.1 | exact Act23.bounds hwt.2 | exact hw5 | (simp; omega) | simp | assumption) (by first | omega | exact ⟨_, by omega, hRp⟩ | exact ⟨_, by omega, hRq⟩ | exact ⟨_, by omega, hRc⟩ | exact ⟨_, by omega, hRl⟩ | exact Act23.bounds (hwf _ (List.mem_of_getElem? ‹_›)) | exact Act23.bounds hwt.1 | exact Act23.bounds hwt.2 | exact hw5 | (simp; omega) | simp | assumption)) ?_); clear hA ac hW; intro w47 hW hfw47 ac hA
         refine st_rd (v := Value.bool true) hA (by kernel_rfl) (by kernel_rfl) (by kernel_rfl) hW.cls (Rd.pure fun _ => by kernel_rfl) ?_; clear hA ac; intro ac hA
         refine st_rd (v := Value.bool true) hA (by kernel_rfl) (by kernel_rfl) (by kernel_rfl) hW.cls (Rd.pure fun _ => by kernel_rfl) ?_; clear hA ac; intro ac hA
         refine st_rd (v := Value.pointer (some ⟨g26, 0, none⟩)) hA (by kernel_rfl) (by kernel_rfl) (by kernel_rfl) hW.cls (Rd.pure fun _ => by kernel_rfl) ?_; clear hA ac; intro ac hA
         refine st_rd (v := Value.pointer (some ⟨g36, 0, none⟩)) hA (by kernel_rfl) (by kernel_rfl) (by kernel_rfl) hW.cls (Rd.pure fun _ => by kernel_rfl) ?_; clear hA ac; intro ac hA
         refine st hA (by kernel_rfl) (by kernel_rfl) (by kernel_rfl) (Runs.callN (v := Value.bool (vEq (vals g28) (vals g38))) (fun _ => by kernel_rfl) hW (e_same g26 g27 g28 g36 g37 g38 w47 ((hW).get 4 rfl) ((hW).lt _ (List.mem_of_getElem? (i := 4) rfl)) ((hW).get 2 rfl) ((hW).lt _ (List.mem_of_getElem? (i := 2) rfl)) (by first | omega | exact ⟨_, by omega, hRp⟩ | exact ⟨_, by omega, hRq⟩ | exact ⟨_, by omega, hRc⟩ | exact ⟨_, by omega, hRl⟩ | exact Act23.bounds (hwf _ (List.mem_of_getElem? ‹_›)) | exact Act23.bounds hwt.1 | exact Act23.bounds hwt.2 | exact hw5 | (simp; omega) | simp | assumption) (by first | omega | exact ⟨_, by omega, hRp⟩ | exact ⟨_, by omega, hRq⟩ | exact ⟨_, by omega, hRc⟩ | exact ⟨_, by omega, hRl⟩ | exact Act23.bounds (hwf _ (List.mem_of_getElem? ‹_›)) | exact Act23.bounds hwt.1 | exact Act23.bounds hwt.2 | exact hw5 | (simp; omega) | simp | assumption) (by first | omega | exact ⟨_, by omega, hRp⟩ | exact ⟨_, by omega, hRq⟩ | exact ⟨_, by omega, hRc⟩ | exact ⟨_, by omega, hRl⟩ | exact Act23.bounds (hwf _ (List.mem_of_getElem? ‹_›)) | exact Act23.bounds hwt.1 | exact Act23.bounds hwt.2 | exact hw5 | (simp; omega) | simp | assumption)) ?_); clear hA ac hW; intro w48 hW hfw48 ac hA
         refine st_rd (v := Value.bool (sameB (pv g29) (pv g39))) hA (by kernel_rfl) (by kernel_rfl) (by kernel_rfl) hW.cls (Rd.pure fun _ => by kernel_rfl) ?_; clear hA ac; intro ac hA
         refine st_rd (v := Value.bool ((vEq (vals g28) (vals g38)) == (sameB (pv g29) (pv g39)))) hA (by kernel_rfl) (by kernel_rfl) (by kernel_rfl) hW.cls (Rd.pure fun _ => by kernel_rfl) ?_; clear hA ac; intro ac hA
         refine st_rd (v := Value.bool ((vEq (vals g28) (vals g38)) == (sameB (pv g29) (pv g39)))) hA (by kernel_rfl) (by kernel_rfl) (by kernel_rfl) hW.cls (Rd.pure fun _ => by kernel_rfl) ?_; clear hA ac; intro ac hA
         refine st_rd (v := Value.bool ((vEq (vals g28) (vals g38)) == (sameB (pv g29) (pv g39)))) hA (by kernel_rfl) (by kernel_rfl) (by kernel_rfl) hW.cls (Rd.pure fun _ => by kernel_rfl) ?_; clear hA ac; intro ac hA
         rcases Bool.eq_false_or_eq_true ((vEq (vals g28) (vals g38)) == (sameB (pv g29) (pv g39))) with h49 | h49
         · skip
           rw [h49] at hA
           have h49 := bbeq_t h49
           first
           | (exfalso; clear hA hW; omega)
           | (
             refine st_rd (v := Value.pointer (some ⟨g36, 0, none⟩)) hA (by kernel_rfl) (by kernel_rfl) (by kernel_rfl) hW.cls (Rd.pure fun _ => by kernel_rfl) ?_; clear hA ac; intro ac hA
             refine st_rd (v := Value.pointer (some ⟨g26, 0, none⟩)) hA (by kernel_rfl) (by kernel_rfl) (by kernel_rfl) hW.cls (Rd.pure fun _ => by kernel_rfl) ?_; clear hA ac; intro ac hA
             refine st hA (by kernel_rfl) (by kernel_rfl) (by kernel_rfl) (Runs.callN (v := Value.bool (vEq (vals g38) (vals g28))) (fun _ => by kernel_rfl) hW (e_same g36 g37 g38 g26 g27 g28 w48 ((hW).get 2 rfl) ((hW).lt _ (List.mem_of_getElem? (i := 2) rfl)) ((hW).get 4 rfl) ((hW).lt _ (List.mem_of_getElem? (i := 4) rfl)) (by first | omega | exact ⟨_, by omega, hRp⟩ | exact ⟨_, by omega, hRq⟩ | exact ⟨_, by omega, hRc⟩ | exact ⟨_, by omega, hRl⟩ | exact Act23.bounds (hwf _ (List.mem_of_getElem? ‹_›)) | exact Act23.bounds hwt.1 | exact Act23.bounds hwt.2 | exact hw5 | (simp; omega) | simp | assumption) (by first | omega | exact ⟨_, by omega, hRp⟩ | exact ⟨_, by omega, hRq⟩ | exact ⟨_, by omega, hRc⟩ | exact ⟨_, by omega, hRl⟩ | exact Act23.bounds (hwf _ (List.mem_of_getElem? ‹_›)) | exact Act23.bounds hwt.1 | exact Act23.bounds hwt.2 | exact hw5 | (simp; omega) | simp | assumption) (by first | omega | exact ⟨_, by omega, hRp⟩ | exact ⟨_, by omega, hRq⟩ | exact ⟨_, by omega, hRc⟩ | exact ⟨_, by omega, hRl⟩ | exact Act23.bounds (hwf _ (List.mem_of_getElem? ‹_›)) | exact Act23.bounds hwt.1 | exact Act23.bounds hwt.2 | exact hw5 | (simp; omega) | simp | assumption)) ?_); clear hA ac hW; intro w50 hW hfw50 ac hA
             refine st_rd (v := Value.bool (sameB (pv g29) (pv g39))) hA (by kernel_rfl) (by kernel_rfl) (by kernel_rfl) hW.cls (Rd.pure fun _ => by kernel_rfl) ?_; clear hA ac; intro ac hA
             refine st_rd (v := Value.bool ((vEq (vals g38) (vals g28)) == (sameB (pv g29) (pv g39)))) hA (by kernel_rfl) (by kernel_rfl) (by kernel_rfl) hW.cls (Rd.pure fun _ => by kernel_rfl) ?_; clear hA ac; intro ac hA
             refine st_rd (v := Value.bool ((vEq (vals g38) (vals g28)) == (sameB (pv g29) (pv g39)))) hA (by kernel_rfl) (by kernel_rfl) (by kernel_rfl) hW.cls (Rd.pure fun _ => by kernel_rfl) ?_; clear hA ac; intro ac hA
             refine st_rd (v := Value.bool ((vEq (vals g38) (vals g28)) == (sameB (pv g29) (pv g39)))) hA (by kernel_rfl) (by kernel_rfl) (by kernel_rfl) hW.cls (Rd.pure fun _ => by kernel_rfl) ?_; clear hA ac; intro ac hA
             rcases Bool.eq_false_or_eq_true ((vEq (vals g38) (vals g28)) == (sameB (pv g29) (pv g39))) with h51 | h51
             · skip
               rw [h51] at hA
               have h51 := bbeq_t h51
               first
               | (exfalso; clear hA hW; omega)
               | (
                 refine st hA (by kernel_rfl) (by kernel_rfl) (by kernel_rfl) (Runs.callN (v := Value.bool true) (fun _ => by kernel_rfl) hW (e_works23 w50) ?_); clear hA ac hW; intro w52 hW hfw52 ac hA
                 refine st_rd (v := Value.bool true) hA (by kernel_rfl) (by kernel_rfl) (by kernel_rfl) hW.cls (Rd.pure fun _ => by kernel_rfl) ?_; clear hA ac; intro ac hA
                 refine st_rd (v := Value.bool true) hA (by kernel_rfl) (by kernel_rfl) (by kernel_rfl) hW.cls (Rd.pure fun _ => by kernel_rfl) ?_; clear hA ac; intro ac hA
                 refine wpList_nil ?_
                 refine thenN ?_
                 refine wp_ret ?_
                 refine ret1 (v := Value.bool true) (by rfl) hA (Got.tmp hA (by kernel_rfl) (by kernel_rfl)) ?_
                 clear hA
                 exact ⟨retv (by rfl), hW.fr⟩)
             · skip
               rw [h51] at hA
               have h51 := bbeq_f h51
               first
               | (exfalso; clear hA hW; omega)
               | (exfalso; clear hA hW; exact h51 (hRp.same hRq); done)
               | (exfalso; clear hA hW; exact h51 ((hRq.same hRp).trans (sameB_comm _ _)); done)
               | (
                 refine st_skip hA (by kernel_rfl) (by kernel_rfl) ?_; clear hA ac; intro ac hA
                 refine st_rd (v := Value.bool false) hA (by kernel_rfl) (by kernel_rfl) (by kernel_rfl) hW.cls (Rd.pure fun _ => by kernel_rfl) ?_; clear hA ac; intro ac hA
                 refine st_rd (v := Value.bool false) hA (by kernel_rfl) (by kernel_rfl) (by kernel_rfl) hW.cls (Rd.pure fun _ => by kernel_rfl) ?_; clear hA ac; intro ac hA
                 refine wpList_nil ?_
                 refine thenN ?_
                 refine wp_ret ?_
                 refine ret1 (v := Value.bool false) (by rfl) hA (Got.tmp hA (by kernel_rfl) (by kernel_rfl)) ?_
                 clear hA
                 exact ⟨retv (by rfl), hW.fr⟩))
         · skip
           rw [h49] at hA
           have h49 := bbeq_f h49
           first
           | (exfalso; clear hA hW; omega)
           | (exfalso; clear hA hW; exact h49 (hRp.same hRq); done)
           | (exfalso; clear hA hW; exact h49 ((hRq.same hRp).trans (sameB_comm _ _)); done)
           | (
             refine st_skip hA (by kernel_rfl) (by kernel_rfl) ?_; clear hA ac; intro ac hA
             refine st_skip hA (by kernel_rfl) (by kernel_rfl) ?_; clear hA ac; intro ac hA
             refine st_skip hA (by kernel_rfl) (by kernel_rfl) ?_; clear hA ac; intro ac hA
             refine st_skip hA (by kernel_rfl) (by kernel_rfl) ?_; clear hA ac; intro ac hA
             refine st_skip hA (by kernel_rfl) (by kernel_rfl) ?_; clear hA ac; intro ac hA
             refine st_rd (v := Value.bool false) hA (by kernel_rfl) (by kernel_rfl) (by kernel_rfl) hW.cls (Rd.pure fun _ => by kernel_rfl) ?_; clear hA ac; intro ac hA
             refine st_rd (v := Value.bool false) hA (by kernel_rfl) (by kernel_rfl) (by kernel_rfl) hW.cls (Rd.pure fun _ => by kernel_rfl) ?_; clear hA ac; intro ac hA
             refine st_skip hA (by kernel_rfl) (by kernel_rfl) ?_; clear hA ac; intro ac hA
             refine st_rd (v := Value.bool false) hA (by kernel_rfl) (by kernel_rfl) (by kernel_rfl) hW.cls (Rd.pure fun _ => by kernel_rfl) ?_; clear hA ac; intro ac hA
             refine st_rd (v := Value.bool false) hA (by kernel_rfl) (by kernel_rfl) (by kernel_rfl) hW.cls (Rd.pure fun _ => by kernel_rfl) ?_; clear hA ac; intro ac hA
             refine wpList_nil ?_
             refine thenN ?_
             refine wp_ret ?_
             refine ret1 (v := Value.bool false) (by rfl) hA (Got.tmp hA (by kernel_rfl) (by kernel_rfl)) ?_
             clear hA
             exact ⟨retv (by rfl), hW.fr⟩)))

theorem copies23_walk (A : Option Addr) (len cap : Nat) (l : List Act23) (two : Acts23) (w : World) (hl : l.length = len) (hc : len ≤ cap) (_ : cap ≤ maxLen) (hwf : ∀ x ∈ l, wfAct23 x) (hr : RowAt w A 6 enAct23 l) (hwt : wfActs23 two) :
    Calls Try.prog 5 #[.slice A len cap, two.v] w fun e w' => e = .returned (.bool true) ∧ Fr No w w' := by
  subst hl
  exact e_poolCopies A cap l two w hr hc hwf (Acts23.wf2 hwt)
end Go.Proofs.Ytobbocpacacnhaa.L
