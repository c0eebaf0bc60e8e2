/- Contracts, walked by program over the engine's laws. -/
import Derived.Test.YtefmglgejjaipaaGreatDoorProg
import Derived.Test.YtefmglgejjaipaaGreatDoorT15
import Derived.Test.YtefmglgejjaipaaGreatDoorRel20
namespace Go.Proofs.YtefmglgejjaipaaGreatDoor.L
open Go.RowKit

def deEvent : List Value → Event
  | [.int _ a0, .int _ a1, .int _ a2, .int _ a3, .int _ a4, .int _ a5, .int _ a6, .int _ a7, .int _ a8] => ⟨a0, a1, ⟨a2, a3⟩, a4, a5, a6, a7, a8⟩
  | _ => ⟨0, 0, ⟨0, 0⟩, 0, 0, 0, 0, 0⟩
def wfEvent (x : Event) : Prop := (Lit.int .i64 x.g).wf = true ∧ (Lit.int .i64 x.kind).wf = true ∧ (Lit.int .i64 x.site.f).wf = true ∧ (Lit.int .i64 x.site.pc).wf = true ∧ (Lit.int .u32 x.addr).wf = true ∧ (Lit.int .i64 x.child).wf = true ∧ (Lit.int .i64 x.obj).wf = true ∧ (Lit.int .i64 x.n).wf = true ∧ (Lit.int .i64 x.trap).wf = true ∧ True
theorem deEvent_ok (cs : List Value) (h : cksOk [.int .i64, .int .i64, .int .i64, .int .i64, .int .u32, .int .i64, .int .i64, .int .i64, .int .i64] cs) : enEvent (deEvent cs) = cs ∧ wfEvent (deEvent cs) := by
  have hl := cksOk_length h
  match cs, hl, h with
  | [c0, c1, c2, c3, c4, c5, c6, c7, c8], _, ⟨⟨_, h0, w0⟩, ⟨_, h1, w1⟩, ⟨_, h2, w2⟩, ⟨_, h3, w3⟩, ⟨_, h4, w4⟩, ⟨_, h5, w5⟩, ⟨_, h6, w6⟩, ⟨_, h7, w7⟩, ⟨_, h8, w8⟩, _⟩ =>
    subst h0 h1 h2 h3 h4 h5 h6 h7 h8
    exact ⟨rfl, w0, w1, w2, w3, w4, w5, w6, w7, w8, trivial⟩
theorem flatEvent {v : Value} (h : cksOk [.int .i64, .int .i64, .int .i64, .int .i64, .int .u32, .int .i64, .int .i64, .int .i64, .int .i64] v.cells.toList) : ∃ x : Event, v = x.v ∧ wfEvent x := by
  have hl := cksOk_length h
  cases v with
  | agg a => exact ⟨deEvent a.toList, by have := (deEvent_ok _ h).1; have h2 := congrArg List.toArray this; exact congrArg Value.agg (h2.symm), (deEvent_ok _ h).2⟩
  | _ => simp [Value.cells] at hl
theorem few_len {l : List Event} {m : Int} (h : fewOk l m = true) : (l.length : Int) ≤ m := by unfold fewOk at h; rw [Bool.and_eq_true] at h; exact of_decide_eq_true h.2
theorem newErr_rng (l : List Event) : newErr l = 2 ∨ newErr l = 3 := by unfold newErr; split <;> simp
theorem bef_clk {E : List Event} {i j : Nat} {e : Event} (he : E[i]? = some e) (hij : i < j) (hj : j < E.length) : befE E (i : Int) (j : Int) = decide (getC (clkE E (i : Int)) e.g ≤ getC (clkE E (j : Int)) e.g) := by
  unfold befE upToE clkE
  rw [decide_eq_true (by omega), Bool.true_and, Int.toNat_natCast, Int.toNat_natCast, he, if_pos (by omega), if_pos (by omega)]
theorem wf_event {x : Event} (h : wfEvent x) : (-9223372036854775808 ≤ x.kind ∧ x.kind ≤ 9223372036854775807) ∧ 0 ≤ x.addr ∧ x.addr ≤ 4294967295 := by
  obtain ⟨-, h1, -, -, h2, -⟩ := h
  simp [Lit.wf, IntKind.min, IntKind.max] at h1 h2
  simp only [IntKind.bits, IntKind.signed] at h1 h2
  simp at h1 h2
  omega
theorem clkE_len {E C G T} (hok : OrdOk E C G T) (j : Int) : (clkE E j).length ≤ 65536 ∧ ∀ n ∈ clkE E j, 0 ≤ n ∧ n ≤ (E.length : Int) := by
  unfold clkE
  split
  · rename_i h
    have hl := hok.clen
    obtain ⟨y, hy⟩ : ∃ y, C[j.toNat]? = some y := ⟨_, List.getElem?_eq_getElem (by omega)⟩
    obtain ⟨l, A, c⟩ := y
    rw [← hok.at hy]; exact hok.bd _ (nv_c (List.mem_of_getElem? hy))
  · exact ⟨by simp, by simp⟩
set_option maxHeartbeats 4000000 in
set_option maxRecDepth 100000 in
theorem e_orderHolds (A_l : Option Addr) (c_l : Nat) (l : List Event) (w : World) (hr_l : RowAt w A_l 9 enEvent l) (hc_l : l.length ≤ c_l) (hl : l.length ≤ 9223372036854775807) (hel : ∀ x ∈ l, (-9223372036854775808 ≤ x.kind ∧ x.kind ≤ 9223372036854775807) ∧ 0 ≤ x.addr ∧ x.addr ≤ 4294967295) : Calls Tryz.prog 4 #[Value.slice A_l l.length c_l] w (fun e w' => e = .returned (Value.bool true) ∧ Fr No w w') := by
 have _hu := hc_l; have _hv := hr_l; clear _hu _hv
 have _hu := hl; clear _hu
 have _hu := hel; clear _hu
 refine enter_E 141 Tryz.func4 rfl rfl (by kernel_rfl) (L := [(0, Value.slice A_l l.length c_l)]) (by kernel_rfl) ?_
 intro ac hA
 have hW := Ws.start w No
 have hW := hW.arg hr_l
 refine wp_seq ?_
 refine wp_region_lit ?_
 refine st_p (Value.bool false) hA ?_; clear hA ac; intro ac hA
 refine wpList_nil ?_
 refine thenN ?_
 refine wp_seq ?_
 refine wp_seq ?_
 refine wp_region_lit ?_
 refine st_p (Value.slice A_l l.length c_l) hA ?_; clear hA ac; intro ac hA
 refine st_s hA (Runs.callN (v := Value.bool (fewOk l (40))) (fun _ => by kernel_rfl) hW (e_lfew A_l c_l l (40) w ((hW).getG 0 rfl) (by first | assumption | omega | (simp; omega) | simp) hl hel (by decide) (by decide)) ?_); clear hA ac hW; intro w1 hW hfw1 ac hA
 refine st_p (Value.bool (!(fewOk l (40)))) hA ?_; clear hA ac; intro ac hA
 refine wpList_nil ?_
 refine thenN ?_
 refine wp_cond_split (t := !(fewOk l (40))) (hA.eval (by kernel_rfl)) (fun h2 => ?_) (fun h2 => ?_)
 ·
  have h2 := not_t h2
  first
  | (exfalso; clear hA hW; omega)
  | (
   refine wp_seq ?_
   refine wp_region_lit ?_
   refine st_s hA (Runs.callN (v := Value.bool true) (fun _ => by kernel_rfl) hW (e_works w1) ?_); clear hA ac hW; intro w3 hW hfw3 ac hA
   refine st_p (Value.bool true) hA ?_; clear hA ac; intro ac hA
   refine wpList_nil ?_
   refine thenN ?_
   refine wp_ret ?_
   refine thenR ?_
   refine ret1 (v := Value.bool true) (by rfl) hA (Got.tmp hA (by kernel_rfl) (by kernel_rfl)) ?_
   clear hA
   exact ⟨retv (by rfl), hW.fr⟩)
 have h2 := not_f h2
 first
 | (exfalso; clear hA hW; omega)
 | (
  refine wp_skip ?_
  refine thenN ?_
  refine wp_seq ?_
  have hfl_ := few_len (show fewOk l 40 = true from h2)
  rcases Bool.eq_false_or_eq_true (decide (newOk l)) with h4 | h4
  ·
   have h4 := of_decide_eq_true h4
   first
   | (exfalso; clear hA hW; omega)
   | (
    have hfl_ := few_len (show fewOk l 40 = true from h2)
    have hfl_ := few_len (show fewOk l 40 = true from h2)
    refine wp_region_lit ?_
    refine st_p (Value.slice A_l l.length c_l) hA ?_; clear hA ac; intro ac hA
    refine st_s hA (Runs.call (fun _ => by kernel_rfl) (e_onew A_l c_l l w1 ((hW).getG 0 rfl) (by first | assumption | omega | (simp; omega) | simp) (by omega) (And.right (by assumption)) (fun x hx => (hel x hx).2)) ?_)
    rintro _ w5 ⟨n6, n7, n8, n9, n10, n11, n12, n13, n14, n15, rfl, hw5_hK, hu_⟩; refine ⟨_, rfl, ?_⟩; replace hW := hW.made hu_; clear hA ac; intro ac hA
    refine st_p (Value.tuple #[Value.pointer (some ⟨n6, 0, none⟩), Value.int .i64 0]) hA fun ac hA => st_p (Value.pointer (some ⟨n6, 0, none⟩)) hA fun ac hA => st_p (Value.int .i64 0) hA fun ac hA => st_p (Value.pointer (some ⟨n6, 0, none⟩)) hA fun ac hA => st_p (Value.int .i64 0) hA fun ac hA => ?_
    refine wpList_nil ?_
    refine thenN ?_
    refine wp_seq ?_
    refine wp_seq ?_
    have hok := hw5_hK; have hev := hok.ev; have hlc_ := hok.clen
    refine wp_region_lit ?_
    refine st_p (Value.int .i64 0) hA ?_; clear hA ac; intro ac hA
    refine st_s hA (Runs.callN (v := Value.int .i64 (0)) (fun _ => by kernel_rfl) hW (e_num (0) w5) ?_); clear hA ac hW; intro w16 hW hfw16 ac hA
    refine st_p (Value.bool (((0) : Int) != (0 : Int))) hA ?_; clear hA ac; intro ac hA
    refine wpList_nil ?_
    refine thenN ?_
    refine wp_cond_split (t := ((0) : Int) != (0 : Int)) (hA.eval (by kernel_rfl)) (fun h17 => ?_) (fun h17 => ?_)
    ·
     have h17 := bne_iff_ne.1 h17
     first
     | (exfalso; clear hA hW; omega)
     | (
      refine wp_seq ?_
      refine wp_region_lit ?_
      refine st_s hA (Runs.callN (v := Value.bool true) (fun _ => by kernel_rfl) hW (e_works w16) ?_); clear hA ac hW; intro w18 hW hfw18 ac hA
      refine st_p (Value.bool true) hA ?_; clear hA ac; intro ac hA
      refine wpList_nil ?_
      refine thenN ?_
      refine wp_ret ?_
      refine thenR ?_
      refine ret1 (v := Value.bool true) (by rfl) hA (Got.tmp hA (by kernel_rfl) (by kernel_rfl)) ?_
      clear hA
      exact ⟨retv (by rfl), hW.fr⟩)
    have h17 := of_bne_f h17
    first
    | (exfalso; clear hA hW; omega)
    | (
     refine wp_skip ?_
     refine thenN ?_
     refine wp_seq ?_
     refine wp_seq ?_
     refine wp_region_lit ?_
     refine st_p (Value.int .i64 0) hA ?_; clear hA ac; intro ac hA
     refine wpList_nil ?_
     refine thenN ?_
     refine wp_block ?_
     refine wp_loop_m (fun m_ ac_ wl_ => ∃ j : Nat, m_ = l.length - j ∧ (j ≤ l.length) ∧ Fm 141 [] [(0, Value.slice A_l l.length c_l), (3, Value.pointer (some ⟨n6, 0, none⟩)), (5, Value.int .i64 ((j : Nat) : Int))] ac_ ∧ Ws w No [OrdR n6 n7 n8 l n9 n10 n11 n12 n13 n14 n15] [roR A_l 9 enEvent l] wl_) _ ⟨0, rfl, by omega, hA.sub (by and_intros <;> first | kernel_rfl | trivial), (hW.pick [0] (by decide) rfl).pickG [0] rfl⟩ ?_
     clear hA ac hW; rintro m_ ac w19 ⟨j, rfl, hj, hA, hW⟩
     refine wp_seq ?_
     refine wp_seq ?_
     refine wp_region_lit ?_
     refine st_p (Value.int .i64 ((j : Nat) : Int)) hA fun ac hA => st_p (Value.slice A_l l.length c_l) hA fun ac hA => st_p (Value.int .i64 ((l.length : Nat) : Int)) hA fun ac hA => st_p (Value.bool (decide ((((j : Nat) : Int) : Int) < (((l.length : Nat) : Int) : Int)))) hA fun ac hA => ?_
     refine wpList_nil ?_
     refine thenN ?_
     refine wp_cond_split (t := decide ((((j : Nat) : Int) : Int) < (((l.length : Nat) : Int) : Int))) (hA.eval (by kernel_rfl)) (fun h20 => ?_) (fun h20 => ?_)
     ·
      have h20 := of_decide_eq_true h20
      first
      | (exfalso; clear hA hW; omega)
      | (
       refine wp_skip ?_
       refine thenN ?_
       refine wp_seq ?_
       refine wp_block ?_
       refine wp_seq ?_
       refine wp_region_lit ?_
       refine st_p (Value.int .i64 0) hA ?_; clear hA ac; intro ac hA
       refine wpList_nil ?_
       refine thenN ?_
       refine wp_block ?_
       refine wp_loop_m (fun m_ ac_ wl_ => ∃ i : Nat, m_ = l.length - i ∧ (i ≤ l.length) ∧ Fm 141 [] [(0, Value.slice A_l l.length c_l), (3, Value.pointer (some ⟨n6, 0, none⟩)), (5, Value.int .i64 ((j : Nat) : Int)), (6, Value.int .i64 ((i : Nat) : Int))] ac_ ∧ Ws w No [OrdR n6 n7 n8 l n9 n10 n11 n12 n13 n14 n15] [roR A_l 9 enEvent l] wl_) _ ⟨0, rfl, by omega, hA.sub (by and_intros <;> first | kernel_rfl | trivial), (hW.pick [0] (by decide) rfl).pickG [0] rfl⟩ ?_
       clear hA ac hW; rintro m_ ac w21 ⟨i, rfl, hi, hA, hW⟩
       refine wp_seq ?_
       refine wp_seq ?_
       refine wp_region_lit ?_
       refine st_p (Value.int .i64 ((i : Nat) : Int)) hA fun ac hA => st_p (Value.slice A_l l.length c_l) hA fun ac hA => st_p (Value.int .i64 ((l.length : Nat) : Int)) hA fun ac hA => st_p (Value.bool (decide ((((i : Nat) : Int) : Int) < (((l.length : Nat) : Int) : Int)))) hA fun ac hA => ?_
       refine wpList_nil ?_
       refine thenN ?_
       refine wp_cond_split (t := decide ((((i : Nat) : Int) : Int) < (((l.length : Nat) : Int) : Int))) (hA.eval (by kernel_rfl)) (fun h22 => ?_) (fun h22 => ?_)
       ·
        have h22 := of_decide_eq_true h22
        first
        | (exfalso; clear hA hW; omega)
        | (
         refine wp_skip ?_
         refine thenN ?_
         refine wp_seq ?_
         refine wp_block ?_
         refine wp_seq ?_
         refine wp_region_lit ?_
         refine st_p (Value.pointer (some ⟨n6, 0, none⟩)) hA fun ac hA => st_p (Value.int .i64 ((i : Nat) : Int)) hA fun ac hA => st_p (Value.int .i64 ((j : Nat) : Int)) hA fun ac hA => ?_
         refine st_s hA (Runs.callN (v := Value.bool (befE l (((i : Nat) : Int)) (((j : Nat) : Int)))) (fun _ => by kernel_rfl) hW (e_obefore n6 n7 n8 l n9 n10 n11 n12 n13 n14 n15 (((i : Nat) : Int)) (((j : Nat) : Int)) w21 ((hW).get 0 rfl) ((hW).lt _ (List.mem_of_getElem? (i := 0) rfl)) hok ⟨by omega, by omega⟩ ⟨by omega, by omega⟩) ?_); clear hA ac hW; intro w23 hW hfw23 ac hA
         refine st_p (Value.bool (befE l (((i : Nat) : Int)) (((j : Nat) : Int)))) hA ?_; clear hA ac; intro ac hA
         refine wpList_nil ?_
         refine thenN ?_
         refine wp_seq ?_
         refine wp_cutR (fun ac_ wl_ => ∃ b_ : Bool, (b_ = befE l ((i : Nat) : Int) ((j : Nat) : Int)) ∧ Fm 141 [] [(0, Value.slice A_l l.length c_l), (3, Value.pointer (some ⟨n6, 0, none⟩)), (5, Value.int .i64 ((j : Nat) : Int)), (6, Value.int .i64 ((i : Nat) : Int)), (7, Value.bool b_)] ac_ ∧ Ws w No [OrdR n6 n7 n8 l n9 n10 n11 n12 n13 n14 n15] [roR A_l 9 enEvent l] wl_) ?_ ?_
         ·
          refine wp_seq ?_
          rcases Bool.eq_false_or_eq_true (befE l (((i : Nat) : Int)) (((j : Nat) : Int))) with h24 | h24
          ·
           first
           | (exfalso; clear hA hW; omega)
           | (exfalso; clear hA hW; have q_ := bef_rng h24; omega; done)
           | (
            rcases Bool.eq_false_or_eq_true (decide ((i : Nat) < j)) with h25 | h25
            ·
             have h25 := of_decide_eq_true h25
             first
             | (exfalso; clear hA hW; omega)
             | (exfalso; clear hA hW; have q_ := bef_rng h24; omega; done)
             | (
              obtain ⟨y26, hy26⟩ : ∃ y, l[i]? = some y := ⟨_, List.getElem?_eq_getElem (by omega)⟩
              obtain ⟨b27, o28, rfl, hbb27⟩ := row_some ((hW).getG 0 rfl) hy26
              obtain ⟨y29, hy29⟩ : ∃ y, l[j]? = some y := ⟨_, List.getElem?_eq_getElem (by omega)⟩
              rcases Bool.eq_false_or_eq_true (evLeads y26 y29) with h30 | h30
              ·
               first
               | (exfalso; clear hA hW; omega)
               | (exfalso; clear hA hW; exact h30 (by rw [← bef_clk hy26 (by omega) (by omega)]; exact h24.symm); done)
               | (exfalso; clear hA hW; rw [← bef_clk hy26 (by omega) (by omega), h24] at h30; cases h30; done)
               | (exfalso; clear hA hW; exact absurd (bef_leads hev (by omega) hy26 hy29 (of_decide_eq_true h30)) (by rw [h24]; decide); done)
               | (exfalso; clear hA hW; have q_ := bef_rng h24; omega; done)
               | (
                refine wp_cut (fun ac_ wl_ => ∃ Ar13_34 : Option Addr, ∃ Ar13_43 : Option Addr, ∃ cr13_34 : Nat, ∃ cr13_43 : Nat, Fm 141 [] [(0, Value.slice (some ⟨b27, o28, none⟩) l.length c_l), (3, Value.pointer (some ⟨n6, 0, none⟩)), (5, Value.int .i64 ((j : Nat) : Int)), (6, Value.int .i64 ((i : Nat) : Int)), (7, Value.bool true), (29, Value.int .i64 ((i : Nat) : Int)), (30, Value.slice (some ⟨b27, o28, none⟩) l.length c_l), (31, Value.int .i64 ((l.length : Nat) : Int)), (32, Value.bool (decide ((((i : Nat) : Int) : Int) < (((l.length : Nat) : Int) : Int)))), (35, Value.pointer (some ⟨n6, 0, none⟩)), (36, Value.int .i64 ((i : Nat) : Int)), (37, Value.int .i64 ((j : Nat) : Int)), (38, Value.bool true), (92, Value.bool (!(true == (decide ((getC (clkE l (((i : Nat) : Int))) (y26.g) : Int) ≤ (getC (clkE l (((j : Nat) : Int))) (y26.g) : Int))))))] ac_ ∧ Ws w No [rowR 51 1 enU8 (Value.slice Ar13_43 (clkE l (((j : Nat) : Int))).length cr13_43) (clkE l (((j : Nat) : Int))), rowR 51 1 enU8 (Value.slice Ar13_34 (clkE l (((i : Nat) : Int))).length cr13_34) (clkE l (((i : Nat) : Int))), OrdR n6 n7 n8 l n9 n10 n11 n12 n13 n14 n15] [roR (some ⟨b27, o28, none⟩) 9 enEvent l] wl_) ?_ ?_
                · refine sr_region (m := 54) (C := Ws w No [OrdR n6 n7 n8 l n9 n10 n11 n12 n13 n14 n15] [roR (some ⟨b27, o28, none⟩) 9 enEvent l]) (fun i => [14, 18].contains i) (fun i => [14, 18].contains i) (fun i => [0, 1, 2, 3, 4, 5, 6, 7, 8, 9, 10, 11, 12, 13, 15, 16, 17, 20, 21, 22, 23, 24, 25, 26, 27, 28, 29, 30, 31, 32, 33, 35, 36, 37, 38, 41, 42, 44, 45, 46, 47, 50, 51, 52, 53].contains i) (by kernel_rfl) (by kernel_rfl) (by kernel_rfl) (by kernel_rfl) hW ?_; clear hW; intro w31 hW hfw31 hR; have hC : Ws w No [OrdR n6 n7 n8 l n9 n10 n11 n12 n13 n14 n15] [roR (some ⟨b27, o28, none⟩) 9 enEvent l] w31 := hW.pick [0] (by decide) rfl
                  refine sr_p 0 (Value.bool (befE l (((i : Nat) : Int)) (((j : Nat) : Int)))) hR rfl hA fun ac hA => sr_p 1 (Value.bool (befE l (((i : Nat) : Int)) (((j : Nat) : Int)))) hR rfl hA fun ac hA => ?_
                  rw [show (befE l (((i : Nat) : Int)) (((j : Nat) : Int))) = true from h24] at hA
                  refine sr_p 2 (Value.int .i64 ((i : Nat) : Int)) hR rfl hA fun ac hA => sr_p 3 (Value.int .i64 ((j : Nat) : Int)) hR rfl hA fun ac hA => sr_p 4 (Value.bool (decide ((((i : Nat) : Int) : Int) ≥ (((j : Nat) : Int) : Int)))) hR rfl hA fun ac hA => sr_p 5 (Value.bool (decide ((((i : Nat) : Int) : Int) ≥ (((j : Nat) : Int) : Int)))) hR rfl hA fun ac hA => sr_p 6 (Value.bool (decide ((((i : Nat) : Int) : Int) ≥ (((j : Nat) : Int) : Int)))) hR rfl hA fun ac hA => ?_
                  rw [show (decide ((((i : Nat) : Int) : Int) ≥ (((j : Nat) : Int) : Int))) = false from decide_eq_false (by omega)] at hA
                  refine sr_p 7 (Value.int .i64 ((i : Nat) : Int)) hR rfl hA fun ac hA => sr_p 8 (Value.int .i64 ((j : Nat) : Int)) hR rfl hA fun ac hA => sr_p 9 (Value.bool (decide ((((i : Nat) : Int) : Int) < (((j : Nat) : Int) : Int)))) hR rfl hA fun ac hA => sr_p 10 (Value.bool (decide ((((i : Nat) : Int) : Int) < (((j : Nat) : Int) : Int)))) hR rfl hA fun ac hA => ?_
                  rw [show (decide ((((i : Nat) : Int) : Int) < (((j : Nat) : Int) : Int))) = true from decide_eq_true (by omega)] at hA
                  refine sr_p 11 (Value.slice (some ⟨b27, o28, none⟩) l.length c_l) hR rfl hA fun ac hA => sr_p 12 (Value.int .i64 ((i : Nat) : Int)) hR rfl hA fun ac hA => sr_q 13 (Value.pointer (some ⟨b27, o28 + i * 9, none⟩)) hR rfl hA (Rd.indexAddr (e := 50) (sz := 9) (b := b27) (off := o28) (n := l.length) (c := c_l) (k := i) (by kernel_rfl) (by kernel_rfl) (by first | omega | (simp; done) | (simp; omega)) (fun _ => by kernel_rfl) (fun _ => by kernel_rfl)) fun ac hA => sr_t 14 (Value.agg #[Value.int .i64 y26.g, Value.int .i64 y26.kind, Value.int .i64 y26.site.f, Value.int .i64 y26.site.pc, Value.int .u32 y26.addr, Value.int .i64 y26.child, Value.int .i64 y26.obj, Value.int .i64 y26.n, Value.int .i64 y26.trap]) hR rfl hA hC (Rd.loadRow (b := b27) (i := o28 + i * 9) (xs := [Value.int .i64 y26.g, Value.int .i64 y26.kind, Value.int .i64 y26.site.f, Value.int .i64 y26.site.pc, Value.int .u32 y26.addr, Value.int .i64 y26.child, Value.int .i64 y26.obj, Value.int .i64 y26.n, Value.int .i64 y26.trap]) (by kernel_rfl) (fun _ hw => row_ld ((hw).getG 0 rfl) hy26 (Fr.refl No _) (fun h => h) 0 9 (by kernel_rfl)) (by kernel_rfl)) fun ac hA => sr_p 15 (Value.slice (some ⟨b27, o28, none⟩) l.length c_l) hR rfl hA fun ac hA => sr_p 16 (Value.int .i64 ((j : Nat) : Int)) hR rfl hA fun ac hA => sr_q 17 (Value.pointer (some ⟨b27, o28 + j * 9, none⟩)) hR rfl hA (Rd.indexAddr (e := 50) (sz := 9) (b := b27) (off := o28) (n := l.length) (c := c_l) (k := j) (by kernel_rfl) (by kernel_rfl) (by first | omega | (simp; done) | (simp; omega)) (fun _ => by kernel_rfl) (fun _ => by kernel_rfl)) fun ac hA => sr_t 18 (Value.agg #[Value.int .i64 y29.g, Value.int .i64 y29.kind, Value.int .i64 y29.site.f, Value.int .i64 y29.site.pc, Value.int .u32 y29.addr, Value.int .i64 y29.child, Value.int .i64 y29.obj, Value.int .i64 y29.n, Value.int .i64 y29.trap]) hR rfl hA hC (Rd.loadRow (b := b27) (i := o28 + j * 9) (xs := [Value.int .i64 y29.g, Value.int .i64 y29.kind, Value.int .i64 y29.site.f, Value.int .i64 y29.site.pc, Value.int .u32 y29.addr, Value.int .i64 y29.child, Value.int .i64 y29.obj, Value.int .i64 y29.n, Value.int .i64 y29.trap]) (by kernel_rfl) (fun _ hw => row_ld ((hw).getG 0 rfl) hy29 (Fr.refl No _) (fun h => h) 0 9 (by kernel_rfl)) (by kernel_rfl)) fun ac hA => ?_
                  refine sr_one (i := 19) (by kernel_rfl) (sr_d rfl hA (Runs.callN (v := Value.bool (evLeads y26 y29)) (fun _ => by kernel_rfl) hW (e_r16leads y26 y29 w31) ?_)); clear hA ac hW; intro w32 hW hfw32 ac hA
                  refine qn ?_
                  refine sr_p 20 (Value.bool (evLeads y26 y29)) hR rfl hA fun ac hA => sr_p 21 (Value.bool (evLeads y26 y29)) hR rfl hA fun ac hA => ?_
                  rw [show (evLeads y26 y29) = true from h30] at hA
                  refine sr_p 22 (Value.bool true) hR rfl hA fun ac hA => sr_p 23 (Value.bool false) hR rfl hA fun ac hA => sr_p 24 (Value.bool false) hR rfl hA fun ac hA => sr_p 25 (Value.bool false) hR rfl hA fun ac hA => sr_p 26 (Value.bool false) hR rfl hA fun ac hA => sr_p 27 (Value.int .i64 ((i : Nat) : Int)) hR rfl hA fun ac hA => sr_p 28 (Value.int .i64 ((j : Nat) : Int)) hR rfl hA fun ac hA => sr_p 29 (Value.bool (decide ((((i : Nat) : Int) : Int) < (((j : Nat) : Int) : Int)))) hR rfl hA fun ac hA => sr_p 30 (Value.bool (decide ((((i : Nat) : Int) : Int) < (((j : Nat) : Int) : Int)))) hR rfl hA fun ac hA => ?_
                  rw [show (decide ((((i : Nat) : Int) : Int) < (((j : Nat) : Int) : Int))) = true from decide_eq_true (by omega)] at hA
                  refine sr_p 31 (Value.bool true) hR rfl hA fun ac hA => sr_p 32 (Value.pointer (some ⟨n6, 0, none⟩)) hR rfl hA fun ac hA => sr_p 33 (Value.int .i64 ((i : Nat) : Int)) hR rfl hA fun ac hA => sr_p 35 (Value.slice (some ⟨b27, o28, none⟩) l.length c_l) hR rfl hA fun ac hA => sr_p 36 (Value.int .i64 ((i : Nat) : Int)) hR rfl hA fun ac hA => sr_q 37 (Value.pointer (some ⟨b27, o28 + i * 9, none⟩)) hR rfl hA (Rd.indexAddr (e := 50) (sz := 9) (b := b27) (off := o28) (n := l.length) (c := c_l) (k := i) (by kernel_rfl) (by kernel_rfl) (by first | omega | (simp; done) | (simp; omega)) (fun _ => by kernel_rfl) (fun _ => by kernel_rfl)) fun ac hA => sr_p 38 (Value.pointer (some ⟨b27, o28 + i * 9, none⟩)) hR rfl hA fun ac hA => sr_p 41 (Value.pointer (some ⟨n6, 0, none⟩)) hR rfl hA fun ac hA => sr_p 42 (Value.int .i64 ((j : Nat) : Int)) hR rfl hA fun ac hA => sr_p 44 (Value.slice (some ⟨b27, o28, none⟩) l.length c_l) hR rfl hA fun ac hA => sr_p 45 (Value.int .i64 ((i : Nat) : Int)) hR rfl hA fun ac hA => sr_q 46 (Value.pointer (some ⟨b27, o28 + i * 9, none⟩)) hR rfl hA (Rd.indexAddr (e := 50) (sz := 9) (b := b27) (off := o28) (n := l.length) (c := c_l) (k := i) (by kernel_rfl) (by kernel_rfl) (by first | omega | (simp; done) | (simp; omega)) (fun _ => by kernel_rfl) (fun _ => by kernel_rfl)) fun ac hA => sr_p 47 (Value.pointer (some ⟨b27, o28 + i * 9, none⟩)) hR rfl hA fun ac hA => ?_
                  refine sr_three (i := 34) (j := 39) (k := 48) (by kernel_rfl) ?_ ?_ ?_
                  ·
                   refine (sr_d rfl hA (Runs.callRow (E := 51) (sz := 1) (en := enU8) (l := (clkE l (((i : Nat) : Int)))) (fun _ => by kernel_rfl) hW (e_oclock n6 n7 n8 l n9 n10 n11 n12 n13 n14 n15 (((i : Nat) : Int)) w32 ((hW).get 0 rfl) ((hW).lt _ (List.mem_of_getElem? (i := 0) rfl)) hok ⟨by omega, by omega⟩) ?_)); clear hA ac hW; intro Ar13_34 cr13_34 w33 hW hccr13_34 hfw33 ac hA
                   refine qn ?_
                   refine sr_two (i := 39) (j := 48) (by kernel_rfl) ?_ ?_
                   ·
                    refine (sr_d rfl hA (Runs.ofRd (v := Value.int .i64 y26.g) (C' := Ws w No [rowR 51 1 enU8 (Value.slice Ar13_34 (clkE l (((i : Nat) : Int))).length cr13_34) (clkE l (((i : Nat) : Int))), OrdR n6 n7 n8 l n9 n10 n11 n12 n13 n14 n15] [roR (some ⟨b27, o28, none⟩) 9 enEvent l]) hW (Rd.loadRow (b := b27) (i := o28 + i * 9) (xs := [Value.int .i64 y26.g]) (by kernel_rfl) (fun _ hw => row_ld ((hw).getG 0 rfl) hy26 (Fr.refl No _) (fun h => h) 0 1 (by kernel_rfl)) (by kernel_rfl)) ?_)); clear hA ac; intro  ac hA
                    refine qn ?_
                    refine sr_two (i := 40) (j := 48) (by kernel_rfl) ?_ ?_
                    ·
                     refine (sr_d rfl hA (Runs.callN (v := Value.int .u64 (getC (clkE l (((i : Nat) : Int))) (y26.g))) (fun _ => by kernel_rfl) hW (e_vget Ar13_34 cr13_34 (clkE l (((i : Nat) : Int))) (y26.g) w33 (rowR_at ((hW).get 0 rfl) elt_U8.len) (own_cap ((hW).get 0 rfl)) (Nat.le_trans (clkE_len hok _).1 (by omega))) ?_)); clear hA ac hW; intro w34 hW hfw34 ac hA
                     refine qn ?_
                     refine sr_two (i := 43) (j := 48) (by kernel_rfl) ?_ ?_
                     ·
                      refine (sr_d rfl hA (Runs.callRow (E := 51) (sz := 1) (en := enU8) (l := (clkE l (((j : Nat) : Int)))) (fun _ => by kernel_rfl) hW (e_oclock n6 n7 n8 l n9 n10 n11 n12 n13 n14 n15 (((j : Nat) : Int)) w34 ((hW).get 1 rfl) ((hW).lt _ (List.mem_of_getElem? (i := 1) rfl)) hok ⟨by omega, by omega⟩) ?_)); clear hA ac hW; intro Ar13_43 cr13_43 w35 hW hccr13_43 hfw35 ac hA
                      refine qn ?_
                      refine sr_one (i := 48) (by kernel_rfl) (sr_d rfl hA (Runs.ofRd (v := Value.int .i64 y26.g) (C' := Ws w No [rowR 51 1 enU8 (Value.slice Ar13_43 (clkE l (((j : Nat) : Int))).length cr13_43) (clkE l (((j : Nat) : Int))), rowR 51 1 enU8 (Value.slice Ar13_34 (clkE l (((i : Nat) : Int))).length cr13_34) (clkE l (((i : Nat) : Int))), OrdR n6 n7 n8 l n9 n10 n11 n12 n13 n14 n15] [roR (some ⟨b27, o28, none⟩) 9 enEvent l]) hW (Rd.loadRow (b := b27) (i := o28 + i * 9) (xs := [Value.int .i64 y26.g]) (by kernel_rfl) (fun _ hw => row_ld ((hw).getG 0 rfl) hy26 (Fr.refl No _) (fun h => h) 0 1 (by kernel_rfl)) (by kernel_rfl)) ?_)); clear hA ac; intro  ac hA
                      refine qn ?_
                      refine sr_one (i := 49) (by kernel_rfl) (sr_d rfl hA (Runs.callN (v := Value.int .u64 (getC (clkE l (((j : Nat) : Int))) (y26.g))) (fun _ => by kernel_rfl) hW (e_vget Ar13_43 cr13_43 (clkE l (((j : Nat) : Int))) (y26.g) w35 (rowR_at ((hW).get 0 rfl) elt_U8.len) (own_cap ((hW).get 0 rfl)) (Nat.le_trans (clkE_len hok _).1 (by omega))) ?_)); clear hA ac hW; intro w36 hW hfw36 ac hA
                      refine qn ?_
                      refine sr_p 50 (Value.bool (decide ((getC (clkE l (((i : Nat) : Int))) (y26.g) : Int) ≤ (getC (clkE l (((j : Nat) : Int))) (y26.g) : Int)))) hR rfl hA fun ac hA => sr_p 51 (Value.bool (!(true == (decide ((getC (clkE l (((i : Nat) : Int))) (y26.g) : Int) ≤ (getC (clkE l (((j : Nat) : Int))) (y26.g) : Int)))))) hR rfl hA fun ac hA => sr_p 52 (Value.bool (!(true == (decide ((getC (clkE l (((i : Nat) : Int))) (y26.g) : Int) ≤ (getC (clkE l (((j : Nat) : Int))) (y26.g) : Int)))))) hR rfl hA fun ac hA => sr_p 53 (Value.bool (!(true == (decide ((getC (clkE l (((i : Nat) : Int))) (y26.g) : Int) ≤ (getC (clkE l (((j : Nat) : Int))) (y26.g) : Int)))))) hR rfl hA fun ac hA => ?_
                      refine sr_done (by kernel_rfl) ?_ _
                      exact ⟨Ar13_34, Ar13_43, cr13_34, cr13_43, hA.sub (by and_intros <;> first | kernel_rfl | trivial), (hW.pick [0, 1, 2] (by decide) rfl).pickG [0] rfl⟩
                     ·
                      refine (sr_d rfl hA (Runs.ofRd (v := Value.int .i64 y26.g) (C' := Ws w No [rowR 51 1 enU8 (Value.slice Ar13_34 (clkE l (((i : Nat) : Int))).length cr13_34) (clkE l (((i : Nat) : Int))), OrdR n6 n7 n8 l n9 n10 n11 n12 n13 n14 n15] [roR (some ⟨b27, o28, none⟩) 9 enEvent l]) hW (Rd.loadRow (b := b27) (i := o28 + i * 9) (xs := [Value.int .i64 y26.g]) (by kernel_rfl) (fun _ hw => row_ld ((hw).getG 0 rfl) hy26 (Fr.refl No _) (fun h => h) 0 1 (by kernel_rfl)) (by kernel_rfl)) ?_)); clear hA ac; intro  ac hA
                      refine qn ?_
                      refine sr_one (i := 43) (by kernel_rfl) (sr_d rfl hA (Runs.callRow (E := 51) (sz := 1) (en := enU8) (l := (clkE l (((j : Nat) : Int)))) (fun _ => by kernel_rfl) hW (e_oclock n6 n7 n8 l n9 n10 n11 n12 n13 n14 n15 (((j : Nat) : Int)) w34 ((hW).get 1 rfl) ((hW).lt _ (List.mem_of_getElem? (i := 1) rfl)) hok ⟨by omega, by omega⟩) ?_)); clear hA ac hW; intro Ar13_43 cr13_43 w37 hW hccr13_43 hfw37 ac hA
                      refine qn ?_
                      refine sr_one (i := 49) (by kernel_rfl) (sr_d rfl hA (Runs.callN (v := Value.int .u64 (getC (clkE l (((j : Nat) : Int))) (y26.g))) (fun _ => by kernel_rfl) hW (e_vget Ar13_43 cr13_43 (clkE l (((j : Nat) : Int))) (y26.g) w37 (rowR_at ((hW).get 0 rfl) elt_U8.len) (own_cap ((hW).get 0 rfl)) (Nat.le_trans (clkE_len hok _).1 (by omega))) ?_)); clear hA ac hW; intro w38 hW hfw38 ac hA
                      refine qn ?_
                      refine sr_p 50 (Value.bool (decide ((getC (clkE l (((i : Nat) : Int))) (y26.g) : Int) ≤ (getC (clkE l (((j : Nat) : Int))) (y26.g) : Int)))) hR rfl hA fun ac hA => sr_p 51 (Value.bool (!(true == (decide ((getC (clkE l (((i : Nat) : Int))) (y26.g) : Int) ≤ (getC (clkE l (((j : Nat) : Int))) (y26.g) : Int)))))) hR rfl hA fun ac hA => sr_p 52 (Value.bool (!(true == (decide ((getC (clkE l (((i : Nat) : Int))) (y26.g) : Int) ≤ (getC (clkE l (((j : Nat) : Int))) (y26.g) : Int)))))) hR rfl hA fun ac hA => sr_p 53 (Value.bool (!(true == (decide ((getC (clkE l (((i : Nat) : Int))) (y26.g) : Int) ≤ (getC (clkE l (((j : Nat) : Int))) (y26.g) : Int)))))) hR rfl hA fun ac hA => ?_
                      refine sr_done (by kernel_rfl) ?_ _
                      exact ⟨Ar13_34, Ar13_43, cr13_34, cr13_43, hA.sub (by and_intros <;> first | kernel_rfl | trivial), (hW.pick [0, 1, 2] (by decide) rfl).pickG [0] rfl⟩
                    ·
                     refine (sr_d rfl hA (Runs.ofRd (v := Value.int .i64 y26.g) (C' := Ws w No [rowR 51 1 enU8 (Value.slice Ar13_34 (clkE l (((i : Nat) : Int))).length cr13_34) (clkE l (((i : Nat) : Int))), OrdR n6 n7 n8 l n9 n10 n11 n12 n13 n14 n15] [roR (some ⟨b27, o28, none⟩) 9 enEvent l]) hW (Rd.loadRow (b := b27) (i := o28 + i * 9) (xs := [Value.int .i64 y26.g]) (by kernel_rfl) (fun _ hw => row_ld ((hw).getG 0 rfl) hy26 (Fr.refl No _) (fun h => h) 0 1 (by kernel_rfl)) (by kernel_rfl)) ?_)); clear hA ac; intro  ac hA
                     refine qn ?_
                     refine sr_one (i := 40) (by kernel_rfl) (sr_d rfl hA (Runs.callN (v := Value.int .u64 (getC (clkE l (((i : Nat) : Int))) (y26.g))) (fun _ => by kernel_rfl) hW (e_vget Ar13_34 cr13_34 (clkE l (((i : Nat) : Int))) (y26.g) w33 (rowR_at ((hW).get 0 rfl) elt_U8.len) (own_cap ((hW).get 0 rfl)) (Nat.le_trans (clkE_len hok _).1 (by omega))) ?_)); clear hA ac hW; intro w39 hW hfw39 ac hA
                     refine qn ?_
                     refine sr_one (i := 43) (by kernel_rfl) (sr_d rfl hA (Runs.callRow (E := 51) (sz := 1) (en := enU8) (l := (clkE l (((j : Nat) : Int)))) (fun _ => by kernel_rfl) hW (e_oclock n6 n7 n8 l n9 n10 n11 n12 n13 n14 n15 (((j : Nat) : Int)) w39 ((hW).get 1 rfl) ((hW).lt _ (List.mem_of_getElem? (i := 1) rfl)) hok ⟨by omega, by omega⟩) ?_)); clear hA ac hW; intro Ar13_43 cr13_43 w40 hW hccr13_43 hfw40 ac hA
                     refine qn ?_
                     refine sr_one (i := 49) (by kernel_rfl) (sr_d rfl hA (Runs.callN (v := Value.int .u64 (getC (clkE l (((j : Nat) : Int))) (y26.g))) (fun _ => by kernel_rfl) hW (e_vget Ar13_43 cr13_43 (clkE l (((j : Nat) : Int))) (y26.g) w40 (rowR_at ((hW).get 0 rfl) elt_U8.len) (own_cap ((hW).get 0 rfl)) (Nat.le_trans (clkE_len hok _).1 (by omega))) ?_)); clear hA ac hW; intro w41 hW hfw41 ac hA
                     refine qn ?_
                     refine sr_p 50 (Value.bool (decide ((getC (clkE l (((i : Nat) : Int))) (y26.g) : Int) ≤ (getC (clkE l (((j : Nat) : Int))) (y26.g) : Int)))) hR rfl hA fun ac hA => sr_p 51 (Value.bool (!(true == (decide ((getC (clkE l (((i : Nat) : Int))) (y26.g) : Int) ≤ (getC (clkE l (((j : Nat) : Int))) (y26.g) : Int)))))) hR rfl hA fun ac hA => sr_p 52 (Value.bool (!(true == (decide ((getC (clkE l (((i : Nat) : Int))) (y26.g) : Int) ≤ (getC (clkE l (((j : Nat) : Int))) (y26.g) : Int)))))) hR rfl hA fun ac hA => sr_p 53 (Value.bool (!(true == (decide ((getC (clkE l (((i : Nat) : Int))) (y26.g) : Int) ≤ (getC (clkE l (((j : Nat) : Int))) (y26.g) : Int)))))) hR rfl hA fun ac hA => ?_
                     refine sr_done (by kernel_rfl) ?_ _
                     exact ⟨Ar13_34, Ar13_43, cr13_34, cr13_43, hA.sub (by and_intros <;> first | kernel_rfl | trivial), (hW.pick [0, 1, 2] (by decide) rfl).pickG [0] rfl⟩
                   ·
                    refine (sr_d rfl hA (Runs.ofRd (v := Value.int .i64 y26.g) (C' := Ws w No [rowR 51 1 enU8 (Value.slice Ar13_34 (clkE l (((i : Nat) : Int))).length cr13_34) (clkE l (((i : Nat) : Int))), OrdR n6 n7 n8 l n9 n10 n11 n12 n13 n14 n15] [roR (some ⟨b27, o28, none⟩) 9 enEvent l]) hW (Rd.loadRow (b := b27) (i := o28 + i * 9) (xs := [Value.int .i64 y26.g]) (by kernel_rfl) (fun _ hw => row_ld ((hw).getG 0 rfl) hy26 (Fr.refl No _) (fun h => h) 0 1 (by kernel_rfl)) (by kernel_rfl)) ?_)); clear hA ac; intro  ac hA
                    refine qn ?_
                    refine sr_one (i := 39) (by kernel_rfl) (sr_d rfl hA (Runs.ofRd (v := Value.int .i64 y26.g) (C' := Ws w No [rowR 51 1 enU8 (Value.slice Ar13_34 (clkE l (((i : Nat) : Int))).length cr13_34) (clkE l (((i : Nat) : Int))), OrdR n6 n7 n8 l n9 n10 n11 n12 n13 n14 n15] [roR (some ⟨b27, o28, none⟩) 9 enEvent l]) hW (Rd.loadRow (b := b27) (i := o28 + i * 9) (xs := [Value.int .i64 y26.g]) (by kernel_rfl) (fun _ hw => row_ld ((hw).getG 0 rfl) hy26 (Fr.refl No _) (fun h => h) 0 1 (by kernel_rfl)) (by kernel_rfl)) ?_)); clear hA ac; intro  ac hA
                    refine qn ?_
                    refine sr_one (i := 40) (by kernel_rfl) (sr_d rfl hA (Runs.callN (v := Value.int .u64 (getC (clkE l (((i : Nat) : Int))) (y26.g))) (fun _ => by kernel_rfl) hW (e_vget Ar13_34 cr13_34 (clkE l (((i : Nat) : Int))) (y26.g) w33 (rowR_at ((hW).get 0 rfl) elt_U8.len) (own_cap ((hW).get 0 rfl)) (Nat.le_trans (clkE_len hok _).1 (by omega))) ?_)); clear hA ac hW; intro w42 hW hfw42 ac hA
                    refine qn ?_
                    refine sr_one (i := 43) (by kernel_rfl) (sr_d rfl hA (Runs.callRow (E := 51) (sz := 1) (en := enU8) (l := (clkE l (((j : Nat) : Int)))) (fun _ => by kernel_rfl) hW (e_oclock n6 n7 n8 l n9 n10 n11 n12 n13 n14 n15 (((j : Nat) : Int)) w42 ((hW).get 1 rfl) ((hW).lt _ (List.mem_of_getElem? (i := 1) rfl)) hok ⟨by omega, by omega⟩) ?_)); clear hA ac hW; intro Ar13_43 cr13_43 w43 hW hccr13_43 hfw43 ac hA
                    refine qn ?_
                    refine sr_one (i := 49) (by kernel_rfl) (sr_d rfl hA (Runs.callN (v := Value.int .u64 (getC (clkE l (((j : Nat) : Int))) (y26.g))) (fun _ => by kernel_rfl) hW (e_vget Ar13_43 cr13_43 (clkE l (((j : Nat) : Int))) (y26.g) w43 (rowR_at ((hW).get 0 rfl) elt_U8.len) (own_cap ((hW).get 0 rfl)) (Nat.le_trans (clkE_len hok _).1 (by omega))) ?_)); clear hA ac hW; intro w44 hW hfw44 ac hA
                    refine qn ?_
                    refine sr_p 50 (Value.bool (decide ((getC (clkE l (((i : Nat) : Int))) (y26.g) : Int) ≤ (getC (clkE l (((j : Nat) : Int))) (y26.g) : Int)))) hR rfl hA fun ac hA => sr_p 51 (Value.bool (!(true == (decide ((getC (clkE l (((i : Nat) : Int))) (y26.g) : Int) ≤ (getC (clkE l (((j : Nat) : Int))) (y26.g) : Int)))))) hR rfl hA fun ac hA => sr_p 52 (Value.bool (!(true == (decide ((getC (clkE l (((i : Nat) : Int))) (y26.g) : Int) ≤ (getC (clkE l (((j : Nat) : Int))) (y26.g) : Int)))))) hR rfl hA fun ac hA => sr_p 53 (Value.bool (!(true == (decide ((getC (clkE l (((i : Nat) : Int))) (y26.g) : Int) ≤ (getC (clkE l (((j : Nat) : Int))) (y26.g) : Int)))))) hR rfl hA fun ac hA => ?_
                    refine sr_done (by kernel_rfl) ?_ _
                    exact ⟨Ar13_34, Ar13_43, cr13_34, cr13_43, hA.sub (by and_intros <;> first | kernel_rfl | trivial), (hW.pick [0, 1, 2] (by decide) rfl).pickG [0] rfl⟩
                  ·
                   refine (sr_d rfl hA (Runs.ofRd (v := Value.int .i64 y26.g) (C' := Ws w No [OrdR n6 n7 n8 l n9 n10 n11 n12 n13 n14 n15] [roR (some ⟨b27, o28, none⟩) 9 enEvent l]) hW (Rd.loadRow (b := b27) (i := o28 + i * 9) (xs := [Value.int .i64 y26.g]) (by kernel_rfl) (fun _ hw => row_ld ((hw).getG 0 rfl) hy26 (Fr.refl No _) (fun h => h) 0 1 (by kernel_rfl)) (by kernel_rfl)) ?_)); clear hA ac; intro  ac hA
                   refine qn ?_
                   refine sr_two (i := 34) (j := 48) (by kernel_rfl) ?_ ?_
                   ·
                    refine (sr_d rfl hA (Runs.callRow (E := 51) (sz := 1) (en := enU8) (l := (clkE l (((i : Nat) : Int)))) (fun _ => by kernel_rfl) hW (e_oclock n6 n7 n8 l n9 n10 n11 n12 n13 n14 n15 (((i : Nat) : Int)) w32 ((hW).get 0 rfl) ((hW).lt _ (List.mem_of_getElem? (i := 0) rfl)) hok ⟨by omega, by omega⟩) ?_)); clear hA ac hW; intro Ar13_34 cr13_34 w45 hW hccr13_34 hfw45 ac hA
                    refine qn ?_
                    refine sr_two (i := 40) (j := 48) (by kernel_rfl) ?_ ?_
                    ·
                     refine (sr_d rfl hA (Runs.callN (v := Value.int .u64 (getC (clkE l (((i : Nat) : Int))) (y26.g))) (fun _ => by kernel_rfl) hW (e_vget Ar13_34 cr13_34 (clkE l (((i : Nat) : Int))) (y26.g) w45 (rowR_at ((hW).get 0 rfl) elt_U8.len) (own_cap ((hW).get 0 rfl)) (Nat.le_trans (clkE_len hok _).1 (by omega))) ?_)); clear hA ac hW; intro w46 hW hfw46 ac hA
                     refine qn ?_
                     refine sr_two (i := 43) (j := 48) (by kernel_rfl) ?_ ?_
                     ·
                      refine (sr_d rfl hA (Runs.callRow (E := 51) (sz := 1) (en := enU8) (l := (clkE l (((j : Nat) : Int)))) (fun _ => by kernel_rfl) hW (e_oclock n6 n7 n8 l n9 n10 n11 n12 n13 n14 n15 (((j : Nat) : Int)) w46 ((hW).get 1 rfl) ((hW).lt _ (List.mem_of_getElem? (i := 1) rfl)) hok ⟨by omega, by omega⟩) ?_)); clear hA ac hW; intro Ar13_43 cr13_43 w47 hW hccr13_43 hfw47 ac hA
                      refine qn ?_
                      refine sr_one (i := 48) (by kernel_rfl) (sr_d rfl hA (Runs.ofRd (v := Value.int .i64 y26.g) (C' := Ws w No [rowR 51 1 enU8 (Value.slice Ar13_43 (clkE l (((j : Nat) : Int))).length cr13_43) (clkE l (((j : Nat) : Int))), rowR 51 1 enU8 (Value.slice Ar13_34 (clkE l (((i : Nat) : Int))).length cr13_34) (clkE l (((i : Nat) : Int))), OrdR n6 n7 n8 l n9 n10 n11 n12 n13 n14 n15] [roR (some ⟨b27, o28, none⟩) 9 enEvent l]) hW (Rd.loadRow (b := b27) (i := o28 + i * 9) (xs := [Value.int .i64 y26.g]) (by kernel_rfl) (fun _ hw => row_ld ((hw).getG 0 rfl) hy26 (Fr.refl No _) (fun h => h) 0 1 (by kernel_rfl)) (by kernel_rfl)) ?_)); clear hA ac; intro  ac hA
                      refine qn ?_
                      refine sr_one (i := 49) (by kernel_rfl) (sr_d rfl hA (Runs.callN (v := Value.int .u64 (getC (clkE l (((j : Nat) : Int))) (y26.g))) (fun _ => by kernel_rfl) hW (e_vget Ar13_43 cr13_43 (clkE l (((j : Nat) : Int))) (y26.g) w47 (rowR_at ((hW).get 0 rfl) elt_U8.len) (own_cap ((hW).get 0 rfl)) (Nat.le_trans (clkE_len hok _).1 (by omega))) ?_)); clear hA ac hW; intro w48 hW hfw48 ac hA
                      refine qn ?_
                      refine sr_p 50 (Value.bool (decide ((getC (clkE l (((i : Nat) : Int))) (y26.g) : Int) ≤ (getC (clkE l (((j : Nat) : Int))) (y26.g) : Int)))) hR rfl hA fun ac hA => sr_p 51 (Value.bool (!(true == (decide ((getC (clkE l (((i : Nat) : Int))) (y26.g) : Int) ≤ (getC (clkE l (((j : Nat) : Int))) (y26.g) : Int)))))) hR rfl hA fun ac hA => sr_p 52 (Value.bool (!(true == (decide ((getC (clkE l (((i : Nat) : Int))) (y26.g) : Int) ≤ (getC (clkE l (((j : Nat) : Int))) (y26.g) : Int)))))) hR rfl hA fun ac hA => sr_p 53 (Value.bool (!(true == (decide ((getC (clkE l (((i : Nat) : Int))) (y26.g) : Int) ≤ (getC (clkE l (((j : Nat) : Int))) (y26.g) : Int)))))) hR rfl hA fun ac hA => ?_
                      refine sr_done (by kernel_rfl) ?_ _
                      exact ⟨Ar13_34, Ar13_43, cr13_34, cr13_43, hA.sub (by and_intros <;> first | kernel_rfl | trivial), (hW.pick [0, 1, 2] (by decide) rfl).pickG [0] rfl⟩
                     ·
                      refine (sr_d rfl hA (Runs.ofRd (v := Value.int .i64 y26.g) (C' := Ws w No [rowR 51 1 enU8 (Value.slice Ar13_34 (clkE l (((i : Nat) : Int))).length cr13_34) (clkE l (((i : Nat) : Int))), OrdR n6 n7 n8 l n9 n10 n11 n12 n13 n14 n15] [roR (some ⟨b27, o28, none⟩) 9 enEvent l]) hW (Rd.loadRow (b := b27) (i := o28 + i * 9) (xs := [Value.int .i64 y26.g]) (by kernel_rfl) (fun _ hw => row_ld ((hw).getG 0 rfl) hy26 (Fr.refl No _) (fun h => h) 0 1 (by kernel_rfl)) (by kernel_rfl)) ?_)); clear hA ac; intro  ac hA
                      refine qn ?_
                      refine sr_one (i := 43) (by kernel_rfl) (sr_d rfl hA (Runs.callRow (E := 51) (sz := 1) (en := enU8) (l := (clkE l (((j : Nat) : Int)))) (fun _ => by kernel_rfl) hW (e_oclock n6 n7 n8 l n9 n10 n11 n12 n13 n14 n15 (((j : Nat) : Int)) w46 ((hW).get 1 rfl) ((hW).lt _ (List.mem_of_getElem? (i := 1) rfl)) hok ⟨by omega, by omega⟩) ?_)); clear hA ac hW; intro Ar13_43 cr13_43 w49 hW hccr13_43 hfw49 ac hA
                      refine qn ?_
                      refine sr_one (i := 49) (by kernel_rfl) (sr_d rfl hA (Runs.callN (v := Value.int .u64 (getC (clkE l (((j : Nat) : Int))) (y26.g))) (fun _ => by kernel_rfl) hW (e_vget Ar13_43 cr13_43 (clkE l (((j : Nat) : Int))) (y26.g) w49 (rowR_at ((hW).get 0 rfl) elt_U8.len) (own_cap ((hW).get 0 rfl)) (Nat.le_trans (clkE_len hok _).1 (by omega))) ?_)); clear hA ac hW; intro w50 hW hfw50 ac hA
                      refine qn ?_
                      refine sr_p 50 (Value.bool (decide ((getC (clkE l (((i : Nat) : Int))) (y26.g) : Int) ≤ (getC (clkE l (((j : Nat) : Int))) (y26.g) : Int)))) hR rfl hA fun ac hA => sr_p 51 (Value.bool (!(true == (decide ((getC (clkE l (((i : Nat) : Int))) (y26.g) : Int) ≤ (getC (clkE l (((j : Nat) : Int))) (y26.g) : Int)))))) hR rfl hA fun ac hA => sr_p 52 (Value.bool (!(true == (decide ((getC (clkE l (((i : Nat) : Int))) (y26.g) : Int) ≤ (getC (clkE l (((j : Nat) : Int))) (y26.g) : Int)))))) hR rfl hA fun ac hA => sr_p 53 (Value.bool (!(true == (decide ((getC (clkE l (((i : Nat) : Int))) (y26.g) : Int) ≤ (getC (clkE l (((j : Nat) : Int))) (y26.g) : Int)))))) hR rfl hA fun ac hA => ?_
                      refine sr_done (by kernel_rfl) ?_ _
                      exact ⟨Ar13_34, Ar13_43, cr13_34, cr13_43, hA.sub (by and_intros <;> first | kernel_rfl | trivial), (hW.pick [0, 1, 2] (by decide) rfl).pickG [0] rfl⟩
                    ·
                     refine (sr_d rfl hA (Runs.ofRd (v := Value.int .i64 y26.g) (C' := Ws w No [rowR 51 1 enU8 (Value.slice Ar13_34 (clkE l (((i : Nat) : Int))).length cr13_34) (clkE l (((i : Nat) : Int))), OrdR n6 n7 n8 l n9 n10 n11 n12 n13 n14 n15] [roR (some ⟨b27, o28, none⟩) 9 enEvent l]) hW (Rd.loadRow (b := b27) (i := o28 + i * 9) (xs := [Value.int .i64 y26.g]) (by kernel_rfl) (fun _ hw => row_ld ((hw).getG 0 rfl) hy26 (Fr.refl No _) (fun h => h) 0 1 (by kernel_rfl)) (by kernel_rfl)) ?_)); clear hA ac; intro  ac hA
                     refine qn ?_
                     refine sr_one (i := 40) (by kernel_rfl) (sr_d rfl hA (Runs.callN (v := Value.int .u64 (getC (clkE l (((i : Nat) : Int))) (y26.g))) (fun _ => by kernel_rfl) hW (e_vget Ar13_34 cr13_34 (clkE l (((i : Nat) : Int))) (y26.g) w45 (rowR_at ((hW).get 0 rfl) elt_U8.len) (own_cap ((hW).get 0 rfl)) (Nat.le_trans (clkE_len hok _).1 (by omega))) ?_)); clear hA ac hW; intro w51 hW hfw51 ac hA
                     refine qn ?_
                     refine sr_one (i := 43) (by kernel_rfl) (sr_d rfl hA (Runs.callRow (E := 51) (sz := 1) (en := enU8) (l := (clkE l (((j : Nat) : Int)))) (fun _ => by kernel_rfl) hW (e_oclock n6 n7 n8 l n9 n10 n11 n12 n13 n14 n15 (((j : Nat) : Int)) w51 ((hW).get 1 rfl) ((hW).lt _ (List.mem_of_getElem? (i := 1) rfl)) hok ⟨by omega, by omega⟩) ?_)); clear hA ac hW; intro Ar13_43 cr13_43 w52 hW hccr13_43 hfw52 ac hA
                     refine qn ?_
                     refine sr_one (i := 49) (by kernel_rfl) (sr_d rfl hA (Runs.callN (v := Value.int .u64 (getC (clkE l (((j : Nat) : Int))) (y26.g))) (fun _ => by kernel_rfl) hW (e_vget Ar13_43 cr13_43 (clkE l (((j : Nat) : Int))) (y26.g) w52 (rowR_at ((hW).get 0 rfl) elt_U8.len) (own_cap ((hW).get 0 rfl)) (Nat.le_trans (clkE_len hok _).1 (by omega))) ?_)); clear hA ac hW; intro w53 hW hfw53 ac hA
                     refine qn ?_
                     refine sr_p 50 (Value.bool (decide ((getC (clkE l (((i : Nat) : Int))) (y26.g) : Int) ≤ (getC (clkE l (((j : Nat) : Int))) (y26.g) : Int)))) hR rfl hA fun ac hA => sr_p 51 (Value.bool (!(true == (decide ((getC (clkE l (((i : Nat) : Int))) (y26.g) : Int) ≤ (getC (clkE l (((j : Nat) : Int))) (y26.g) : Int)))))) hR rfl hA fun ac hA => sr_p 52 (Value.bool (!(true == (decide ((getC (clkE l (((i : Nat) : Int))) (y26.g) : Int) ≤ (getC (clkE l (((j : Nat) : Int))) (y26.g) : Int)))))) hR rfl hA fun ac hA => sr_p 53 (Value.bool (!(true == (decide ((getC (clkE l (((i : Nat) : Int))) (y26.g) : Int) ≤ (getC (clkE l (((j : Nat) : Int))) (y26.g) : Int)))))) hR rfl hA fun ac hA => ?_
                     refine sr_done (by kernel_rfl) ?_ _
                     exact ⟨Ar13_34, Ar13_43, cr13_34, cr13_43, hA.sub (by and_intros <;> first | kernel_rfl | trivial), (hW.pick [0, 1, 2] (by decide) rfl).pickG [0] rfl⟩
                   ·
                    refine (sr_d rfl hA (Runs.ofRd (v := Value.int .i64 y26.g) (C' := Ws w No [OrdR n6 n7 n8 l n9 n10 n11 n12 n13 n14 n15] [roR (some ⟨b27, o28, none⟩) 9 enEvent l]) hW (Rd.loadRow (b := b27) (i := o28 + i * 9) (xs := [Value.int .i64 y26.g]) (by kernel_rfl) (fun _ hw => row_ld ((hw).getG 0 rfl) hy26 (Fr.refl No _) (fun h => h) 0 1 (by kernel_rfl)) (by kernel_rfl)) ?_)); clear hA ac; intro  ac hA
                    refine qn ?_
                    refine sr_one (i := 34) (by kernel_rfl) (sr_d rfl hA (Runs.callRow (E := 51) (sz := 1) (en := enU8) (l := (clkE l (((i : Nat) : Int)))) (fun _ => by kernel_rfl) hW (e_oclock n6 n7 n8 l n9 n10 n11 n12 n13 n14 n15 (((i : Nat) : Int)) w32 ((hW).get 0 rfl) ((hW).lt _ (List.mem_of_getElem? (i := 0) rfl)) hok ⟨by omega, by omega⟩) ?_)); clear hA ac hW; intro Ar13_34 cr13_34 w54 hW hccr13_34 hfw54 ac hA
                    refine qn ?_
                    refine sr_one (i := 40) (by kernel_rfl) (sr_d rfl hA (Runs.callN (v := Value.int .u64 (getC (clkE l (((i : Nat) : Int))) (y26.g))) (fun _ => by kernel_rfl) hW (e_vget Ar13_34 cr13_34 (clkE l (((i : Nat) : Int))) (y26.g) w54 (rowR_at ((hW).get 0 rfl) elt_U8.len) (own_cap ((hW).get 0 rfl)) (Nat.le_trans (clkE_len hok _).1 (by omega))) ?_)); clear hA ac hW; intro w55 hW hfw55 ac hA
                    refine qn ?_
                    refine sr_one (i := 43) (by kernel_rfl) (sr_d rfl hA (Runs.callRow (E := 51) (sz := 1) (en := enU8) (l := (clkE l (((j : Nat) : Int)))) (fun _ => by kernel_rfl) hW (e_oclock n6 n7 n8 l n9 n10 n11 n12 n13 n14 n15 (((j : Nat) : Int)) w55 ((hW).get 1 rfl) ((hW).lt _ (List.mem_of_getElem? (i := 1) rfl)) hok ⟨by omega, by omega⟩) ?_)); clear hA ac hW; intro Ar13_43 cr13_43 w56 hW hccr13_43 hfw56 ac hA
                    refine qn ?_
                    refine sr_one (i := 49) (by kernel_rfl) (sr_d rfl hA (Runs.callN (v := Value.int .u64 (getC (clkE l (((j : Nat) : Int))) (y26.g))) (fun _ => by kernel_rfl) hW (e_vget Ar13_43 cr13_43 (clkE l (((j : Nat) : Int))) (y26.g) w56 (rowR_at ((hW).get 0 rfl) elt_U8.len) (own_cap ((hW).get 0 rfl)) (Nat.le_trans (clkE_len hok _).1 (by omega))) ?_)); clear hA ac hW; intro w57 hW hfw57 ac hA
                    refine qn ?_
                    refine sr_p 50 (Value.bool (decide ((getC (clkE l (((i : Nat) : Int))) (y26.g) : Int) ≤ (getC (clkE l (((j : Nat) : Int))) (y26.g) : Int)))) hR rfl hA fun ac hA => sr_p 51 (Value.bool (!(true == (decide ((getC (clkE l (((i : Nat) : Int))) (y26.g) : Int) ≤ (getC (clkE l (((j : Nat) : Int))) (y26.g) : Int)))))) hR rfl hA fun ac hA => sr_p 52 (Value.bool (!(true == (decide ((getC (clkE l (((i : Nat) : Int))) (y26.g) : Int) ≤ (getC (clkE l (((j : Nat) : Int))) (y26.g) : Int)))))) hR rfl hA fun ac hA => sr_p 53 (Value.bool (!(true == (decide ((getC (clkE l (((i : Nat) : Int))) (y26.g) : Int) ≤ (getC (clkE l (((j : Nat) : Int))) (y26.g) : Int)))))) hR rfl hA fun ac hA => ?_
                    refine sr_done (by kernel_rfl) ?_ _
                    exact ⟨Ar13_34, Ar13_43, cr13_34, cr13_43, hA.sub (by and_intros <;> first | kernel_rfl | trivial), (hW.pick [0, 1, 2] (by decide) rfl).pickG [0] rfl⟩
                  ·
                   refine (sr_d rfl hA (Runs.ofRd (v := Value.int .i64 y26.g) (C' := Ws w No [OrdR n6 n7 n8 l n9 n10 n11 n12 n13 n14 n15] [roR (some ⟨b27, o28, none⟩) 9 enEvent l]) hW (Rd.loadRow (b := b27) (i := o28 + i * 9) (xs := [Value.int .i64 y26.g]) (by kernel_rfl) (fun _ hw => row_ld ((hw).getG 0 rfl) hy26 (Fr.refl No _) (fun h => h) 0 1 (by kernel_rfl)) (by kernel_rfl)) ?_)); clear hA ac; intro  ac hA
                   refine qn ?_
                   refine sr_two (i := 34) (j := 39) (by kernel_rfl) ?_ ?_
                   ·
                    refine (sr_d rfl hA (Runs.callRow (E := 51) (sz := 1) (en := enU8) (l := (clkE l (((i : Nat) : Int)))) (fun _ => by kernel_rfl) hW (e_oclock n6 n7 n8 l n9 n10 n11 n12 n13 n14 n15 (((i : Nat) : Int)) w32 ((hW).get 0 rfl) ((hW).lt _ (List.mem_of_getElem? (i := 0) rfl)) hok ⟨by omega, by omega⟩) ?_)); clear hA ac hW; intro Ar13_34 cr13_34 w58 hW hccr13_34 hfw58 ac hA
                    refine qn ?_
                    refine sr_one (i := 39) (by kernel_rfl) (sr_d rfl hA (Runs.ofRd (v := Value.int .i64 y26.g) (C' := Ws w No [rowR 51 1 enU8 (Value.slice Ar13_34 (clkE l (((i : Nat) : Int))).length cr13_34) (clkE l (((i : Nat) : Int))), OrdR n6 n7 n8 l n9 n10 n11 n12 n13 n14 n15] [roR (some ⟨b27, o28, none⟩) 9 enEvent l]) hW (Rd.loadRow (b := b27) (i := o28 + i * 9) (xs := [Value.int .i64 y26.g]) (by kernel_rfl) (fun _ hw => row_ld ((hw).getG 0 rfl) hy26 (Fr.refl No _) (fun h => h) 0 1 (by kernel_rfl)) (by kernel_rfl)) ?_)); clear hA ac; intro  ac hA
                    refine qn ?_
                    refine sr_one (i := 40) (by kernel_rfl) (sr_d rfl hA (Runs.callN (v := Value.int .u64 (getC (clkE l (((i : Nat) : Int))) (y26.g))) (fun _ => by kernel_rfl) hW (e_vget Ar13_34 cr13_34 (clkE l (((i : Nat) : Int))) (y26.g) w58 (rowR_at ((hW).get 0 rfl) elt_U8.len) (own_cap ((hW).get 0 rfl)) (Nat.le_trans (clkE_len hok _).1 (by omega))) ?_)); clear hA ac hW; intro w59 hW hfw59 ac hA
                    refine qn ?_
                    refine sr_one (i := 43) (by kernel_rfl) (sr_d rfl hA (Runs.callRow (E := 51) (sz := 1) (en := enU8) (l := (clkE l (((j : Nat) : Int)))) (fun _ => by kernel_rfl) hW (e_oclock n6 n7 n8 l n9 n10 n11 n12 n13 n14 n15 (((j : Nat) : Int)) w59 ((hW).get 1 rfl) ((hW).lt _ (List.mem_of_getElem? (i := 1) rfl)) hok ⟨by omega, by omega⟩) ?_)); clear hA ac hW; intro Ar13_43 cr13_43 w60 hW hccr13_43 hfw60 ac hA
                    refine qn ?_
                    refine sr_one (i := 49) (by kernel_rfl) (sr_d rfl hA (Runs.callN (v := Value.int .u64 (getC (clkE l (((j : Nat) : Int))) (y26.g))) (fun _ => by kernel_rfl) hW (e_vget Ar13_43 cr13_43 (clkE l (((j : Nat) : Int))) (y26.g) w60 (rowR_at ((hW).get 0 rfl) elt_U8.len) (own_cap ((hW).get 0 rfl)) (Nat.le_trans (clkE_len hok _).1 (by omega))) ?_)); clear hA ac hW; intro w61 hW hfw61 ac hA
                    refine qn ?_
                    refine sr_p 50 (Value.bool (decide ((getC (clkE l (((i : Nat) : Int))) (y26.g) : Int) ≤ (getC (clkE l (((j : Nat) : Int))) (y26.g) : Int)))) hR rfl hA fun ac hA => sr_p 51 (Value.bool (!(true == (decide ((getC (clkE l (((i : Nat) : Int))) (y26.g) : Int) ≤ (getC (clkE l (((j : Nat) : Int))) (y26.g) : Int)))))) hR rfl hA fun ac hA => sr_p 52 (Value.bool (!(true == (decide ((getC (clkE l (((i : Nat) : Int))) (y26.g) : Int) ≤ (getC (clkE l (((j : Nat) : Int))) (y26.g) : Int)))))) hR rfl hA fun ac hA => sr_p 53 (Value.bool (!(true == (decide ((getC (clkE l (((i : Nat) : Int))) (y26.g) : Int) ≤ (getC (clkE l (((j : Nat) : Int))) (y26.g) : Int)))))) hR rfl hA fun ac hA => ?_
                    refine sr_done (by kernel_rfl) ?_ _
                    exact ⟨Ar13_34, Ar13_43, cr13_34, cr13_43, hA.sub (by and_intros <;> first | kernel_rfl | trivial), (hW.pick [0, 1, 2] (by decide) rfl).pickG [0] rfl⟩
                   ·
                    refine (sr_d rfl hA (Runs.ofRd (v := Value.int .i64 y26.g) (C' := Ws w No [OrdR n6 n7 n8 l n9 n10 n11 n12 n13 n14 n15] [roR (some ⟨b27, o28, none⟩) 9 enEvent l]) hW (Rd.loadRow (b := b27) (i := o28 + i * 9) (xs := [Value.int .i64 y26.g]) (by kernel_rfl) (fun _ hw => row_ld ((hw).getG 0 rfl) hy26 (Fr.refl No _) (fun h => h) 0 1 (by kernel_rfl)) (by kernel_rfl)) ?_)); clear hA ac; intro  ac hA
                    refine qn ?_
                    refine sr_one (i := 34) (by kernel_rfl) (sr_d rfl hA (Runs.callRow (E := 51) (sz := 1) (en := enU8) (l := (clkE l (((i : Nat) : Int)))) (fun _ => by kernel_rfl) hW (e_oclock n6 n7 n8 l n9 n10 n11 n12 n13 n14 n15 (((i : Nat) : Int)) w32 ((hW).get 0 rfl) ((hW).lt _ (List.mem_of_getElem? (i := 0) rfl)) hok ⟨by omega, by omega⟩) ?_)); clear hA ac hW; intro Ar13_34 cr13_34 w62 hW hccr13_34 hfw62 ac hA
                    refine qn ?_
                    refine sr_one (i := 40) (by kernel_rfl) (sr_d rfl hA (Runs.callN (v := Value.int .u64 (getC (clkE l (((i : Nat) : Int))) (y26.g))) (fun _ => by kernel_rfl) hW (e_vget Ar13_34 cr13_34 (clkE l (((i : Nat) : Int))) (y26.g) w62 (rowR_at ((hW).get 0 rfl) elt_U8.len) (own_cap ((hW).get 0 rfl)) (Nat.le_trans (clkE_len hok _).1 (by omega))) ?_)); clear hA ac hW; intro w63 hW hfw63 ac hA
                    refine qn ?_
                    refine sr_one (i := 43) (by kernel_rfl) (sr_d rfl hA (Runs.callRow (E := 51) (sz := 1) (en := enU8) (l := (clkE l (((j : Nat) : Int)))) (fun _ => by kernel_rfl) hW (e_oclock n6 n7 n8 l n9 n10 n11 n12 n13 n14 n15 (((j : Nat) : Int)) w63 ((hW).get 1 rfl) ((hW).lt _ (List.mem_of_getElem? (i := 1) rfl)) hok ⟨by omega, by omega⟩) ?_)); clear hA ac hW; intro Ar13_43 cr13_43 w64 hW hccr13_43 hfw64 ac hA
                    refine qn ?_
                    refine sr_one (i := 49) (by kernel_rfl) (sr_d rfl hA (Runs.callN (v := Value.int .u64 (getC (clkE l (((j : Nat) : Int))) (y26.g))) (fun _ => by kernel_rfl) hW (e_vget Ar13_43 cr13_43 (clkE l (((j : Nat) : Int))) (y26.g) w64 (rowR_at ((hW).get 0 rfl) elt_U8.len) (own_cap ((hW).get 0 rfl)) (Nat.le_trans (clkE_len hok _).1 (by omega))) ?_)); clear hA ac hW; intro w65 hW hfw65 ac hA
                    refine qn ?_
                    refine sr_p 50 (Value.bool (decide ((getC (clkE l (((i : Nat) : Int))) (y26.g) : Int) ≤ (getC (clkE l (((j : Nat) : Int))) (y26.g) : Int)))) hR rfl hA fun ac hA => sr_p 51 (Value.bool (!(true == (decide ((getC (clkE l (((i : Nat) : Int))) (y26.g) : Int) ≤ (getC (clkE l (((j : Nat) : Int))) (y26.g) : Int)))))) hR rfl hA fun ac hA => sr_p 52 (Value.bool (!(true == (decide ((getC (clkE l (((i : Nat) : Int))) (y26.g) : Int) ≤ (getC (clkE l (((j : Nat) : Int))) (y26.g) : Int)))))) hR rfl hA fun ac hA => sr_p 53 (Value.bool (!(true == (decide ((getC (clkE l (((i : Nat) : Int))) (y26.g) : Int) ≤ (getC (clkE l (((j : Nat) : Int))) (y26.g) : Int)))))) hR rfl hA fun ac hA => ?_
                    refine sr_done (by kernel_rfl) ?_ _
                    exact ⟨Ar13_34, Ar13_43, cr13_34, cr13_43, hA.sub (by and_intros <;> first | kernel_rfl | trivial), (hW.pick [0, 1, 2] (by decide) rfl).pickG [0] rfl⟩
                clear hA ac hW; rintro ac w66 ⟨Ar13_34, Ar13_43, cr13_34, cr13_43, hA, hW⟩
                refine thenN ?_
                refine wp_cond_split (t := !(true == (decide ((getC (clkE l (((i : Nat) : Int))) (y26.g) : Int) ≤ (getC (clkE l (((j : Nat) : Int))) (y26.g) : Int))))) (hA.eval (by kernel_rfl)) (fun h67 => ?_) (fun h67 => ?_)
                ·
                 have h67 := bbne_t h67
                 first
                 | (exfalso; clear hA hW; omega)
                 | (exfalso; clear hA hW; exact h67 (by rw [← bef_clk hy26 (by omega) (by omega)]; exact h24.symm); done)
                 | (exfalso; clear hA hW; rw [← bef_clk hy26 (by omega) (by omega), h24] at h67; cases h67; done)
                 | (exfalso; clear hA hW; exact absurd (bef_leads hev (by omega) hy26 hy29 (of_decide_eq_true h30)) (by rw [h24]; decide); done)
                 | (exfalso; clear hA hW; have q_ := bef_rng h24; omega; done)
                 | (
                  refine wp_seq ?_
                  refine wp_region_lit ?_
                  refine st_p (Value.bool false) hA ?_; clear hA ac; intro ac hA
                  refine wpList_nil ?_
                  refine thenN ?_
                  refine wp_ret ?_
                  refine cutR ?_
                  refine thenR ?_
                  refine blkR ?_
                  refine thenR ?_
                  refine thenR ?_
                  refine blkR ?_
                  refine blkR ?_
                  refine thenR ?_
                  refine thenR ?_
                  refine blkR ?_
                  refine thenR ?_
                  refine ret1 (v := Value.bool false) (by rfl) hA (Got.tmp hA (by kernel_rfl) (by kernel_rfl)) ?_
                  clear hA
                  exact ⟨retv (by rfl), hW.fr⟩)
                have h67 := bbne_f h67
                first
                | (exfalso; clear hA hW; omega)
                | (exfalso; clear hA hW; exact h67 (by rw [← bef_clk hy26 (by omega) (by omega)]; exact h24.symm); done)
                | (exfalso; clear hA hW; rw [← bef_clk hy26 (by omega) (by omega), h24] at h67; cases h67; done)
                | (exfalso; clear hA hW; exact absurd (bef_leads hev (by omega) hy26 hy29 (of_decide_eq_true h30)) (by rw [h24]; decide); done)
                | (exfalso; clear hA hW; have q_ := bef_rng h24; omega; done)
                | (
                 refine wp_skip ?_
                 refine cutN ?_
                 exact ⟨true, by exact h24.symm, hA.sub (by and_intros <;> first | kernel_rfl | trivial), (hW.pick [2] (by decide) rfl).pickG [0] rfl⟩))
              first
              | (exfalso; clear hA hW; omega)
              | (exfalso; clear hA hW; exact h30 (by rw [← bef_clk hy26 (by omega) (by omega)]; exact h24.symm); done)
              | (exfalso; clear hA hW; rw [← bef_clk hy26 (by omega) (by omega), h24] at h30; cases h30; done)
              | (exfalso; clear hA hW; exact absurd (bef_leads hev (by omega) hy26 hy29 (of_decide_eq_true h30)) (by rw [h24]; decide); done)
              | (exfalso; clear hA hW; have q_ := bef_rng h24; omega; done)
              | (
               refine wp_cut (fun ac_ wl_ => ∃ Ar13_34 : Option Addr, ∃ Ar13_43 : Option Addr, ∃ cr13_34 : Nat, ∃ cr13_43 : Nat, Fm 141 [] [(0, Value.slice (some ⟨b27, o28, none⟩) l.length c_l), (3, Value.pointer (some ⟨n6, 0, none⟩)), (5, Value.int .i64 ((j : Nat) : Int)), (6, Value.int .i64 ((i : Nat) : Int)), (7, Value.bool true), (29, Value.int .i64 ((i : Nat) : Int)), (30, Value.slice (some ⟨b27, o28, none⟩) l.length c_l), (31, Value.int .i64 ((l.length : Nat) : Int)), (32, Value.bool (decide ((((i : Nat) : Int) : Int) < (((l.length : Nat) : Int) : Int)))), (35, Value.pointer (some ⟨n6, 0, none⟩)), (36, Value.int .i64 ((i : Nat) : Int)), (37, Value.int .i64 ((j : Nat) : Int)), (38, Value.bool true), (92, Value.bool (!(true == (decide ((getC (clkE l (((i : Nat) : Int))) (y26.g) : Int) ≤ (getC (clkE l (((j : Nat) : Int))) (y26.g) : Int))))))] ac_ ∧ Ws w No [rowR 51 1 enU8 (Value.slice Ar13_43 (clkE l (((j : Nat) : Int))).length cr13_43) (clkE l (((j : Nat) : Int))), rowR 51 1 enU8 (Value.slice Ar13_34 (clkE l (((i : Nat) : Int))).length cr13_34) (clkE l (((i : Nat) : Int))), OrdR n6 n7 n8 l n9 n10 n11 n12 n13 n14 n15] [roR (some ⟨b27, o28, none⟩) 9 enEvent l] wl_) ?_ ?_
               · refine sr_region (m := 54) (C := Ws w No [OrdR n6 n7 n8 l n9 n10 n11 n12 n13 n14 n15] [roR (some ⟨b27, o28, none⟩) 9 enEvent l]) (fun i => [14, 18].contains i) (fun i => [14, 18].contains i) (fun i => [0, 1, 2, 3, 4, 5, 6, 7, 8, 9, 10, 11, 12, 13, 15, 16, 17, 20, 21, 22, 23, 24, 25, 26, 27, 28, 29, 30, 31, 32, 33, 35, 36, 37, 38, 41, 42, 44, 45, 46, 47, 50, 51, 52, 53].contains i) (by kernel_rfl) (by kernel_rfl) (by kernel_rfl) (by kernel_rfl) hW ?_; clear hW; intro w68 hW hfw68 hR; have hC : Ws w No [OrdR n6 n7 n8 l n9 n10 n11 n12 n13 n14 n15] [roR (some ⟨b27, o28, none⟩) 9 enEvent l] w68 := hW.pick [0] (by decide) rfl
                 refine sr_p 0 (Value.bool (befE l (((i : Nat) : Int)) (((j : Nat) : Int)))) hR rfl hA fun ac hA => sr_p 1 (Value.bool (befE l (((i : Nat) : Int)) (((j : Nat) : Int)))) hR rfl hA fun ac hA => ?_
                 rw [show (befE l (((i : Nat) : Int)) (((j : Nat) : Int))) = true from h24] at hA
                 refine sr_p 2 (Value.int .i64 ((i : Nat) : Int)) hR rfl hA fun ac hA => sr_p 3 (Value.int .i64 ((j : Nat) : Int)) hR rfl hA fun ac hA => sr_p 4 (Value.bool (decide ((((i : Nat) : Int) : Int) ≥ (((j : Nat) : Int) : Int)))) hR rfl hA fun ac hA => sr_p 5 (Value.bool (decide ((((i : Nat) : Int) : Int) ≥ (((j : Nat) : Int) : Int)))) hR rfl hA fun ac hA => sr_p 6 (Value.bool (decide ((((i : Nat) : Int) : Int) ≥ (((j : Nat) : Int) : Int)))) hR rfl hA fun ac hA => ?_
                 rw [show (decide ((((i : Nat) : Int) : Int) ≥ (((j : Nat) : Int) : Int))) = false from decide_eq_false (by omega)] at hA
                 refine sr_p 7 (Value.int .i64 ((i : Nat) : Int)) hR rfl hA fun ac hA => sr_p 8 (Value.int .i64 ((j : Nat) : Int)) hR rfl hA fun ac hA => sr_p 9 (Value.bool (decide ((((i : Nat) : Int) : Int) < (((j : Nat) : Int) : Int)))) hR rfl hA fun ac hA => sr_p 10 (Value.bool (decide ((((i : Nat) : Int) : Int) < (((j : Nat) : Int) : Int)))) hR rfl hA fun ac hA => ?_
                 rw [show (decide ((((i : Nat) : Int) : Int) < (((j : Nat) : Int) : Int))) = true from decide_eq_true (by omega)] at hA
                 refine sr_p 11 (Value.slice (some ⟨b27, o28, none⟩) l.length c_l) hR rfl hA fun ac hA => sr_p 12 (Value.int .i64 ((i : Nat) : Int)) hR rfl hA fun ac hA => sr_q 13 (Value.pointer (some ⟨b27, o28 + i * 9, none⟩)) hR rfl hA (Rd.indexAddr (e := 50) (sz := 9) (b := b27) (off := o28) (n := l.length) (c := c_l) (k := i) (by kernel_rfl) (by kernel_rfl) (by first | omega | (simp; done) | (simp; omega)) (fun _ => by kernel_rfl) (fun _ => by kernel_rfl)) fun ac hA => sr_t 14 (Value.agg #[Value.int .i64 y26.g, Value.int .i64 y26.kind, Value.int .i64 y26.site.f, Value.int .i64 y26.site.pc, Value.int .u32 y26.addr, Value.int .i64 y26.child, Value.int .i64 y26.obj, Value.int .i64 y26.n, Value.int .i64 y26.trap]) hR rfl hA hC (Rd.loadRow (b := b27) (i := o28 + i * 9) (xs := [Value.int .i64 y26.g, Value.int .i64 y26.kind, Value.int .i64 y26.site.f, Value.int .i64 y26.site.pc, Value.int .u32 y26.addr, Value.int .i64 y26.child, Value.int .i64 y26.obj, Value.int .i64 y26.n, Value.int .i64 y26.trap]) (by kernel_rfl) (fun _ hw => row_ld ((hw).getG 0 rfl) hy26 (Fr.refl No _) (fun h => h) 0 9 (by kernel_rfl)) (by kernel_rfl)) fun ac hA => sr_p 15 (Value.slice (some ⟨b27, o28, none⟩) l.length c_l) hR rfl hA fun ac hA => sr_p 16 (Value.int .i64 ((j : Nat) : Int)) hR rfl hA fun ac hA => sr_q 17 (Value.pointer (some ⟨b27, o28 + j * 9, none⟩)) hR rfl hA (Rd.indexAddr (e := 50) (sz := 9) (b := b27) (off := o28) (n := l.length) (c := c_l) (k := j) (by kernel_rfl) (by kernel_rfl) (by first | omega | (simp; done) | (simp; omega)) (fun _ => by kernel_rfl) (fun _ => by kernel_rfl)) fun ac hA => sr_t 18 (Value.agg #[Value.int .i64 y29.g, Value.int .i64 y29.kind, Value.int .i64 y29.site.f, Value.int .i64 y29.site.pc, Value.int .u32 y29.addr, Value.int .i64 y29.child, Value.int .i64 y29.obj, Value.int .i64 y29.n, Value.int .i64 y29.trap]) hR rfl hA hC (Rd.loadRow (b := b27) (i := o28 + j * 9) (xs := [Value.int .i64 y29.g, Value.int .i64 y29.kind, Value.int .i64 y29.site.f, Value.int .i64 y29.site.pc, Value.int .u32 y29.addr, Value.int .i64 y29.child, Value.int .i64 y29.obj, Value.int .i64 y29.n, Value.int .i64 y29.trap]) (by kernel_rfl) (fun _ hw => row_ld ((hw).getG 0 rfl) hy29 (Fr.refl No _) (fun h => h) 0 9 (by kernel_rfl)) (by kernel_rfl)) fun ac hA => ?_
                 refine sr_one (i := 19) (by kernel_rfl) (sr_d rfl hA (Runs.callN (v := Value.bool (evLeads y26 y29)) (fun _ => by kernel_rfl) hW (e_r16leads y26 y29 w68) ?_)); clear hA ac hW; intro w69 hW hfw69 ac hA
                 refine qn ?_
                 refine sr_p 20 (Value.bool (evLeads y26 y29)) hR rfl hA fun ac hA => sr_p 21 (Value.bool (evLeads y26 y29)) hR rfl hA fun ac hA => ?_
                 rw [show (evLeads y26 y29) = false from h30] at hA
                 refine sr_s 22 hR rfl hA fun ac hA => sr_s 23 hR rfl hA fun ac hA => sr_p 24 (Value.bool false) hR rfl hA fun ac hA => sr_p 25 (Value.bool false) hR rfl hA fun ac hA => sr_p 26 (Value.bool false) hR rfl hA fun ac hA => sr_p 27 (Value.int .i64 ((i : Nat) : Int)) hR rfl hA fun ac hA => sr_p 28 (Value.int .i64 ((j : Nat) : Int)) hR rfl hA fun ac hA => sr_p 29 (Value.bool (decide ((((i : Nat) : Int) : Int) < (((j : Nat) : Int) : Int)))) hR rfl hA fun ac hA => sr_p 30 (Value.bool (decide ((((i : Nat) : Int) : Int) < (((j : Nat) : Int) : Int)))) hR rfl hA fun ac hA => ?_
                 rw [show (decide ((((i : Nat) : Int) : Int) < (((j : Nat) : Int) : Int))) = true from decide_eq_true (by omega)] at hA
                 refine sr_p 31 (Value.bool true) hR rfl hA fun ac hA => sr_p 32 (Value.pointer (some ⟨n6, 0, none⟩)) hR rfl hA fun ac hA => sr_p 33 (Value.int .i64 ((i : Nat) : Int)) hR rfl hA fun ac hA => sr_p 35 (Value.slice (some ⟨b27, o28, none⟩) l.length c_l) hR rfl hA fun ac hA => sr_p 36 (Value.int .i64 ((i : Nat) : Int)) hR rfl hA fun ac hA => sr_q 37 (Value.pointer (some ⟨b27, o28 + i * 9, none⟩)) hR rfl hA (Rd.indexAddr (e := 50) (sz := 9) (b := b27) (off := o28) (n := l.length) (c := c_l) (k := i) (by kernel_rfl) (by kernel_rfl) (by first | omega | (simp; done) | (simp; omega)) (fun _ => by kernel_rfl) (fun _ => by kernel_rfl)) fun ac hA => sr_p 38 (Value.pointer (some ⟨b27, o28 + i * 9, none⟩)) hR rfl hA fun ac hA => sr_p 41 (Value.pointer (some ⟨n6, 0, none⟩)) hR rfl hA fun ac hA => sr_p 42 (Value.int .i64 ((j : Nat) : Int)) hR rfl hA fun ac hA => sr_p 44 (Value.slice (some ⟨b27, o28, none⟩) l.length c_l) hR rfl hA fun ac hA => sr_p 45 (Value.int .i64 ((i : Nat) : Int)) hR rfl hA fun ac hA => sr_q 46 (Value.pointer (some ⟨b27, o28 + i * 9, none⟩)) hR rfl hA (Rd.indexAddr (e := 50) (sz := 9) (b := b27) (off := o28) (n := l.length) (c := c_l) (k := i) (by kernel_rfl) (by kernel_rfl) (by first | omega | (simp; done) | (simp; omega)) (fun _ => by kernel_rfl) (fun _ => by kernel_rfl)) fun ac hA => sr_p 47 (Value.pointer (some ⟨b27, o28 + i * 9, none⟩)) hR rfl hA fun ac hA => ?_
                 refine sr_three (i := 34) (j := 39) (k := 48) (by kernel_rfl) ?_ ?_ ?_
                 ·
                  refine (sr_d rfl hA (Runs.callRow (E := 51) (sz := 1) (en := enU8) (l := (clkE l (((i : Nat) : Int)))) (fun _ => by kernel_rfl) hW (e_oclock n6 n7 n8 l n9 n10 n11 n12 n13 n14 n15 (((i : Nat) : Int)) w69 ((hW).get 0 rfl) ((hW).lt _ (List.mem_of_getElem? (i := 0) rfl)) hok ⟨by omega, by omega⟩) ?_)); clear hA ac hW; intro Ar13_34 cr13_34 w70 hW hccr13_34 hfw70 ac hA
                  refine qn ?_
                  refine sr_two (i := 39) (j := 48) (by kernel_rfl) ?_ ?_
                  ·
                   refine (sr_d rfl hA (Runs.ofRd (v := Value.int .i64 y26.g) (C' := Ws w No [rowR 51 1 enU8 (Value.slice Ar13_34 (clkE l (((i : Nat) : Int))).length cr13_34) (clkE l (((i : Nat) : Int))), OrdR n6 n7 n8 l n9 n10 n11 n12 n13 n14 n15] [roR (some ⟨b27, o28, none⟩) 9 enEvent l]) hW (Rd.loadRow (b := b27) (i := o28 + i * 9) (xs := [Value.int .i64 y26.g]) (by kernel_rfl) (fun _ hw => row_ld ((hw).getG 0 rfl) hy26 (Fr.refl No _) (fun h => h) 0 1 (by kernel_rfl)) (by kernel_rfl)) ?_)); clear hA ac; intro  ac hA
                   refine qn ?_
                   refine sr_two (i := 40) (j := 48) (by kernel_rfl) ?_ ?_
                   ·
                    refine (sr_d rfl hA (Runs.callN (v := Value.int .u64 (getC (clkE l (((i : Nat) : Int))) (y26.g))) (fun _ => by kernel_rfl) hW (e_vget Ar13_34 cr13_34 (clkE l (((i : Nat) : Int))) (y26.g) w70 (rowR_at ((hW).get 0 rfl) elt_U8.len) (own_cap ((hW).get 0 rfl)) (Nat.le_trans (clkE_len hok _).1 (by omega))) ?_)); clear hA ac hW; intro w71 hW hfw71 ac hA
                    refine qn ?_
                    refine sr_two (i := 43) (j := 48) (by kernel_rfl) ?_ ?_
                    ·
                     refine (sr_d rfl hA (Runs.callRow (E := 51) (sz := 1) (en := enU8) (l := (clkE l (((j : Nat) : Int)))) (fun _ => by kernel_rfl) hW (e_oclock n6 n7 n8 l n9 n10 n11 n12 n13 n14 n15 (((j : Nat) : Int)) w71 ((hW).get 1 rfl) ((hW).lt _ (List.mem_of_getElem? (i := 1) rfl)) hok ⟨by omega, by omega⟩) ?_)); clear hA ac hW; intro Ar13_43 cr13_43 w72 hW hccr13_43 hfw72 ac hA
                     refine qn ?_
                     refine sr_one (i := 48) (by kernel_rfl) (sr_d rfl hA (Runs.ofRd (v := Value.int .i64 y26.g) (C' := Ws w No [rowR 51 1 enU8 (Value.slice Ar13_43 (clkE l (((j : Nat) : Int))).length cr13_43) (clkE l (((j : Nat) : Int))), rowR 51 1 enU8 (Value.slice Ar13_34 (clkE l (((i : Nat) : Int))).length cr13_34) (clkE l (((i : Nat) : Int))), OrdR n6 n7 n8 l n9 n10 n11 n12 n13 n14 n15] [roR (some ⟨b27, o28, none⟩) 9 enEvent l]) hW (Rd.loadRow (b := b27) (i := o28 + i * 9) (xs := [Value.int .i64 y26.g]) (by kernel_rfl) (fun _ hw => row_ld ((hw).getG 0 rfl) hy26 (Fr.refl No _) (fun h => h) 0 1 (by kernel_rfl)) (by kernel_rfl)) ?_)); clear hA ac; intro  ac hA
                     refine qn ?_
                     refine sr_one (i := 49) (by kernel_rfl) (sr_d rfl hA (Runs.callN (v := Value.int .u64 (getC (clkE l (((j : Nat) : Int))) (y26.g))) (fun _ => by kernel_rfl) hW (e_vget Ar13_43 cr13_43 (clkE l (((j : Nat) : Int))) (y26.g) w72 (rowR_at ((hW).get 0 rfl) elt_U8.len) (own_cap ((hW).get 0 rfl)) (Nat.le_trans (clkE_len hok _).1 (by omega))) ?_)); clear hA ac hW; intro w73 hW hfw73 ac hA
                     refine qn ?_
                     refine sr_p 50 (Value.bool (decide ((getC (clkE l (((i : Nat) : Int))) (y26.g) : Int) ≤ (getC (clkE l (((j : Nat) : Int))) (y26.g) : Int)))) hR rfl hA fun ac hA => sr_p 51 (Value.bool (!(true == (decide ((getC (clkE l (((i : Nat) : Int))) (y26.g) : Int) ≤ (getC (clkE l (((j : Nat) : Int))) (y26.g) : Int)))))) hR rfl hA fun ac hA => sr_p 52 (Value.bool (!(true == (decide ((getC (clkE l (((i : Nat) : Int))) (y26.g) : Int) ≤ (getC (clkE l (((j : Nat) : Int))) (y26.g) : Int)))))) hR rfl hA fun ac hA => sr_p 53 (Value.bool (!(true == (decide ((getC (clkE l (((i : Nat) : Int))) (y26.g) : Int) ≤ (getC (clkE l (((j : Nat) : Int))) (y26.g) : Int)))))) hR rfl hA fun ac hA => ?_
                     refine sr_done (by kernel_rfl) ?_ _
                     exact ⟨Ar13_34, Ar13_43, cr13_34, cr13_43, hA.sub (by and_intros <;> first | kernel_rfl | trivial), (hW.pick [0, 1, 2] (by decide) rfl).pickG [0] rfl⟩
                    ·
                     refine (sr_d rfl hA (Runs.ofRd (v := Value.int .i64 y26.g) (C' := Ws w No [rowR 51 1 enU8 (Value.slice Ar13_34 (clkE l (((i : Nat) : Int))).length cr13_34) (clkE l (((i : Nat) : Int))), OrdR n6 n7 n8 l n9 n10 n11 n12 n13 n14 n15] [roR (some ⟨b27, o28, none⟩) 9 enEvent l]) hW (Rd.loadRow (b := b27) (i := o28 + i * 9) (xs := [Value.int .i64 y26.g]) (by kernel_rfl) (fun _ hw => row_ld ((hw).getG 0 rfl) hy26 (Fr.refl No _) (fun h => h) 0 1 (by kernel_rfl)) (by kernel_rfl)) ?_)); clear hA ac; intro  ac hA
                     refine qn ?_
                     refine sr_one (i := 43) (by kernel_rfl) (sr_d rfl hA (Runs.callRow (E := 51) (sz := 1) (en := enU8) (l := (clkE l (((j : Nat) : Int)))) (fun _ => by kernel_rfl) hW (e_oclock n6 n7 n8 l n9 n10 n11 n12 n13 n14 n15 (((j : Nat) : Int)) w71 ((hW).get 1 rfl) ((hW).lt _ (List.mem_of_getElem? (i := 1) rfl)) hok ⟨by omega, by omega⟩) ?_)); clear hA ac hW; intro Ar13_43 cr13_43 w74 hW hccr13_43 hfw74 ac hA
                     refine qn ?_
                     refine sr_one (i := 49) (by kernel_rfl) (sr_d rfl hA (Runs.callN (v := Value.int .u64 (getC (clkE l (((j : Nat) : Int))) (y26.g))) (fun _ => by kernel_rfl) hW (e_vget Ar13_43 cr13_43 (clkE l (((j : Nat) : Int))) (y26.g) w74 (rowR_at ((hW).get 0 rfl) elt_U8.len) (own_cap ((hW).get 0 rfl)) (Nat.le_trans (clkE_len hok _).1 (by omega))) ?_)); clear hA ac hW; intro w75 hW hfw75 ac hA
                     refine qn ?_
                     refine sr_p 50 (Value.bool (decide ((getC (clkE l (((i : Nat) : Int))) (y26.g) : Int) ≤ (getC (clkE l (((j : Nat) : Int))) (y26.g) : Int)))) hR rfl hA fun ac hA => sr_p 51 (Value.bool (!(true == (decide ((getC (clkE l (((i : Nat) : Int))) (y26.g) : Int) ≤ (getC (clkE l (((j : Nat) : Int))) (y26.g) : Int)))))) hR rfl hA fun ac hA => sr_p 52 (Value.bool (!(true == (decide ((getC (clkE l (((i : Nat) : Int))) (y26.g) : Int) ≤ (getC (clkE l (((j : Nat) : Int))) (y26.g) : Int)))))) hR rfl hA fun ac hA => sr_p 53 (Value.bool (!(true == (decide ((getC (clkE l (((i : Nat) : Int))) (y26.g) : Int) ≤ (getC (clkE l (((j : Nat) : Int))) (y26.g) : Int)))))) hR rfl hA fun ac hA => ?_
                     refine sr_done (by kernel_rfl) ?_ _
                     exact ⟨Ar13_34, Ar13_43, cr13_34, cr13_43, hA.sub (by and_intros <;> first | kernel_rfl | trivial), (hW.pick [0, 1, 2] (by decide) rfl).pickG [0] rfl⟩
                   ·
                    refine (sr_d rfl hA (Runs.ofRd (v := Value.int .i64 y26.g) (C' := Ws w No [rowR 51 1 enU8 (Value.slice Ar13_34 (clkE l (((i : Nat) : Int))).length cr13_34) (clkE l (((i : Nat) : Int))), OrdR n6 n7 n8 l n9 n10 n11 n12 n13 n14 n15] [roR (some ⟨b27, o28, none⟩) 9 enEvent l]) hW (Rd.loadRow (b := b27) (i := o28 + i * 9) (xs := [Value.int .i64 y26.g]) (by kernel_rfl) (fun _ hw => row_ld ((hw).getG 0 rfl) hy26 (Fr.refl No _) (fun h => h) 0 1 (by kernel_rfl)) (by kernel_rfl)) ?_)); clear hA ac; intro  ac hA
                    refine qn ?_
                    refine sr_one (i := 40) (by kernel_rfl) (sr_d rfl hA (Runs.callN (v := Value.int .u64 (getC (clkE l (((i : Nat) : Int))) (y26.g))) (fun _ => by kernel_rfl) hW (e_vget Ar13_34 cr13_34 (clkE l (((i : Nat) : Int))) (y26.g) w70 (rowR_at ((hW).get 0 rfl) elt_U8.len) (own_cap ((hW).get 0 rfl)) (Nat.le_trans (clkE_len hok _).1 (by omega))) ?_)); clear hA ac hW; intro w76 hW hfw76 ac hA
                    refine qn ?_
                    refine sr_one (i := 43) (by kernel_rfl) (sr_d rfl hA (Runs.callRow (E := 51) (sz := 1) (en := enU8) (l := (clkE l (((j : Nat) : Int)))) (fun _ => by kernel_rfl) hW (e_oclock n6 n7 n8 l n9 n10 n11 n12 n13 n14 n15 (((j : Nat) : Int)) w76 ((hW).get 1 rfl) ((hW).lt _ (List.mem_of_getElem? (i := 1) rfl)) hok ⟨by omega, by omega⟩) ?_)); clear hA ac hW; intro Ar13_43 cr13_43 w77 hW hccr13_43 hfw77 ac hA
                    refine qn ?_
                    refine sr_one (i := 49) (by kernel_rfl) (sr_d rfl hA (Runs.callN (v := Value.int .u64 (getC (clkE l (((j : Nat) : Int))) (y26.g))) (fun _ => by kernel_rfl) hW (e_vget Ar13_43 cr13_43 (clkE l (((j : Nat) : Int))) (y26.g) w77 (rowR_at ((hW).get 0 rfl) elt_U8.len) (own_cap ((hW).get 0 rfl)) (Nat.le_trans (clkE_len hok _).1 (by omega))) ?_)); clear hA ac hW; intro w78 hW hfw78 ac hA
                    refine qn ?_
                    refine sr_p 50 (Value.bool (decide ((getC (clkE l (((i : Nat) : Int))) (y26.g) : Int) ≤ (getC (clkE l (((j : Nat) : Int))) (y26.g) : Int)))) hR rfl hA fun ac hA => sr_p 51 (Value.bool (!(true == (decide ((getC (clkE l (((i : Nat) : Int))) (y26.g) : Int) ≤ (getC (clkE l (((j : Nat) : Int))) (y26.g) : Int)))))) hR rfl hA fun ac hA => sr_p 52 (Value.bool (!(true == (decide ((getC (clkE l (((i : Nat) : Int))) (y26.g) : Int) ≤ (getC (clkE l (((j : Nat) : Int))) (y26.g) : Int)))))) hR rfl hA fun ac hA => sr_p 53 (Value.bool (!(true == (decide ((getC (clkE l (((i : Nat) : Int))) (y26.g) : Int) ≤ (getC (clkE l (((j : Nat) : Int))) (y26.g) : Int)))))) hR rfl hA fun ac hA => ?_
                    refine sr_done (by kernel_rfl) ?_ _
                    exact ⟨Ar13_34, Ar13_43, cr13_34, cr13_43, hA.sub (by and_intros <;> first | kernel_rfl | trivial), (hW.pick [0, 1, 2] (by decide) rfl).pickG [0] rfl⟩
                  ·
                   refine (sr_d rfl hA (Runs.ofRd (v := Value.int .i64 y26.g) (C' := Ws w No [rowR 51 1 enU8 (Value.slice Ar13_34 (clkE l (((i : Nat) : Int))).length cr13_34) (clkE l (((i : Nat) : Int))), OrdR n6 n7 n8 l n9 n10 n11 n12 n13 n14 n15] [roR (some ⟨b27, o28, none⟩) 9 enEvent l]) hW (Rd.loadRow (b := b27) (i := o28 + i * 9) (xs := [Value.int .i64 y26.g]) (by kernel_rfl) (fun _ hw => row_ld ((hw).getG 0 rfl) hy26 (Fr.refl No _) (fun h => h) 0 1 (by kernel_rfl)) (by kernel_rfl)) ?_)); clear hA ac; intro  ac hA
                   refine qn ?_
                   refine sr_one (i := 39) (by kernel_rfl) (sr_d rfl hA (Runs.ofRd (v := Value.int .i64 y26.g) (C' := Ws w No [rowR 51 1 enU8 (Value.slice Ar13_34 (clkE l (((i : Nat) : Int))).length cr13_34) (clkE l (((i : Nat) : Int))), OrdR n6 n7 n8 l n9 n10 n11 n12 n13 n14 n15] [roR (some ⟨b27, o28, none⟩) 9 enEvent l]) hW (Rd.loadRow (b := b27) (i := o28 + i * 9) (xs := [Value.int .i64 y26.g]) (by kernel_rfl) (fun _ hw => row_ld ((hw).getG 0 rfl) hy26 (Fr.refl No _) (fun h => h) 0 1 (by kernel_rfl)) (by kernel_rfl)) ?_)); clear hA ac; intro  ac hA
                   refine qn ?_
                   refine sr_one (i := 40) (by kernel_rfl) (sr_d rfl hA (Runs.callN (v := Value.int .u64 (getC (clkE l (((i : Nat) : Int))) (y26.g))) (fun _ => by kernel_rfl) hW (e_vget Ar13_34 cr13_34 (clkE l (((i : Nat) : Int))) (y26.g) w70 (rowR_at ((hW).get 0 rfl) elt_U8.len) (own_cap ((hW).get 0 rfl)) (Nat.le_trans (clkE_len hok _).1 (by omega))) ?_)); clear hA ac hW; intro w79 hW hfw79 ac hA
                   refine qn ?_
                   refine sr_one (i := 43) (by kernel_rfl) (sr_d rfl hA (Runs.callRow (E := 51) (sz := 1) (en := enU8) (l := (clkE l (((j : Nat) : Int)))) (fun _ => by kernel_rfl) hW (e_oclock n6 n7 n8 l n9 n10 n11 n12 n13 n14 n15 (((j : Nat) : Int)) w79 ((hW).get 1 rfl) ((hW).lt _ (List.mem_of_getElem? (i := 1) rfl)) hok ⟨by omega, by omega⟩) ?_)); clear hA ac hW; intro Ar13_43 cr13_43 w80 hW hccr13_43 hfw80 ac hA
                   refine qn ?_
                   refine sr_one (i := 49) (by kernel_rfl) (sr_d rfl hA (Runs.callN (v := Value.int .u64 (getC (clkE l (((j : Nat) : Int))) (y26.g))) (fun _ => by kernel_rfl) hW (e_vget Ar13_43 cr13_43 (clkE l (((j : Nat) : Int))) (y26.g) w80 (rowR_at ((hW).get 0 rfl) elt_U8.len) (own_cap ((hW).get 0 rfl)) (Nat.le_trans (clkE_len hok _).1 (by omega))) ?_)); clear hA ac hW; intro w81 hW hfw81 ac hA
                   refine qn ?_
                   refine sr_p 50 (Value.bool (decide ((getC (clkE l (((i : Nat) : Int))) (y26.g) : Int) ≤ (getC (clkE l (((j : Nat) : Int))) (y26.g) : Int)))) hR rfl hA fun ac hA => sr_p 51 (Value.bool (!(true == (decide ((getC (clkE l (((i : Nat) : Int))) (y26.g) : Int) ≤ (getC (clkE l (((j : Nat) : Int))) (y26.g) : Int)))))) hR rfl hA fun ac hA => sr_p 52 (Value.bool (!(true == (decide ((getC (clkE l (((i : Nat) : Int))) (y26.g) : Int) ≤ (getC (clkE l (((j : Nat) : Int))) (y26.g) : Int)))))) hR rfl hA fun ac hA => sr_p 53 (Value.bool (!(true == (decide ((getC (clkE l (((i : Nat) : Int))) (y26.g) : Int) ≤ (getC (clkE l (((j : Nat) : Int))) (y26.g) : Int)))))) hR rfl hA fun ac hA => ?_
                   refine sr_done (by kernel_rfl) ?_ _
                   exact ⟨Ar13_34, Ar13_43, cr13_34, cr13_43, hA.sub (by and_intros <;> first | kernel_rfl | trivial), (hW.pick [0, 1, 2] (by decide) rfl).pickG [0] rfl⟩
                 ·
                  refine (sr_d rfl hA (Runs.ofRd (v := Value.int .i64 y26.g) (C' := Ws w No [OrdR n6 n7 n8 l n9 n10 n11 n12 n13 n14 n15] [roR (some ⟨b27, o28, none⟩) 9 enEvent l]) hW (Rd.loadRow (b := b27) (i := o28 + i * 9) (xs := [Value.int .i64 y26.g]) (by kernel_rfl) (fun _ hw => row_ld ((hw).getG 0 rfl) hy26 (Fr.refl No _) (fun h => h) 0 1 (by kernel_rfl)) (by kernel_rfl)) ?_)); clear hA ac; intro  ac hA
                  refine qn ?_
                  refine sr_two (i := 34) (j := 48) (by kernel_rfl) ?_ ?_
                  ·
                   refine (sr_d rfl hA (Runs.callRow (E := 51) (sz := 1) (en := enU8) (l := (clkE l (((i : Nat) : Int)))) (fun _ => by kernel_rfl) hW (e_oclock n6 n7 n8 l n9 n10 n11 n12 n13 n14 n15 (((i : Nat) : Int)) w69 ((hW).get 0 rfl) ((hW).lt _ (List.mem_of_getElem? (i := 0) rfl)) hok ⟨by omega, by omega⟩) ?_)); clear hA ac hW; intro Ar13_34 cr13_34 w82 hW hccr13_34 hfw82 ac hA
                   refine qn ?_
                   refine sr_two (i := 40) (j := 48) (by kernel_rfl) ?_ ?_
                   ·
                    refine (sr_d rfl hA (Runs.callN (v := Value.int .u64 (getC (clkE l (((i : Nat) : Int))) (y26.g))) (fun _ => by kernel_rfl) hW (e_vget Ar13_34 cr13_34 (clkE l (((i : Nat) : Int))) (y26.g) w82 (rowR_at ((hW).get 0 rfl) elt_U8.len) (own_cap ((hW).get 0 rfl)) (Nat.le_trans (clkE_len hok _).1 (by omega))) ?_)); clear hA ac hW; intro w83 hW hfw83 ac hA
                    refine qn ?_
                    refine sr_two (i := 43) (j := 48) (by kernel_rfl) ?_ ?_
                    ·
                     refine (sr_d rfl hA (Runs.callRow (E := 51) (sz := 1) (en := enU8) (l := (clkE l (((j : Nat) : Int)))) (fun _ => by kernel_rfl) hW (e_oclock n6 n7 n8 l n9 n10 n11 n12 n13 n14 n15 (((j : Nat) : Int)) w83 ((hW).get 1 rfl) ((hW).lt _ (List.mem_of_getElem? (i := 1) rfl)) hok ⟨by omega, by omega⟩) ?_)); clear hA ac hW; intro Ar13_43 cr13_43 w84 hW hccr13_43 hfw84 ac hA
                     refine qn ?_
                     refine sr_one (i := 48) (by kernel_rfl) (sr_d rfl hA (Runs.ofRd (v := Value.int .i64 y26.g) (C' := Ws w No [rowR 51 1 enU8 (Value.slice Ar13_43 (clkE l (((j : Nat) : Int))).length cr13_43) (clkE l (((j : Nat) : Int))), rowR 51 1 enU8 (Value.slice Ar13_34 (clkE l (((i : Nat) : Int))).length cr13_34) (clkE l (((i : Nat) : Int))), OrdR n6 n7 n8 l n9 n10 n11 n12 n13 n14 n15] [roR (some ⟨b27, o28, none⟩) 9 enEvent l]) hW (Rd.loadRow (b := b27) (i := o28 + i * 9) (xs := [Value.int .i64 y26.g]) (by kernel_rfl) (fun _ hw => row_ld ((hw).getG 0 rfl) hy26 (Fr.refl No _) (fun h => h) 0 1 (by kernel_rfl)) (by kernel_rfl)) ?_)); clear hA ac; intro  ac hA
                     refine qn ?_
                     refine sr_one (i := 49) (by kernel_rfl) (sr_d rfl hA (Runs.callN (v := Value.int .u64 (getC (clkE l (((j : Nat) : Int))) (y26.g))) (fun _ => by kernel_rfl) hW (e_vget Ar13_43 cr13_43 (clkE l (((j : Nat) : Int))) (y26.g) w84 (rowR_at ((hW).get 0 rfl) elt_U8.len) (own_cap ((hW).get 0 rfl)) (Nat.le_trans (clkE_len hok _).1 (by omega))) ?_)); clear hA ac hW; intro w85 hW hfw85 ac hA
                     refine qn ?_
                     refine sr_p 50 (Value.bool (decide ((getC (clkE l (((i : Nat) : Int))) (y26.g) : Int) ≤ (getC (clkE l (((j : Nat) : Int))) (y26.g) : Int)))) hR rfl hA fun ac hA => sr_p 51 (Value.bool (!(true == (decide ((getC (clkE l (((i : Nat) : Int))) (y26.g) : Int) ≤ (getC (clkE l (((j : Nat) : Int))) (y26.g) : Int)))))) hR rfl hA fun ac hA => sr_p 52 (Value.bool (!(true == (decide ((getC (clkE l (((i : Nat) : Int))) (y26.g) : Int) ≤ (getC (clkE l (((j : Nat) : Int))) (y26.g) : Int)))))) hR rfl hA fun ac hA => sr_p 53 (Value.bool (!(true == (decide ((getC (clkE l (((i : Nat) : Int))) (y26.g) : Int) ≤ (getC (clkE l (((j : Nat) : Int))) (y26.g) : Int)))))) hR rfl hA fun ac hA => ?_
                     refine sr_done (by kernel_rfl) ?_ _
                     exact ⟨Ar13_34, Ar13_43, cr13_34, cr13_43, hA.sub (by and_intros <;> first | kernel_rfl | trivial), (hW.pick [0, 1, 2] (by decide) rfl).pickG [0] rfl⟩
                    ·
                     refine (sr_d rfl hA (Runs.ofRd (v := Value.int .i64 y26.g) (C' := Ws w No [rowR 51 1 enU8 (Value.slice Ar13_34 (clkE l (((i : Nat) : Int))).length cr13_34) (clkE l (((i : Nat) : Int))), OrdR n6 n7 n8 l n9 n10 n11 n12 n13 n14 n15] [roR (some ⟨b27, o28, none⟩) 9 enEvent l]) hW (Rd.loadRow (b := b27) (i := o28 + i * 9) (xs := [Value.int .i64 y26.g]) (by kernel_rfl) (fun _ hw => row_ld ((hw).getG 0 rfl) hy26 (Fr.refl No _) (fun h => h) 0 1 (by kernel_rfl)) (by kernel_rfl)) ?_)); clear hA ac; intro  ac hA
                     refine qn ?_
                     refine sr_one (i := 43) (by kernel_rfl) (sr_d rfl hA (Runs.callRow (E := 51) (sz := 1) (en := enU8) (l := (clkE l (((j : Nat) : Int)))) (fun _ => by kernel_rfl) hW (e_oclock n6 n7 n8 l n9 n10 n11 n12 n13 n14 n15 (((j : Nat) : Int)) w83 ((hW).get 1 rfl) ((hW).lt _ (List.mem_of_getElem? (i := 1) rfl)) hok ⟨by omega, by omega⟩) ?_)); clear hA ac hW; intro Ar13_43 cr13_43 w86 hW hccr13_43 hfw86 ac hA
                     refine qn ?_
                     refine sr_one (i := 49) (by kernel_rfl) (sr_d rfl hA (Runs.callN (v := Value.int .u64 (getC (clkE l (((j : Nat) : Int))) (y26.g))) (fun _ => by kernel_rfl) hW (e_vget Ar13_43 cr13_43 (clkE l (((j : Nat) : Int))) (y26.g) w86 (rowR_at ((hW).get 0 rfl) elt_U8.len) (own_cap ((hW).get 0 rfl)) (Nat.le_trans (clkE_len hok _).1 (by omega))) ?_)); clear hA ac hW; intro w87 hW hfw87 ac hA
                     refine qn ?_
                     refine sr_p 50 (Value.bool (decide ((getC (clkE l (((i : Nat) : Int))) (y26.g) : Int) ≤ (getC (clkE l (((j : Nat) : Int))) (y26.g) : Int)))) hR rfl hA fun ac hA => sr_p 51 (Value.bool (!(true == (decide ((getC (clkE l (((i : Nat) : Int))) (y26.g) : Int) ≤ (getC (clkE l (((j : Nat) : Int))) (y26.g) : Int)))))) hR rfl hA fun ac hA => sr_p 52 (Value.bool (!(true == (decide ((getC (clkE l (((i : Nat) : Int))) (y26.g) : Int) ≤ (getC (clkE l (((j : Nat) : Int))) (y26.g) : Int)))))) hR rfl hA fun ac hA => sr_p 53 (Value.bool (!(true == (decide ((getC (clkE l (((i : Nat) : Int))) (y26.g) : Int) ≤ (getC (clkE l (((j : Nat) : Int))) (y26.g) : Int)))))) hR rfl hA fun ac hA => ?_
                     refine sr_done (by kernel_rfl) ?_ _
                     exact ⟨Ar13_34, Ar13_43, cr13_34, cr13_43, hA.sub (by and_intros <;> first | kernel_rfl | trivial), (hW.pick [0, 1, 2] (by decide) rfl).pickG [0] rfl⟩
                   ·
                    refine (sr_d rfl hA (Runs.ofRd (v := Value.int .i64 y26.g) (C' := Ws w No [rowR 51 1 enU8 (Value.slice Ar13_34 (clkE l (((i : Nat) : Int))).length cr13_34) (clkE l (((i : Nat) : Int))), OrdR n6 n7 n8 l n9 n10 n11 n12 n13 n14 n15] [roR (some ⟨b27, o28, none⟩) 9 enEvent l]) hW (Rd.loadRow (b := b27) (i := o28 + i * 9) (xs := [Value.int .i64 y26.g]) (by kernel_rfl) (fun _ hw => row_ld ((hw).getG 0 rfl) hy26 (Fr.refl No _) (fun h => h) 0 1 (by kernel_rfl)) (by kernel_rfl)) ?_)); clear hA ac; intro  ac hA
                    refine qn ?_
                    refine sr_one (i := 40) (by kernel_rfl) (sr_d rfl hA (Runs.callN (v := Value.int .u64 (getC (clkE l (((i : Nat) : Int))) (y26.g))) (fun _ => by kernel_rfl) hW (e_vget Ar13_34 cr13_34 (clkE l (((i : Nat) : Int))) (y26.g) w82 (rowR_at ((hW).get 0 rfl) elt_U8.len) (own_cap ((hW).get 0 rfl)) (Nat.le_trans (clkE_len hok _).1 (by omega))) ?_)); clear hA ac hW; intro w88 hW hfw88 ac hA
                    refine qn ?_
                    refine sr_one (i := 43) (by kernel_rfl) (sr_d rfl hA (Runs.callRow (E := 51) (sz := 1) (en := enU8) (l := (clkE l (((j : Nat) : Int)))) (fun _ => by kernel_rfl) hW (e_oclock n6 n7 n8 l n9 n10 n11 n12 n13 n14 n15 (((j : Nat) : Int)) w88 ((hW).get 1 rfl) ((hW).lt _ (List.mem_of_getElem? (i := 1) rfl)) hok ⟨by omega, by omega⟩) ?_)); clear hA ac hW; intro Ar13_43 cr13_43 w89 hW hccr13_43 hfw89 ac hA
                    refine qn ?_
                    refine sr_one (i := 49) (by kernel_rfl) (sr_d rfl hA (Runs.callN (v := Value.int .u64 (getC (clkE l (((j : Nat) : Int))) (y26.g))) (fun _ => by kernel_rfl) hW (e_vget Ar13_43 cr13_43 (clkE l (((j : Nat) : Int))) (y26.g) w89 (rowR_at ((hW).get 0 rfl) elt_U8.len) (own_cap ((hW).get 0 rfl)) (Nat.le_trans (clkE_len hok _).1 (by omega))) ?_)); clear hA ac hW; intro w90 hW hfw90 ac hA
                    refine qn ?_
                    refine sr_p 50 (Value.bool (decide ((getC (clkE l (((i : Nat) : Int))) (y26.g) : Int) ≤ (getC (clkE l (((j : Nat) : Int))) (y26.g) : Int)))) hR rfl hA fun ac hA => sr_p 51 (Value.bool (!(true == (decide ((getC (clkE l (((i : Nat) : Int))) (y26.g) : Int) ≤ (getC (clkE l (((j : Nat) : Int))) (y26.g) : Int)))))) hR rfl hA fun ac hA => sr_p 52 (Value.bool (!(true == (decide ((getC (clkE l (((i : Nat) : Int))) (y26.g) : Int) ≤ (getC (clkE l (((j : Nat) : Int))) (y26.g) : Int)))))) hR rfl hA fun ac hA => sr_p 53 (Value.bool (!(true == (decide ((getC (clkE l (((i : Nat) : Int))) (y26.g) : Int) ≤ (getC (clkE l (((j : Nat) : Int))) (y26.g) : Int)))))) hR rfl hA fun ac hA => ?_
                    refine sr_done (by kernel_rfl) ?_ _
                    exact ⟨Ar13_34, Ar13_43, cr13_34, cr13_43, hA.sub (by and_intros <;> first | kernel_rfl | trivial), (hW.pick [0, 1, 2] (by decide) rfl).pickG [0] rfl⟩
                  ·
                   refine (sr_d rfl hA (Runs.ofRd (v := Value.int .i64 y26.g) (C' := Ws w No [OrdR n6 n7 n8 l n9 n10 n11 n12 n13 n14 n15] [roR (some ⟨b27, o28, none⟩) 9 enEvent l]) hW (Rd.loadRow (b := b27) (i := o28 + i * 9) (xs := [Value.int .i64 y26.g]) (by kernel_rfl) (fun _ hw => row_ld ((hw).getG 0 rfl) hy26 (Fr.refl No _) (fun h => h) 0 1 (by kernel_rfl)) (by kernel_rfl)) ?_)); clear hA ac; intro  ac hA
                   refine qn ?_
                   refine sr_one (i := 34) (by kernel_rfl) (sr_d rfl hA (Runs.callRow (E := 51) (sz := 1) (en := enU8) (l := (clkE l (((i : Nat) : Int)))) (fun _ => by kernel_rfl) hW (e_oclock n6 n7 n8 l n9 n10 n11 n12 n13 n14 n15 (((i : Nat) : Int)) w69 ((hW).get 0 rfl) ((hW).lt _ (List.mem_of_getElem? (i := 0) rfl)) hok ⟨by omega, by omega⟩) ?_)); clear hA ac hW; intro Ar13_34 cr13_34 w91 hW hccr13_34 hfw91 ac hA
                   refine qn ?_
                   refine sr_one (i := 40) (by kernel_rfl) (sr_d rfl hA (Runs.callN (v := Value.int .u64 (getC (clkE l (((i : Nat) : Int))) (y26.g))) (fun _ => by kernel_rfl) hW (e_vget Ar13_34 cr13_34 (clkE l (((i : Nat) : Int))) (y26.g) w91 (rowR_at ((hW).get 0 rfl) elt_U8.len) (own_cap ((hW).get 0 rfl)) (Nat.le_trans (clkE_len hok _).1 (by omega))) ?_)); clear hA ac hW; intro w92 hW hfw92 ac hA
                   refine qn ?_
                   refine sr_one (i := 43) (by kernel_rfl) (sr_d rfl hA (Runs.callRow (E := 51) (sz := 1) (en := enU8) (l := (clkE l (((j : Nat) : Int)))) (fun _ => by kernel_rfl) hW (e_oclock n6 n7 n8 l n9 n10 n11 n12 n13 n14 n15 (((j : Nat) : Int)) w92 ((hW).get 1 rfl) ((hW).lt _ (List.mem_of_getElem? (i := 1) rfl)) hok ⟨by omega, by omega⟩) ?_)); clear hA ac hW; intro Ar13_43 cr13_43 w93 hW hccr13_43 hfw93 ac hA
                   refine qn ?_
                   refine sr_one (i := 49) (by kernel_rfl) (sr_d rfl hA (Runs.callN (v := Value.int .u64 (getC (clkE l (((j : Nat) : Int))) (y26.g))) (fun _ => by kernel_rfl) hW (e_vget Ar13_43 cr13_43 (clkE l (((j : Nat) : Int))) (y26.g) w93 (rowR_at ((hW).get 0 rfl) elt_U8.len) (own_cap ((hW).get 0 rfl)) (Nat.le_trans (clkE_len hok _).1 (by omega))) ?_)); clear hA ac hW; intro w94 hW hfw94 ac hA
                   refine qn ?_
                   refine sr_p 50 (Value.bool (decide ((getC (clkE l (((i : Nat) : Int))) (y26.g) : Int) ≤ (getC (clkE l (((j : Nat) : Int))) (y26.g) : Int)))) hR rfl hA fun ac hA => sr_p 51 (Value.bool (!(true == (decide ((getC (clkE l (((i : Nat) : Int))) (y26.g) : Int) ≤ (getC (clkE l (((j : Nat) : Int))) (y26.g) : Int)))))) hR rfl hA fun ac hA => sr_p 52 (Value.bool (!(true == (decide ((getC (clkE l (((i : Nat) : Int))) (y26.g) : Int) ≤ (getC (clkE l (((j : Nat) : Int))) (y26.g) : Int)))))) hR rfl hA fun ac hA => sr_p 53 (Value.bool (!(true == (decide ((getC (clkE l (((i : Nat) : Int))) (y26.g) : Int) ≤ (getC (clkE l (((j : Nat) : Int))) (y26.g) : Int)))))) hR rfl hA fun ac hA => ?_
                   refine sr_done (by kernel_rfl) ?_ _
                   exact ⟨Ar13_34, Ar13_43, cr13_34, cr13_43, hA.sub (by and_intros <;> first | kernel_rfl | trivial), (hW.pick [0, 1, 2] (by decide) rfl).pickG [0] rfl⟩
                 ·
                  refine (sr_d rfl hA (Runs.ofRd (v := Value.int .i64 y26.g) (C' := Ws w No [OrdR n6 n7 n8 l n9 n10 n11 n12 n13 n14 n15] [roR (some ⟨b27, o28, none⟩) 9 enEvent l]) hW (Rd.loadRow (b := b27) (i := o28 + i * 9) (xs := [Value.int .i64 y26.g]) (by kernel_rfl) (fun _ hw => row_ld ((hw).getG 0 rfl) hy26 (Fr.refl No _) (fun h => h) 0 1 (by kernel_rfl)) (by kernel_rfl)) ?_)); clear hA ac; intro  ac hA
                  refine qn ?_
                  refine sr_two (i := 34) (j := 39) (by kernel_rfl) ?_ ?_
                  ·
                   refine (sr_d rfl hA (Runs.callRow (E := 51) (sz := 1) (en := enU8) (l := (clkE l (((i : Nat) : Int)))) (fun _ => by kernel_rfl) hW (e_oclock n6 n7 n8 l n9 n10 n11 n12 n13 n14 n15 (((i : Nat) : Int)) w69 ((hW).get 0 rfl) ((hW).lt _ (List.mem_of_getElem? (i := 0) rfl)) hok ⟨by omega, by omega⟩) ?_)); clear hA ac hW; intro Ar13_34 cr13_34 w95 hW hccr13_34 hfw95 ac hA
                   refine qn ?_
                   refine sr_one (i := 39) (by kernel_rfl) (sr_d rfl hA (Runs.ofRd (v := Value.int .i64 y26.g) (C' := Ws w No [rowR 51 1 enU8 (Value.slice Ar13_34 (clkE l (((i : Nat) : Int))).length cr13_34) (clkE l (((i : Nat) : Int))), OrdR n6 n7 n8 l n9 n10 n11 n12 n13 n14 n15] [roR (some ⟨b27, o28, none⟩) 9 enEvent l]) hW (Rd.loadRow (b := b27) (i := o28 + i * 9) (xs := [Value.int .i64 y26.g]) (by kernel_rfl) (fun _ hw => row_ld ((hw).getG 0 rfl) hy26 (Fr.refl No _) (fun h => h) 0 1 (by kernel_rfl)) (by kernel_rfl)) ?_)); clear hA ac; intro  ac hA
                   refine qn ?_
                   refine sr_one (i := 40) (by kernel_rfl) (sr_d rfl hA (Runs.callN (v := Value.int .u64 (getC (clkE l (((i : Nat) : Int))) (y26.g))) (fun _ => by kernel_rfl) hW (e_vget Ar13_34 cr13_34 (clkE l (((i : Nat) : Int))) (y26.g) w95 (rowR_at ((hW).get 0 rfl) elt_U8.len) (own_cap ((hW).get 0 rfl)) (Nat.le_trans (clkE_len hok _).1 (by omega))) ?_)); clear hA ac hW; intro w96 hW hfw96 ac hA
                   refine qn ?_
                   refine sr_one (i := 43) (by kernel_rfl) (sr_d rfl hA (Runs.callRow (E := 51) (sz := 1) (en := enU8) (l := (clkE l (((j : Nat) : Int)))) (fun _ => by kernel_rfl) hW (e_oclock n6 n7 n8 l n9 n10 n11 n12 n13 n14 n15 (((j : Nat) : Int)) w96 ((hW).get 1 rfl) ((hW).lt _ (List.mem_of_getElem? (i := 1) rfl)) hok ⟨by omega, by omega⟩) ?_)); clear hA ac hW; intro Ar13_43 cr13_43 w97 hW hccr13_43 hfw97 ac hA
                   refine qn ?_
                   refine sr_one (i := 49) (by kernel_rfl) (sr_d rfl hA (Runs.callN (v := Value.int .u64 (getC (clkE l (((j : Nat) : Int))) (y26.g))) (fun _ => by kernel_rfl) hW (e_vget Ar13_43 cr13_43 (clkE l (((j : Nat) : Int))) (y26.g) w97 (rowR_at ((hW).get 0 rfl) elt_U8.len) (own_cap ((hW).get 0 rfl)) (Nat.le_trans (clkE_len hok _).1 (by omega))) ?_)); clear hA ac hW; intro w98 hW hfw98 ac hA
                   refine qn ?_
                   refine sr_p 50 (Value.bool (decide ((getC (clkE l (((i : Nat) : Int))) (y26.g) : Int) ≤ (getC (clkE l (((j : Nat) : Int))) (y26.g) : Int)))) hR rfl hA fun ac hA => sr_p 51 (Value.bool (!(true == (decide ((getC (clkE l (((i : Nat) : Int))) (y26.g) : Int) ≤ (getC (clkE l (((j : Nat) : Int))) (y26.g) : Int)))))) hR rfl hA fun ac hA => sr_p 52 (Value.bool (!(true == (decide ((getC (clkE l (((i : Nat) : Int))) (y26.g) : Int) ≤ (getC (clkE l (((j : Nat) : Int))) (y26.g) : Int)))))) hR rfl hA fun ac hA => sr_p 53 (Value.bool (!(true == (decide ((getC (clkE l (((i : Nat) : Int))) (y26.g) : Int) ≤ (getC (clkE l (((j : Nat) : Int))) (y26.g) : Int)))))) hR rfl hA fun ac hA => ?_
                   refine sr_done (by kernel_rfl) ?_ _
                   exact ⟨Ar13_34, Ar13_43, cr13_34, cr13_43, hA.sub (by and_intros <;> first | kernel_rfl | trivial), (hW.pick [0, 1, 2] (by decide) rfl).pickG [0] rfl⟩
                  ·
                   refine (sr_d rfl hA (Runs.ofRd (v := Value.int .i64 y26.g) (C' := Ws w No [OrdR n6 n7 n8 l n9 n10 n11 n12 n13 n14 n15] [roR (some ⟨b27, o28, none⟩) 9 enEvent l]) hW (Rd.loadRow (b := b27) (i := o28 + i * 9) (xs := [Value.int .i64 y26.g]) (by kernel_rfl) (fun _ hw => row_ld ((hw).getG 0 rfl) hy26 (Fr.refl No _) (fun h => h) 0 1 (by kernel_rfl)) (by kernel_rfl)) ?_)); clear hA ac; intro  ac hA
                   refine qn ?_
                   refine sr_one (i := 34) (by kernel_rfl) (sr_d rfl hA (Runs.callRow (E := 51) (sz := 1) (en := enU8) (l := (clkE l (((i : Nat) : Int)))) (fun _ => by kernel_rfl) hW (e_oclock n6 n7 n8 l n9 n10 n11 n12 n13 n14 n15 (((i : Nat) : Int)) w69 ((hW).get 0 rfl) ((hW).lt _ (List.mem_of_getElem? (i := 0) rfl)) hok ⟨by omega, by omega⟩) ?_)); clear hA ac hW; intro Ar13_34 cr13_34 w99 hW hccr13_34 hfw99 ac hA
                   refine qn ?_
                   refine sr_one (i := 40) (by kernel_rfl) (sr_d rfl hA (Runs.callN (v := Value.int .u64 (getC (clkE l (((i : Nat) : Int))) (y26.g))) (fun _ => by kernel_rfl) hW (e_vget Ar13_34 cr13_34 (clkE l (((i : Nat) : Int))) (y26.g) w99 (rowR_at ((hW).get 0 rfl) elt_U8.len) (own_cap ((hW).get 0 rfl)) (Nat.le_trans (clkE_len hok _).1 (by omega))) ?_)); clear hA ac hW; intro w100 hW hfw100 ac hA
                   refine qn ?_
                   refine sr_one (i := 43) (by kernel_rfl) (sr_d rfl hA (Runs.callRow (E := 51) (sz := 1) (en := enU8) (l := (clkE l (((j : Nat) : Int)))) (fun _ => by kernel_rfl) hW (e_oclock n6 n7 n8 l n9 n10 n11 n12 n13 n14 n15 (((j : Nat) : Int)) w100 ((hW).get 1 rfl) ((hW).lt _ (List.mem_of_getElem? (i := 1) rfl)) hok ⟨by omega, by omega⟩) ?_)); clear hA ac hW; intro Ar13_43 cr13_43 w101 hW hccr13_43 hfw101 ac hA
                   refine qn ?_
                   refine sr_one (i := 49) (by kernel_rfl) (sr_d rfl hA (Runs.callN (v := Value.int .u64 (getC (clkE l (((j : Nat) : Int))) (y26.g))) (fun _ => by kernel_rfl) hW (e_vget Ar13_43 cr13_43 (clkE l (((j : Nat) : Int))) (y26.g) w101 (rowR_at ((hW).get 0 rfl) elt_U8.len) (own_cap ((hW).get 0 rfl)) (Nat.le_trans (clkE_len hok _).1 (by omega))) ?_)); clear hA ac hW; intro w102 hW hfw102 ac hA
                   refine qn ?_
                   refine sr_p 50 (Value.bool (decide ((getC (clkE l (((i : Nat) : Int))) (y26.g) : Int) ≤ (getC (clkE l (((j : Nat) : Int))) (y26.g) : Int)))) hR rfl hA fun ac hA => sr_p 51 (Value.bool (!(true == (decide ((getC (clkE l (((i : Nat) : Int))) (y26.g) : Int) ≤ (getC (clkE l (((j : Nat) : Int))) (y26.g) : Int)))))) hR rfl hA fun ac hA => sr_p 52 (Value.bool (!(true == (decide ((getC (clkE l (((i : Nat) : Int))) (y26.g) : Int) ≤ (getC (clkE l (((j : Nat) : Int))) (y26.g) : Int)))))) hR rfl hA fun ac hA => sr_p 53 (Value.bool (!(true == (decide ((getC (clkE l (((i : Nat) : Int))) (y26.g) : Int) ≤ (getC (clkE l (((j : Nat) : Int))) (y26.g) : Int)))))) hR rfl hA fun ac hA => ?_
                   refine sr_done (by kernel_rfl) ?_ _
                   exact ⟨Ar13_34, Ar13_43, cr13_34, cr13_43, hA.sub (by and_intros <;> first | kernel_rfl | trivial), (hW.pick [0, 1, 2] (by decide) rfl).pickG [0] rfl⟩
               clear hA ac hW; rintro ac w103 ⟨Ar13_34, Ar13_43, cr13_34, cr13_43, hA, hW⟩
               refine thenN ?_
               refine wp_cond_split (t := !(true == (decide ((getC (clkE l (((i : Nat) : Int))) (y26.g) : Int) ≤ (getC (clkE l (((j : Nat) : Int))) (y26.g) : Int))))) (hA.eval (by kernel_rfl)) (fun h104 => ?_) (fun h104 => ?_)
               ·
                have h104 := bbne_t h104
                first
                | (exfalso; clear hA hW; omega)
                | (exfalso; clear hA hW; exact h104 (by rw [← bef_clk hy26 (by omega) (by omega)]; exact h24.symm); done)
                | (exfalso; clear hA hW; rw [← bef_clk hy26 (by omega) (by omega), h24] at h104; cases h104; done)
                | (exfalso; clear hA hW; exact absurd (bef_leads hev (by omega) hy26 hy29 (of_decide_eq_true h30)) (by rw [h24]; decide); done)
                | (exfalso; clear hA hW; have q_ := bef_rng h24; omega; done)
                | (
                 refine wp_seq ?_
                 refine wp_region_lit ?_
                 refine st_p (Value.bool false) hA ?_; clear hA ac; intro ac hA
                 refine wpList_nil ?_
                 refine thenN ?_
                 refine wp_ret ?_
                 refine cutR ?_
                 refine thenR ?_
                 refine blkR ?_
                 refine thenR ?_
                 refine thenR ?_
                 refine blkR ?_
                 refine blkR ?_
                 refine thenR ?_
                 refine thenR ?_
                 refine blkR ?_
                 refine thenR ?_
                 refine ret1 (v := Value.bool false) (by rfl) hA (Got.tmp hA (by kernel_rfl) (by kernel_rfl)) ?_
                 clear hA
                 exact ⟨retv (by rfl), hW.fr⟩)
               have h104 := bbne_f h104
               first
               | (exfalso; clear hA hW; omega)
               | (exfalso; clear hA hW; exact h104 (by rw [← bef_clk hy26 (by omega) (by omega)]; exact h24.symm); done)
               | (exfalso; clear hA hW; rw [← bef_clk hy26 (by omega) (by omega), h24] at h104; cases h104; done)
               | (exfalso; clear hA hW; exact absurd (bef_leads hev (by omega) hy26 hy29 (of_decide_eq_true h30)) (by rw [h24]; decide); done)
               | (exfalso; clear hA hW; have q_ := bef_rng h24; omega; done)
               | (
                refine wp_skip ?_
                refine cutN ?_
                exact ⟨true, by exact h24.symm, hA.sub (by and_intros <;> first | kernel_rfl | trivial), (hW.pick [2] (by decide) rfl).pickG [0] rfl⟩)))
            have h25 := of_decide_eq_false h25
            first
            | (exfalso; clear hA hW; omega)
            | (exfalso; clear hA hW; have q_ := bef_rng h24; omega; done)
            | (
             refine wp_cut (fun ac_ wl_ => Fm 141 [] [(0, Value.slice A_l l.length c_l), (3, Value.pointer (some ⟨n6, 0, none⟩)), (5, Value.int .i64 ((j : Nat) : Int)), (6, Value.int .i64 ((i : Nat) : Int)), (7, Value.bool true), (29, Value.int .i64 ((i : Nat) : Int)), (30, Value.slice A_l l.length c_l), (31, Value.int .i64 ((l.length : Nat) : Int)), (32, Value.bool (decide ((((i : Nat) : Int) : Int) < (((l.length : Nat) : Int) : Int)))), (35, Value.pointer (some ⟨n6, 0, none⟩)), (36, Value.int .i64 ((i : Nat) : Int)), (37, Value.int .i64 ((j : Nat) : Int)), (38, Value.bool true), (92, Value.bool true)] ac_ ∧ Ws w No [OrdR n6 n7 n8 l n9 n10 n11 n12 n13 n14 n15] [roR A_l 9 enEvent l] wl_) ?_ ?_
             · refine sr_region (m := 54) (C := Ws w No [OrdR n6 n7 n8 l n9 n10 n11 n12 n13 n14 n15] [roR A_l 9 enEvent l]) (fun i => [14, 18].contains i) (fun i => [14, 18].contains i) (fun i => [0, 1, 2, 3, 4, 5, 6, 7, 8, 9, 10, 11, 12, 13, 15, 16, 17, 20, 21, 22, 23, 24, 25, 26, 27, 28, 29, 30, 31, 32, 33, 35, 36, 37, 38, 41, 42, 44, 45, 46, 47, 50, 51, 52, 53].contains i) (by kernel_rfl) (by kernel_rfl) (by kernel_rfl) (by kernel_rfl) hW ?_; clear hW; intro w105 hW hfw105 hR; have hC : Ws w No [OrdR n6 n7 n8 l n9 n10 n11 n12 n13 n14 n15] [roR A_l 9 enEvent l] w105 := hW.pick [0] (by decide) rfl
               refine sr_p 0 (Value.bool (befE l (((i : Nat) : Int)) (((j : Nat) : Int)))) hR rfl hA fun ac hA => sr_p 1 (Value.bool (befE l (((i : Nat) : Int)) (((j : Nat) : Int)))) hR rfl hA fun ac hA => ?_
               rw [show (befE l (((i : Nat) : Int)) (((j : Nat) : Int))) = true from h24] at hA
               refine sr_p 2 (Value.int .i64 ((i : Nat) : Int)) hR rfl hA fun ac hA => sr_p 3 (Value.int .i64 ((j : Nat) : Int)) hR rfl hA fun ac hA => sr_p 4 (Value.bool (decide ((((i : Nat) : Int) : Int) ≥ (((j : Nat) : Int) : Int)))) hR rfl hA fun ac hA => sr_p 5 (Value.bool (decide ((((i : Nat) : Int) : Int) ≥ (((j : Nat) : Int) : Int)))) hR rfl hA fun ac hA => sr_p 6 (Value.bool (decide ((((i : Nat) : Int) : Int) ≥ (((j : Nat) : Int) : Int)))) hR rfl hA fun ac hA => ?_
               rw [show (decide ((((i : Nat) : Int) : Int) ≥ (((j : Nat) : Int) : Int))) = true from decide_eq_true (by omega)] at hA
               refine sr_s 7 hR rfl hA fun ac hA => sr_s 8 hR rfl hA fun ac hA => sr_s 9 hR rfl hA fun ac hA => sr_s 10 hR rfl hA fun ac hA => sr_s 11 hR rfl hA fun ac hA => sr_s 12 hR rfl hA fun ac hA => sr_s 13 hR rfl hA fun ac hA => sr_skip (i := 14) hR (by kernel_rfl) rfl (by kernel_rfl) (by kernel_rfl) (by kernel_rfl) (fun _ _ _ h => h.elim) hA (by kernel_rfl) (by kernel_rfl) hC fun ac hA => sr_s 15 hR rfl hA fun ac hA => sr_s 16 hR rfl hA fun ac hA => sr_s 17 hR rfl hA fun ac hA => sr_skip (i := 18) hR (by kernel_rfl) rfl (by kernel_rfl) (by kernel_rfl) (by kernel_rfl) (fun _ _ _ h => h.elim) hA (by kernel_rfl) (by kernel_rfl) hC fun ac hA => ?_
               refine sr_one (i := 19) (by kernel_rfl) (sr_z rfl hA ?_); clear hA ac; intro ac hA
               refine qn ?_
               refine sr_s 20 hR rfl hA fun ac hA => sr_s 21 hR rfl hA fun ac hA => sr_s 22 hR rfl hA fun ac hA => sr_s 23 hR rfl hA fun ac hA => sr_s 24 hR rfl hA fun ac hA => sr_p 25 (Value.bool true) hR rfl hA fun ac hA => sr_p 26 (Value.bool true) hR rfl hA fun ac hA => sr_s 27 hR rfl hA fun ac hA => sr_s 28 hR rfl hA fun ac hA => sr_s 29 hR rfl hA fun ac hA => sr_s 30 hR rfl hA fun ac hA => sr_s 31 hR rfl hA fun ac hA => sr_s 32 hR rfl hA fun ac hA => sr_s 33 hR rfl hA fun ac hA => sr_s 35 hR rfl hA fun ac hA => sr_s 36 hR rfl hA fun ac hA => sr_s 37 hR rfl hA fun ac hA => sr_s 38 hR rfl hA fun ac hA => sr_s 41 hR rfl hA fun ac hA => sr_s 42 hR rfl hA fun ac hA => sr_s 44 hR rfl hA fun ac hA => sr_s 45 hR rfl hA fun ac hA => sr_s 46 hR rfl hA fun ac hA => sr_s 47 hR rfl hA fun ac hA => ?_
               refine sr_three (i := 34) (j := 39) (k := 48) (by kernel_rfl) ?_ ?_ ?_
               ·
                refine (sr_z rfl hA ?_); clear hA ac; intro ac hA
                refine qn ?_
                refine sr_two (i := 39) (j := 48) (by kernel_rfl) ?_ ?_
                ·
                 refine (sr_z rfl hA ?_); clear hA ac; intro ac hA
                 refine qn ?_
                 refine sr_two (i := 40) (j := 48) (by kernel_rfl) ?_ ?_
                 ·
                  refine (sr_z rfl hA ?_); clear hA ac; intro ac hA
                  refine qn ?_
                  refine sr_two (i := 43) (j := 48) (by kernel_rfl) ?_ ?_
                  ·
                   refine (sr_z rfl hA ?_); clear hA ac; intro ac hA
                   refine qn ?_
                   refine sr_one (i := 48) (by kernel_rfl) (sr_z rfl hA ?_); clear hA ac; intro ac hA
                   refine qn ?_
                   refine sr_one (i := 49) (by kernel_rfl) (sr_z rfl hA ?_); clear hA ac; intro ac hA
                   refine qn ?_
                   refine sr_s 50 hR rfl hA fun ac hA => sr_s 51 hR rfl hA fun ac hA => sr_s 52 hR rfl hA fun ac hA => sr_p 53 (Value.bool true) hR rfl hA fun ac hA => ?_
                   refine sr_done (by kernel_rfl) ?_ _
                   exact ⟨hA.sub (by and_intros <;> first | kernel_rfl | trivial), (hW.pick [0] (by decide) rfl).pickG [0] rfl⟩
                  ·
                   refine (sr_z rfl hA ?_); clear hA ac; intro ac hA
                   refine qn ?_
                   refine sr_one (i := 43) (by kernel_rfl) (sr_z rfl hA ?_); clear hA ac; intro ac hA
                   refine qn ?_
                   refine sr_one (i := 49) (by kernel_rfl) (sr_z rfl hA ?_); clear hA ac; intro ac hA
                   refine qn ?_
                   refine sr_s 50 hR rfl hA fun ac hA => sr_s 51 hR rfl hA fun ac hA => sr_s 52 hR rfl hA fun ac hA => sr_p 53 (Value.bool true) hR rfl hA fun ac hA => ?_
                   refine sr_done (by kernel_rfl) ?_ _
                   exact ⟨hA.sub (by and_intros <;> first | kernel_rfl | trivial), (hW.pick [0] (by decide) rfl).pickG [0] rfl⟩
                 ·
                  refine (sr_z rfl hA ?_); clear hA ac; intro ac hA
                  refine qn ?_
                  refine sr_one (i := 40) (by kernel_rfl) (sr_z rfl hA ?_); clear hA ac; intro ac hA
                  refine qn ?_
                  refine sr_one (i := 43) (by kernel_rfl) (sr_z rfl hA ?_); clear hA ac; intro ac hA
                  refine qn ?_
                  refine sr_one (i := 49) (by kernel_rfl) (sr_z rfl hA ?_); clear hA ac; intro ac hA
                  refine qn ?_
                  refine sr_s 50 hR rfl hA fun ac hA => sr_s 51 hR rfl hA fun ac hA => sr_s 52 hR rfl hA fun ac hA => sr_p 53 (Value.bool true) hR rfl hA fun ac hA => ?_
                  refine sr_done (by kernel_rfl) ?_ _
                  exact ⟨hA.sub (by and_intros <;> first | kernel_rfl | trivial), (hW.pick [0] (by decide) rfl).pickG [0] rfl⟩
                ·
                 refine (sr_z rfl hA ?_); clear hA ac; intro ac hA
                 refine qn ?_
                 refine sr_one (i := 39) (by kernel_rfl) (sr_z rfl hA ?_); clear hA ac; intro ac hA
                 refine qn ?_
                 refine sr_one (i := 40) (by kernel_rfl) (sr_z rfl hA ?_); clear hA ac; intro ac hA
                 refine qn ?_
                 refine sr_one (i := 43) (by kernel_rfl) (sr_z rfl hA ?_); clear hA ac; intro ac hA
                 refine qn ?_
                 refine sr_one (i := 49) (by kernel_rfl) (sr_z rfl hA ?_); clear hA ac; intro ac hA
                 refine qn ?_
                 refine sr_s 50 hR rfl hA fun ac hA => sr_s 51 hR rfl hA fun ac hA => sr_s 52 hR rfl hA fun ac hA => sr_p 53 (Value.bool true) hR rfl hA fun ac hA => ?_
                 refine sr_done (by kernel_rfl) ?_ _
                 exact ⟨hA.sub (by and_intros <;> first | kernel_rfl | trivial), (hW.pick [0] (by decide) rfl).pickG [0] rfl⟩
               ·
                refine (sr_z rfl hA ?_); clear hA ac; intro ac hA
                refine qn ?_
                refine sr_two (i := 34) (j := 48) (by kernel_rfl) ?_ ?_
                ·
                 refine (sr_z rfl hA ?_); clear hA ac; intro ac hA
                 refine qn ?_
                 refine sr_two (i := 40) (j := 48) (by kernel_rfl) ?_ ?_
                 ·
                  refine (sr_z rfl hA ?_); clear hA ac; intro ac hA
                  refine qn ?_
                  refine sr_two (i := 43) (j := 48) (by kernel_rfl) ?_ ?_
                  ·
                   refine (sr_z rfl hA ?_); clear hA ac; intro ac hA
                   refine qn ?_
                   refine sr_one (i := 48) (by kernel_rfl) (sr_z rfl hA ?_); clear hA ac; intro ac hA
                   refine qn ?_
                   refine sr_one (i := 49) (by kernel_rfl) (sr_z rfl hA ?_); clear hA ac; intro ac hA
                   refine qn ?_
                   refine sr_s 50 hR rfl hA fun ac hA => sr_s 51 hR rfl hA fun ac hA => sr_s 52 hR rfl hA fun ac hA => sr_p 53 (Value.bool true) hR rfl hA fun ac hA => ?_
                   refine sr_done (by kernel_rfl) ?_ _
                   exact ⟨hA.sub (by and_intros <;> first | kernel_rfl | trivial), (hW.pick [0] (by decide) rfl).pickG [0] rfl⟩
                  ·
                   refine (sr_z rfl hA ?_); clear hA ac; intro ac hA
                   refine qn ?_
                   refine sr_one (i := 43) (by kernel_rfl) (sr_z rfl hA ?_); clear hA ac; intro ac hA
                   refine qn ?_
                   refine sr_one (i := 49) (by kernel_rfl) (sr_z rfl hA ?_); clear hA ac; intro ac hA
                   refine qn ?_
                   refine sr_s 50 hR rfl hA fun ac hA => sr_s 51 hR rfl hA fun ac hA => sr_s 52 hR rfl hA fun ac hA => sr_p 53 (Value.bool true) hR rfl hA fun ac hA => ?_
                   refine sr_done (by kernel_rfl) ?_ _
                   exact ⟨hA.sub (by and_intros <;> first | kernel_rfl | trivial), (hW.pick [0] (by decide) rfl).pickG [0] rfl⟩
                 ·
                  refine (sr_z rfl hA ?_); clear hA ac; intro ac hA
                  refine qn ?_
                  refine sr_one (i := 40) (by kernel_rfl) (sr_z rfl hA ?_); clear hA ac; intro ac hA
                  refine qn ?_
                  refine sr_one (i := 43) (by kernel_rfl) (sr_z rfl hA ?_); clear hA ac; intro ac hA
                  refine qn ?_
                  refine sr_one (i := 49) (by kernel_rfl) (sr_z rfl hA ?_); clear hA ac; intro ac hA
                  refine qn ?_
                  refine sr_s 50 hR rfl hA fun ac hA => sr_s 51 hR rfl hA fun ac hA => sr_s 52 hR rfl hA fun ac hA => sr_p 53 (Value.bool true) hR rfl hA fun ac hA => ?_
                  refine sr_done (by kernel_rfl) ?_ _
                  exact ⟨hA.sub (by and_intros <;> first | kernel_rfl | trivial), (hW.pick [0] (by decide) rfl).pickG [0] rfl⟩
                ·
                 refine (sr_z rfl hA ?_); clear hA ac; intro ac hA
                 refine qn ?_
                 refine sr_one (i := 34) (by kernel_rfl) (sr_z rfl hA ?_); clear hA ac; intro ac hA
                 refine qn ?_
                 refine sr_one (i := 40) (by kernel_rfl) (sr_z rfl hA ?_); clear hA ac; intro ac hA
                 refine qn ?_
                 refine sr_one (i := 43) (by kernel_rfl) (sr_z rfl hA ?_); clear hA ac; intro ac hA
                 refine qn ?_
                 refine sr_one (i := 49) (by kernel_rfl) (sr_z rfl hA ?_); clear hA ac; intro ac hA
                 refine qn ?_
                 refine sr_s 50 hR rfl hA fun ac hA => sr_s 51 hR rfl hA fun ac hA => sr_s 52 hR rfl hA fun ac hA => sr_p 53 (Value.bool true) hR rfl hA fun ac hA => ?_
                 refine sr_done (by kernel_rfl) ?_ _
                 exact ⟨hA.sub (by and_intros <;> first | kernel_rfl | trivial), (hW.pick [0] (by decide) rfl).pickG [0] rfl⟩
               ·
                refine (sr_z rfl hA ?_); clear hA ac; intro ac hA
                refine qn ?_
                refine sr_two (i := 34) (j := 39) (by kernel_rfl) ?_ ?_
                ·
                 refine (sr_z rfl hA ?_); clear hA ac; intro ac hA
                 refine qn ?_
                 refine sr_one (i := 39) (by kernel_rfl) (sr_z rfl hA ?_); clear hA ac; intro ac hA
                 refine qn ?_
                 refine sr_one (i := 40) (by kernel_rfl) (sr_z rfl hA ?_); clear hA ac; intro ac hA
                 refine qn ?_
                 refine sr_one (i := 43) (by kernel_rfl) (sr_z rfl hA ?_); clear hA ac; intro ac hA
                 refine qn ?_
                 refine sr_one (i := 49) (by kernel_rfl) (sr_z rfl hA ?_); clear hA ac; intro ac hA
                 refine qn ?_
                 refine sr_s 50 hR rfl hA fun ac hA => sr_s 51 hR rfl hA fun ac hA => sr_s 52 hR rfl hA fun ac hA => sr_p 53 (Value.bool true) hR rfl hA fun ac hA => ?_
                 refine sr_done (by kernel_rfl) ?_ _
                 exact ⟨hA.sub (by and_intros <;> first | kernel_rfl | trivial), (hW.pick [0] (by decide) rfl).pickG [0] rfl⟩
                ·
                 refine (sr_z rfl hA ?_); clear hA ac; intro ac hA
                 refine qn ?_
                 refine sr_one (i := 34) (by kernel_rfl) (sr_z rfl hA ?_); clear hA ac; intro ac hA
                 refine qn ?_
                 refine sr_one (i := 40) (by kernel_rfl) (sr_z rfl hA ?_); clear hA ac; intro ac hA
                 refine qn ?_
                 refine sr_one (i := 43) (by kernel_rfl) (sr_z rfl hA ?_); clear hA ac; intro ac hA
                 refine qn ?_
                 refine sr_one (i := 49) (by kernel_rfl) (sr_z rfl hA ?_); clear hA ac; intro ac hA
                 refine qn ?_
                 refine sr_s 50 hR rfl hA fun ac hA => sr_s 51 hR rfl hA fun ac hA => sr_s 52 hR rfl hA fun ac hA => sr_p 53 (Value.bool true) hR rfl hA fun ac hA => ?_
                 refine sr_done (by kernel_rfl) ?_ _
                 exact ⟨hA.sub (by and_intros <;> first | kernel_rfl | trivial), (hW.pick [0] (by decide) rfl).pickG [0] rfl⟩
             clear hA ac hW; rintro ac w106 ⟨hA, hW⟩
             refine thenN ?_
             refine wp_cond_true (hA.eval (by kernel_rfl)) ?_
             refine wp_seq ?_
             refine wp_region_lit ?_
             refine st_p (Value.bool false) hA ?_; clear hA ac; intro ac hA
             refine wpList_nil ?_
             refine thenN ?_
             refine wp_ret ?_
             refine cutR ?_
             refine thenR ?_
             refine blkR ?_
             refine thenR ?_
             refine thenR ?_
             refine blkR ?_
             refine blkR ?_
             refine thenR ?_
             refine thenR ?_
             refine blkR ?_
             refine thenR ?_
             refine ret1 (v := Value.bool false) (by rfl) hA (Got.tmp hA (by kernel_rfl) (by kernel_rfl)) ?_
             clear hA
             exact ⟨retv (by rfl), hW.fr⟩))
          first
          | (exfalso; clear hA hW; omega)
          | (exfalso; clear hA hW; have q_ := bef_rng h24; omega; done)
          | (
           rcases Bool.eq_false_or_eq_true (decide ((i : Nat) < j)) with h107 | h107
           ·
            have h107 := of_decide_eq_true h107
            first
            | (exfalso; clear hA hW; omega)
            | (exfalso; clear hA hW; have q_ := bef_rng h24; omega; done)
            | (
             obtain ⟨y108, hy108⟩ : ∃ y, l[i]? = some y := ⟨_, List.getElem?_eq_getElem (by omega)⟩
             obtain ⟨b109, o110, rfl, hbb109⟩ := row_some ((hW).getG 0 rfl) hy108
             obtain ⟨y111, hy111⟩ : ∃ y, l[j]? = some y := ⟨_, List.getElem?_eq_getElem (by omega)⟩
             rcases Bool.eq_false_or_eq_true (evLeads y108 y111) with h112 | h112
             ·
              first
              | (exfalso; clear hA hW; omega)
              | (exfalso; clear hA hW; exact h112 (by rw [← bef_clk hy108 (by omega) (by omega)]; exact h24.symm); done)
              | (exfalso; clear hA hW; rw [← bef_clk hy108 (by omega) (by omega), h24] at h112; cases h112; done)
              | (exfalso; clear hA hW; exact absurd (bef_leads hev (by omega) hy108 hy111 (of_decide_eq_true h112)) (by rw [h24]; decide); done)
              | (exfalso; clear hA hW; have q_ := bef_rng h24; omega; done)
              | (
               refine wp_cut (fun ac_ wl_ => Fm 141 [] [(0, Value.slice (some ⟨b109, o110, none⟩) l.length c_l), (3, Value.pointer (some ⟨n6, 0, none⟩)), (5, Value.int .i64 ((j : Nat) : Int)), (6, Value.int .i64 ((i : Nat) : Int)), (7, Value.bool false), (29, Value.int .i64 ((i : Nat) : Int)), (30, Value.slice (some ⟨b109, o110, none⟩) l.length c_l), (31, Value.int .i64 ((l.length : Nat) : Int)), (32, Value.bool (decide ((((i : Nat) : Int) : Int) < (((l.length : Nat) : Int) : Int)))), (35, Value.pointer (some ⟨n6, 0, none⟩)), (36, Value.int .i64 ((i : Nat) : Int)), (37, Value.int .i64 ((j : Nat) : Int)), (38, Value.bool false), (92, Value.bool true)] ac_ ∧ Ws w No [OrdR n6 n7 n8 l n9 n10 n11 n12 n13 n14 n15] [roR (some ⟨b109, o110, none⟩) 9 enEvent l] wl_) ?_ ?_
               · refine sr_region (m := 54) (C := Ws w No [OrdR n6 n7 n8 l n9 n10 n11 n12 n13 n14 n15] [roR (some ⟨b109, o110, none⟩) 9 enEvent l]) (fun i => [14, 18].contains i) (fun i => [14, 18].contains i) (fun i => [0, 1, 2, 3, 4, 5, 6, 7, 8, 9, 10, 11, 12, 13, 15, 16, 17, 20, 21, 22, 23, 24, 25, 26, 27, 28, 29, 30, 31, 32, 33, 35, 36, 37, 38, 41, 42, 44, 45, 46, 47, 50, 51, 52, 53].contains i) (by kernel_rfl) (by kernel_rfl) (by kernel_rfl) (by kernel_rfl) hW ?_; clear hW; intro w113 hW hfw113 hR; have hC : Ws w No [OrdR n6 n7 n8 l n9 n10 n11 n12 n13 n14 n15] [roR (some ⟨b109, o110, none⟩) 9 enEvent l] w113 := hW.pick [0] (by decide) rfl
                 refine sr_p 0 (Value.bool (befE l (((i : Nat) : Int)) (((j : Nat) : Int)))) hR rfl hA fun ac hA => sr_p 1 (Value.bool (befE l (((i : Nat) : Int)) (((j : Nat) : Int)))) hR rfl hA fun ac hA => ?_
                 rw [show (befE l (((i : Nat) : Int)) (((j : Nat) : Int))) = false from h24] at hA
                 refine sr_s 2 hR rfl hA fun ac hA => sr_s 3 hR rfl hA fun ac hA => sr_s 4 hR rfl hA fun ac hA => sr_p 5 (Value.bool false) hR rfl hA fun ac hA => sr_p 6 (Value.bool false) hR rfl hA fun ac hA => sr_p 7 (Value.int .i64 ((i : Nat) : Int)) hR rfl hA fun ac hA => sr_p 8 (Value.int .i64 ((j : Nat) : Int)) hR rfl hA fun ac hA => sr_p 9 (Value.bool (decide ((((i : Nat) : Int) : Int) < (((j : Nat) : Int) : Int)))) hR rfl hA fun ac hA => sr_p 10 (Value.bool (decide ((((i : Nat) : Int) : Int) < (((j : Nat) : Int) : Int)))) hR rfl hA fun ac hA => ?_
                 rw [show (decide ((((i : Nat) : Int) : Int) < (((j : Nat) : Int) : Int))) = true from decide_eq_true (by omega)] at hA
                 refine sr_p 11 (Value.slice (some ⟨b109, o110, none⟩) l.length c_l) hR rfl hA fun ac hA => sr_p 12 (Value.int .i64 ((i : Nat) : Int)) hR rfl hA fun ac hA => sr_q 13 (Value.pointer (some ⟨b109, o110 + i * 9, none⟩)) hR rfl hA (Rd.indexAddr (e := 50) (sz := 9) (b := b109) (off := o110) (n := l.length) (c := c_l) (k := i) (by kernel_rfl) (by kernel_rfl) (by first | omega | (simp; done) | (simp; omega)) (fun _ => by kernel_rfl) (fun _ => by kernel_rfl)) fun ac hA => sr_t 14 (Value.agg #[Value.int .i64 y108.g, Value.int .i64 y108.kind, Value.int .i64 y108.site.f, Value.int .i64 y108.site.pc, Value.int .u32 y108.addr, Value.int .i64 y108.child, Value.int .i64 y108.obj, Value.int .i64 y108.n, Value.int .i64 y108.trap]) hR rfl hA hC (Rd.loadRow (b := b109) (i := o110 + i * 9) (xs := [Value.int .i64 y108.g, Value.int .i64 y108.kind, Value.int .i64 y108.site.f, Value.int .i64 y108.site.pc, Value.int .u32 y108.addr, Value.int .i64 y108.child, Value.int .i64 y108.obj, Value.int .i64 y108.n, Value.int .i64 y108.trap]) (by kernel_rfl) (fun _ hw => row_ld ((hw).getG 0 rfl) hy108 (Fr.refl No _) (fun h => h) 0 9 (by kernel_rfl)) (by kernel_rfl)) fun ac hA => sr_p 15 (Value.slice (some ⟨b109, o110, none⟩) l.length c_l) hR rfl hA fun ac hA => sr_p 16 (Value.int .i64 ((j : Nat) : Int)) hR rfl hA fun ac hA => sr_q 17 (Value.pointer (some ⟨b109, o110 + j * 9, none⟩)) hR rfl hA (Rd.indexAddr (e := 50) (sz := 9) (b := b109) (off := o110) (n := l.length) (c := c_l) (k := j) (by kernel_rfl) (by kernel_rfl) (by first | omega | (simp; done) | (simp; omega)) (fun _ => by kernel_rfl) (fun _ => by kernel_rfl)) fun ac hA => sr_t 18 (Value.agg #[Value.int .i64 y111.g, Value.int .i64 y111.kind, Value.int .i64 y111.site.f, Value.int .i64 y111.site.pc, Value.int .u32 y111.addr, Value.int .i64 y111.child, Value.int .i64 y111.obj, Value.int .i64 y111.n, Value.int .i64 y111.trap]) hR rfl hA hC (Rd.loadRow (b := b109) (i := o110 + j * 9) (xs := [Value.int .i64 y111.g, Value.int .i64 y111.kind, Value.int .i64 y111.site.f, Value.int .i64 y111.site.pc, Value.int .u32 y111.addr, Value.int .i64 y111.child, Value.int .i64 y111.obj, Value.int .i64 y111.n, Value.int .i64 y111.trap]) (by kernel_rfl) (fun _ hw => row_ld ((hw).getG 0 rfl) hy111 (Fr.refl No _) (fun h => h) 0 9 (by kernel_rfl)) (by kernel_rfl)) fun ac hA => ?_
                 refine sr_one (i := 19) (by kernel_rfl) (sr_d rfl hA (Runs.callN (v := Value.bool (evLeads y108 y111)) (fun _ => by kernel_rfl) hW (e_r16leads y108 y111 w113) ?_)); clear hA ac hW; intro w114 hW hfw114 ac hA
                 refine qn ?_
                 refine sr_p 20 (Value.bool (evLeads y108 y111)) hR rfl hA fun ac hA => sr_p 21 (Value.bool (evLeads y108 y111)) hR rfl hA fun ac hA => ?_
                 rw [show (evLeads y108 y111) = true from h112] at hA
                 refine sr_p 22 (Value.bool false) hR rfl hA fun ac hA => sr_p 23 (Value.bool true) hR rfl hA fun ac hA => sr_p 24 (Value.bool true) hR rfl hA fun ac hA => sr_p 25 (Value.bool true) hR rfl hA fun ac hA => sr_p 26 (Value.bool true) hR rfl hA fun ac hA => sr_s 27 hR rfl hA fun ac hA => sr_s 28 hR rfl hA fun ac hA => sr_s 29 hR rfl hA fun ac hA => sr_s 30 hR rfl hA fun ac hA => sr_s 31 hR rfl hA fun ac hA => sr_s 32 hR rfl hA fun ac hA => sr_s 33 hR rfl hA fun ac hA => sr_s 35 hR rfl hA fun ac hA => sr_s 36 hR rfl hA fun ac hA => sr_s 37 hR rfl hA fun ac hA => sr_s 38 hR rfl hA fun ac hA => sr_s 41 hR rfl hA fun ac hA => sr_s 42 hR rfl hA fun ac hA => sr_s 44 hR rfl hA fun ac hA => sr_s 45 hR rfl hA fun ac hA => sr_s 46 hR rfl hA fun ac hA => sr_s 47 hR rfl hA fun ac hA => ?_
                 refine sr_three (i := 34) (j := 39) (k := 48) (by kernel_rfl) ?_ ?_ ?_
                 ·
                  refine (sr_z rfl hA ?_); clear hA ac; intro ac hA
                  refine qn ?_
                  refine sr_two (i := 39) (j := 48) (by kernel_rfl) ?_ ?_
                  ·
                   refine (sr_z rfl hA ?_); clear hA ac; intro ac hA
                   refine qn ?_
                   refine sr_two (i := 40) (j := 48) (by kernel_rfl) ?_ ?_
                   ·
                    refine (sr_z rfl hA ?_); clear hA ac; intro ac hA
                    refine qn ?_
                    refine sr_two (i := 43) (j := 48) (by kernel_rfl) ?_ ?_
                    ·
                     refine (sr_z rfl hA ?_); clear hA ac; intro ac hA
                     refine qn ?_
                     refine sr_one (i := 48) (by kernel_rfl) (sr_z rfl hA ?_); clear hA ac; intro ac hA
                     refine qn ?_
                     refine sr_one (i := 49) (by kernel_rfl) (sr_z rfl hA ?_); clear hA ac; intro ac hA
                     refine qn ?_
                     refine sr_s 50 hR rfl hA fun ac hA => sr_s 51 hR rfl hA fun ac hA => sr_s 52 hR rfl hA fun ac hA => sr_p 53 (Value.bool true) hR rfl hA fun ac hA => ?_
                     refine sr_done (by kernel_rfl) ?_ _
                     exact ⟨hA.sub (by and_intros <;> first | kernel_rfl | trivial), (hW.pick [0] (by decide) rfl).pickG [0] rfl⟩
                    ·
                     refine (sr_z rfl hA ?_); clear hA ac; intro ac hA
                     refine qn ?_
                     refine sr_one (i := 43) (by kernel_rfl) (sr_z rfl hA ?_); clear hA ac; intro ac hA
                     refine qn ?_
                     refine sr_one (i := 49) (by kernel_rfl) (sr_z rfl hA ?_); clear hA ac; intro ac hA
                     refine qn ?_
                     refine sr_s 50 hR rfl hA fun ac hA => sr_s 51 hR rfl hA fun ac hA => sr_s 52 hR rfl hA fun ac hA => sr_p 53 (Value.bool true) hR rfl hA fun ac hA => ?_
                     refine sr_done (by kernel_rfl) ?_ _
                     exact ⟨hA.sub (by and_intros <;> first | kernel_rfl | trivial), (hW.pick [0] (by decide) rfl).pickG [0] rfl⟩
                   ·
                    refine (sr_z rfl hA ?_); clear hA ac; intro ac hA
                    refine qn ?_
                    refine sr_one (i := 40) (by kernel_rfl) (sr_z rfl hA ?_); clear hA ac; intro ac hA
                    refine qn ?_
                    refine sr_one (i := 43) (by kernel_rfl) (sr_z rfl hA ?_); clear hA ac; intro ac hA
                    refine qn ?_
                    refine sr_one (i := 49) (by kernel_rfl) (sr_z rfl hA ?_); clear hA ac; intro ac hA
                    refine qn ?_
                    refine sr_s 50 hR rfl hA fun ac hA => sr_s 51 hR rfl hA fun ac hA => sr_s 52 hR rfl hA fun ac hA => sr_p 53 (Value.bool true) hR rfl hA fun ac hA => ?_
                    refine sr_done (by kernel_rfl) ?_ _
                    exact ⟨hA.sub (by and_intros <;> first | kernel_rfl | trivial), (hW.pick [0] (by decide) rfl).pickG [0] rfl⟩
                  ·
                   refine (sr_z rfl hA ?_); clear hA ac; intro ac hA
                   refine qn ?_
                   refine sr_one (i := 39) (by kernel_rfl) (sr_z rfl hA ?_); clear hA ac; intro ac hA
                   refine qn ?_
                   refine sr_one (i := 40) (by kernel_rfl) (sr_z rfl hA ?_); clear hA ac; intro ac hA
                   refine qn ?_
                   refine sr_one (i := 43) (by kernel_rfl) (sr_z rfl hA ?_); clear hA ac; intro ac hA
                   refine qn ?_
                   refine sr_one (i := 49) (by kernel_rfl) (sr_z rfl hA ?_); clear hA ac; intro ac hA
                   refine qn ?_
                   refine sr_s 50 hR rfl hA fun ac hA => sr_s 51 hR rfl hA fun ac hA => sr_s 52 hR rfl hA fun ac hA => sr_p 53 (Value.bool true) hR rfl hA fun ac hA => ?_
                   refine sr_done (by kernel_rfl) ?_ _
                   exact ⟨hA.sub (by and_intros <;> first | kernel_rfl | trivial), (hW.pick [0] (by decide) rfl).pickG [0] rfl⟩
                 ·
                  refine (sr_z rfl hA ?_); clear hA ac; intro ac hA
                  refine qn ?_
                  refine sr_two (i := 34) (j := 48) (by kernel_rfl) ?_ ?_
                  ·
                   refine (sr_z rfl hA ?_); clear hA ac; intro ac hA
                   refine qn ?_
                   refine sr_two (i := 40) (j := 48) (by kernel_rfl) ?_ ?_
                   ·
                    refine (sr_z rfl hA ?_); clear hA ac; intro ac hA
                    refine qn ?_
                    refine sr_two (i := 43) (j := 48) (by kernel_rfl) ?_ ?_
                    ·
                     refine (sr_z rfl hA ?_); clear hA ac; intro ac hA
                     refine qn ?_
                     refine sr_one (i := 48) (by kernel_rfl) (sr_z rfl hA ?_); clear hA ac; intro ac hA
                     refine qn ?_
                     refine sr_one (i := 49) (by kernel_rfl) (sr_z rfl hA ?_); clear hA ac; intro ac hA
                     refine qn ?_
                     refine sr_s 50 hR rfl hA fun ac hA => sr_s 51 hR rfl hA fun ac hA => sr_s 52 hR rfl hA fun ac hA => sr_p 53 (Value.bool true) hR rfl hA fun ac hA => ?_
                     refine sr_done (by kernel_rfl) ?_ _
                     exact ⟨hA.sub (by and_intros <;> first | kernel_rfl | trivial), (hW.pick [0] (by decide) rfl).pickG [0] rfl⟩
                    ·
                     refine (sr_z rfl hA ?_); clear hA ac; intro ac hA
                     refine qn ?_
                     refine sr_one (i := 43) (by kernel_rfl) (sr_z rfl hA ?_); clear hA ac; intro ac hA
                     refine qn ?_
                     refine sr_one (i := 49) (by kernel_rfl) (sr_z rfl hA ?_); clear hA ac; intro ac hA
                     refine qn ?_
                     refine sr_s 50 hR rfl hA fun ac hA => sr_s 51 hR rfl hA fun ac hA => sr_s 52 hR rfl hA fun ac hA => sr_p 53 (Value.bool true) hR rfl hA fun ac hA => ?_
                     refine sr_done (by kernel_rfl) ?_ _
                     exact ⟨hA.sub (by and_intros <;> first | kernel_rfl | trivial), (hW.pick [0] (by decide) rfl).pickG [0] rfl⟩
                   ·
                    refine (sr_z rfl hA ?_); clear hA ac; intro ac hA
                    refine qn ?_
                    refine sr_one (i := 40) (by kernel_rfl) (sr_z rfl hA ?_); clear hA ac; intro ac hA
                    refine qn ?_
                    refine sr_one (i := 43) (by kernel_rfl) (sr_z rfl hA ?_); clear hA ac; intro ac hA
                    refine qn ?_
                    refine sr_one (i := 49) (by kernel_rfl) (sr_z rfl hA ?_); clear hA ac; intro ac hA
                    refine qn ?_
                    refine sr_s 50 hR rfl hA fun ac hA => sr_s 51 hR rfl hA fun ac hA => sr_s 52 hR rfl hA fun ac hA => sr_p 53 (Value.bool true) hR rfl hA fun ac hA => ?_
                    refine sr_done (by kernel_rfl) ?_ _
                    exact ⟨hA.sub (by and_intros <;> first | kernel_rfl | trivial), (hW.pick [0] (by decide) rfl).pickG [0] rfl⟩
                  ·
                   refine (sr_z rfl hA ?_); clear hA ac; intro ac hA
                   refine qn ?_
                   refine sr_one (i := 34) (by kernel_rfl) (sr_z rfl hA ?_); clear hA ac; intro ac hA
                   refine qn ?_
                   refine sr_one (i := 40) (by kernel_rfl) (sr_z rfl hA ?_); clear hA ac; intro ac hA
                   refine qn ?_
                   refine sr_one (i := 43) (by kernel_rfl) (sr_z rfl hA ?_); clear hA ac; intro ac hA
                   refine qn ?_
                   refine sr_one (i := 49) (by kernel_rfl) (sr_z rfl hA ?_); clear hA ac; intro ac hA
                   refine qn ?_
                   refine sr_s 50 hR rfl hA fun ac hA => sr_s 51 hR rfl hA fun ac hA => sr_s 52 hR rfl hA fun ac hA => sr_p 53 (Value.bool true) hR rfl hA fun ac hA => ?_
                   refine sr_done (by kernel_rfl) ?_ _
                   exact ⟨hA.sub (by and_intros <;> first | kernel_rfl | trivial), (hW.pick [0] (by decide) rfl).pickG [0] rfl⟩
                 ·
                  refine (sr_z rfl hA ?_); clear hA ac; intro ac hA
                  refine qn ?_
                  refine sr_two (i := 34) (j := 39) (by kernel_rfl) ?_ ?_
                  ·
                   refine (sr_z rfl hA ?_); clear hA ac; intro ac hA
                   refine qn ?_
                   refine sr_one (i := 39) (by kernel_rfl) (sr_z rfl hA ?_); clear hA ac; intro ac hA
                   refine qn ?_
                   refine sr_one (i := 40) (by kernel_rfl) (sr_z rfl hA ?_); clear hA ac; intro ac hA
                   refine qn ?_
                   refine sr_one (i := 43) (by kernel_rfl) (sr_z rfl hA ?_); clear hA ac; intro ac hA
                   refine qn ?_
                   refine sr_one (i := 49) (by kernel_rfl) (sr_z rfl hA ?_); clear hA ac; intro ac hA
                   refine qn ?_
                   refine sr_s 50 hR rfl hA fun ac hA => sr_s 51 hR rfl hA fun ac hA => sr_s 52 hR rfl hA fun ac hA => sr_p 53 (Value.bool true) hR rfl hA fun ac hA => ?_
                   refine sr_done (by kernel_rfl) ?_ _
                   exact ⟨hA.sub (by and_intros <;> first | kernel_rfl | trivial), (hW.pick [0] (by decide) rfl).pickG [0] rfl⟩
                  ·
                   refine (sr_z rfl hA ?_); clear hA ac; intro ac hA
                   refine qn ?_
                   refine sr_one (i := 34) (by kernel_rfl) (sr_z rfl hA ?_); clear hA ac; intro ac hA
                   refine qn ?_
                   refine sr_one (i := 40) (by kernel_rfl) (sr_z rfl hA ?_); clear hA ac; intro ac hA
                   refine qn ?_
                   refine sr_one (i := 43) (by kernel_rfl) (sr_z rfl hA ?_); clear hA ac; intro ac hA
                   refine qn ?_
                   refine sr_one (i := 49) (by kernel_rfl) (sr_z rfl hA ?_); clear hA ac; intro ac hA
                   refine qn ?_
                   refine sr_s 50 hR rfl hA fun ac hA => sr_s 51 hR rfl hA fun ac hA => sr_s 52 hR rfl hA fun ac hA => sr_p 53 (Value.bool true) hR rfl hA fun ac hA => ?_
                   refine sr_done (by kernel_rfl) ?_ _
                   exact ⟨hA.sub (by and_intros <;> first | kernel_rfl | trivial), (hW.pick [0] (by decide) rfl).pickG [0] rfl⟩
               clear hA ac hW; rintro ac w115 ⟨hA, hW⟩
               refine thenN ?_
               refine wp_cond_true (hA.eval (by kernel_rfl)) ?_
               refine wp_seq ?_
               refine wp_region_lit ?_
               refine st_p (Value.bool false) hA ?_; clear hA ac; intro ac hA
               refine wpList_nil ?_
               refine thenN ?_
               refine wp_ret ?_
               refine cutR ?_
               refine thenR ?_
               refine blkR ?_
               refine thenR ?_
               refine thenR ?_
               refine blkR ?_
               refine blkR ?_
               refine thenR ?_
               refine thenR ?_
               refine blkR ?_
               refine thenR ?_
               refine ret1 (v := Value.bool false) (by rfl) hA (Got.tmp hA (by kernel_rfl) (by kernel_rfl)) ?_
               clear hA
               exact ⟨retv (by rfl), hW.fr⟩)
             first
             | (exfalso; clear hA hW; omega)
             | (exfalso; clear hA hW; exact h112 (by rw [← bef_clk hy108 (by omega) (by omega)]; exact h24.symm); done)
             | (exfalso; clear hA hW; rw [← bef_clk hy108 (by omega) (by omega), h24] at h112; cases h112; done)
             | (exfalso; clear hA hW; exact absurd (bef_leads hev (by omega) hy108 hy111 (of_decide_eq_true h112)) (by rw [h24]; decide); done)
             | (exfalso; clear hA hW; have q_ := bef_rng h24; omega; done)
             | (
              refine wp_cut (fun ac_ wl_ => ∃ Ar13_34 : Option Addr, ∃ Ar13_43 : Option Addr, ∃ cr13_34 : Nat, ∃ cr13_43 : Nat, Fm 141 [] [(0, Value.slice (some ⟨b109, o110, none⟩) l.length c_l), (3, Value.pointer (some ⟨n6, 0, none⟩)), (5, Value.int .i64 ((j : Nat) : Int)), (6, Value.int .i64 ((i : Nat) : Int)), (7, Value.bool false), (29, Value.int .i64 ((i : Nat) : Int)), (30, Value.slice (some ⟨b109, o110, none⟩) l.length c_l), (31, Value.int .i64 ((l.length : Nat) : Int)), (32, Value.bool (decide ((((i : Nat) : Int) : Int) < (((l.length : Nat) : Int) : Int)))), (35, Value.pointer (some ⟨n6, 0, none⟩)), (36, Value.int .i64 ((i : Nat) : Int)), (37, Value.int .i64 ((j : Nat) : Int)), (38, Value.bool false), (92, Value.bool (!(false == (decide ((getC (clkE l (((i : Nat) : Int))) (y108.g) : Int) ≤ (getC (clkE l (((j : Nat) : Int))) (y108.g) : Int))))))] ac_ ∧ Ws w No [rowR 51 1 enU8 (Value.slice Ar13_43 (clkE l (((j : Nat) : Int))).length cr13_43) (clkE l (((j : Nat) : Int))), rowR 51 1 enU8 (Value.slice Ar13_34 (clkE l (((i : Nat) : Int))).length cr13_34) (clkE l (((i : Nat) : Int))), OrdR n6 n7 n8 l n9 n10 n11 n12 n13 n14 n15] [roR (some ⟨b109, o110, none⟩) 9 enEvent l] wl_) ?_ ?_
              · refine sr_region (m := 54) (C := Ws w No [OrdR n6 n7 n8 l n9 n10 n11 n12 n13 n14 n15] [roR (some ⟨b109, o110, none⟩) 9 enEvent l]) (fun i => [14, 18].contains i) (fun i => [14, 18].contains i) (fun i => [0, 1, 2, 3, 4, 5, 6, 7, 8, 9, 10, 11, 12, 13, 15, 16, 17, 20, 21, 22, 23, 24, 25, 26, 27, 28, 29, 30, 31, 32, 33, 35, 36, 37, 38, 41, 42, 44, 45, 46, 47, 50, 51, 52, 53].contains i) (by kernel_rfl) (by kernel_rfl) (by kernel_rfl) (by kernel_rfl) hW ?_; clear hW; intro w116 hW hfw116 hR; have hC : Ws w No [OrdR n6 n7 n8 l n9 n10 n11 n12 n13 n14 n15] [roR (some ⟨b109, o110, none⟩) 9 enEvent l] w116 := hW.pick [0] (by decide) rfl
                refine sr_p 0 (Value.bool (befE l (((i : Nat) : Int)) (((j : Nat) : Int)))) hR rfl hA fun ac hA => sr_p 1 (Value.bool (befE l (((i : Nat) : Int)) (((j : Nat) : Int)))) hR rfl hA fun ac hA => ?_
                rw [show (befE l (((i : Nat) : Int)) (((j : Nat) : Int))) = false from h24] at hA
                refine sr_s 2 hR rfl hA fun ac hA => sr_s 3 hR rfl hA fun ac hA => sr_s 4 hR rfl hA fun ac hA => sr_p 5 (Value.bool false) hR rfl hA fun ac hA => sr_p 6 (Value.bool false) hR rfl hA fun ac hA => sr_p 7 (Value.int .i64 ((i : Nat) : Int)) hR rfl hA fun ac hA => sr_p 8 (Value.int .i64 ((j : Nat) : Int)) hR rfl hA fun ac hA => sr_p 9 (Value.bool (decide ((((i : Nat) : Int) : Int) < (((j : Nat) : Int) : Int)))) hR rfl hA fun ac hA => sr_p 10 (Value.bool (decide ((((i : Nat) : Int) : Int) < (((j : Nat) : Int) : Int)))) hR rfl hA fun ac hA => ?_
                rw [show (decide ((((i : Nat) : Int) : Int) < (((j : Nat) : Int) : Int))) = true from decide_eq_true (by omega)] at hA
                refine sr_p 11 (Value.slice (some ⟨b109, o110, none⟩) l.length c_l) hR rfl hA fun ac hA => sr_p 12 (Value.int .i64 ((i : Nat) : Int)) hR rfl hA fun ac hA => sr_q 13 (Value.pointer (some ⟨b109, o110 + i * 9, none⟩)) hR rfl hA (Rd.indexAddr (e := 50) (sz := 9) (b := b109) (off := o110) (n := l.length) (c := c_l) (k := i) (by kernel_rfl) (by kernel_rfl) (by first | omega | (simp; done) | (simp; omega)) (fun _ => by kernel_rfl) (fun _ => by kernel_rfl)) fun ac hA => sr_t 14 (Value.agg #[Value.int .i64 y108.g, Value.int .i64 y108.kind, Value.int .i64 y108.site.f, Value.int .i64 y108.site.pc, Value.int .u32 y108.addr, Value.int .i64 y108.child, Value.int .i64 y108.obj, Value.int .i64 y108.n, Value.int .i64 y108.trap]) hR rfl hA hC (Rd.loadRow (b := b109) (i := o110 + i * 9) (xs := [Value.int .i64 y108.g, Value.int .i64 y108.kind, Value.int .i64 y108.site.f, Value.int .i64 y108.site.pc, Value.int .u32 y108.addr, Value.int .i64 y108.child, Value.int .i64 y108.obj, Value.int .i64 y108.n, Value.int .i64 y108.trap]) (by kernel_rfl) (fun _ hw => row_ld ((hw).getG 0 rfl) hy108 (Fr.refl No _) (fun h => h) 0 9 (by kernel_rfl)) (by kernel_rfl)) fun ac hA => sr_p 15 (Value.slice (some ⟨b109, o110, none⟩) l.length c_l) hR rfl hA fun ac hA => sr_p 16 (Value.int .i64 ((j : Nat) : Int)) hR rfl hA fun ac hA => sr_q 17 (Value.pointer (some ⟨b109, o110 + j * 9, none⟩)) hR rfl hA (Rd.indexAddr (e := 50) (sz := 9) (b := b109) (off := o110) (n := l.length) (c := c_l) (k := j) (by kernel_rfl) (by kernel_rfl) (by first | omega | (simp; done) | (simp; omega)) (fun _ => by kernel_rfl) (fun _ => by kernel_rfl)) fun ac hA => sr_t 18 (Value.agg #[Value.int .i64 y111.g, Value.int .i64 y111.kind, Value.int .i64 y111.site.f, Value.int .i64 y111.site.pc, Value.int .u32 y111.addr, Value.int .i64 y111.child, Value.int .i64 y111.obj, Value.int .i64 y111.n, Value.int .i64 y111.trap]) hR rfl hA hC (Rd.loadRow (b := b109) (i := o110 + j * 9) (xs := [Value.int .i64 y111.g, Value.int .i64 y111.kind, Value.int .i64 y111.site.f, Value.int .i64 y111.site.pc, Value.int .u32 y111.addr, Value.int .i64 y111.child, Value.int .i64 y111.obj, Value.int .i64 y111.n, Value.int .i64 y111.trap]) (by kernel_rfl) (fun _ hw => row_ld ((hw).getG 0 rfl) hy111 (Fr.refl No _) (fun h => h) 0 9 (by kernel_rfl)) (by kernel_rfl)) fun ac hA => ?_
                refine sr_one (i := 19) (by kernel_rfl) (sr_d rfl hA (Runs.callN (v := Value.bool (evLeads y108 y111)) (fun _ => by kernel_rfl) hW (e_r16leads y108 y111 w116) ?_)); clear hA ac hW; intro w117 hW hfw117 ac hA
                refine qn ?_
                refine sr_p 20 (Value.bool (evLeads y108 y111)) hR rfl hA fun ac hA => sr_p 21 (Value.bool (evLeads y108 y111)) hR rfl hA fun ac hA => ?_
                rw [show (evLeads y108 y111) = false from h112] at hA
                refine sr_s 22 hR rfl hA fun ac hA => sr_s 23 hR rfl hA fun ac hA => sr_p 24 (Value.bool false) hR rfl hA fun ac hA => sr_p 25 (Value.bool false) hR rfl hA fun ac hA => sr_p 26 (Value.bool false) hR rfl hA fun ac hA => sr_p 27 (Value.int .i64 ((i : Nat) : Int)) hR rfl hA fun ac hA => sr_p 28 (Value.int .i64 ((j : Nat) : Int)) hR rfl hA fun ac hA => sr_p 29 (Value.bool (decide ((((i : Nat) : Int) : Int) < (((j : Nat) : Int) : Int)))) hR rfl hA fun ac hA => sr_p 30 (Value.bool (decide ((((i : Nat) : Int) : Int) < (((j : Nat) : Int) : Int)))) hR rfl hA fun ac hA => ?_
                rw [show (decide ((((i : Nat) : Int) : Int) < (((j : Nat) : Int) : Int))) = true from decide_eq_true (by omega)] at hA
                refine sr_p 31 (Value.bool false) hR rfl hA fun ac hA => sr_p 32 (Value.pointer (some ⟨n6, 0, none⟩)) hR rfl hA fun ac hA => sr_p 33 (Value.int .i64 ((i : Nat) : Int)) hR rfl hA fun ac hA => sr_p 35 (Value.slice (some ⟨b109, o110, none⟩) l.length c_l) hR rfl hA fun ac hA => sr_p 36 (Value.int .i64 ((i : Nat) : Int)) hR rfl hA fun ac hA => sr_q 37 (Value.pointer (some ⟨b109, o110 + i * 9, none⟩)) hR rfl hA (Rd.indexAddr (e := 50) (sz := 9) (b := b109) (off := o110) (n := l.length) (c := c_l) (k := i) (by kernel_rfl) (by kernel_rfl) (by first | omega | (simp; done) | (simp; omega)) (fun _ => by kernel_rfl) (fun _ => by kernel_rfl)) fun ac hA => sr_p 38 (Value.pointer (some ⟨b109, o110 + i * 9, none⟩)) hR rfl hA fun ac hA => sr_p 41 (Value.pointer (some ⟨n6, 0, none⟩)) hR rfl hA fun ac hA => sr_p 42 (Value.int .i64 ((j : Nat) : Int)) hR rfl hA fun ac hA => sr_p 44 (Value.slice (some ⟨b109, o110, none⟩) l.length c_l) hR rfl hA fun ac hA => sr_p 45 (Value.int .i64 ((i : Nat) : Int)) hR rfl hA fun ac hA => sr_q 46 (Value.pointer (some ⟨b109, o110 + i * 9, none⟩)) hR rfl hA (Rd.indexAddr (e := 50) (sz := 9) (b := b109) (off := o110) (n := l.length) (c := c_l) (k := i) (by kernel_rfl) (by kernel_rfl) (by first | omega | (simp; done) | (simp; omega)) (fun _ => by kernel_rfl) (fun _ => by kernel_rfl)) fun ac hA => sr_p 47 (Value.pointer (some ⟨b109, o110 + i * 9, none⟩)) hR rfl hA fun ac hA => ?_
                refine sr_three (i := 34) (j := 39) (k := 48) (by kernel_rfl) ?_ ?_ ?_
                ·
                 refine (sr_d rfl hA (Runs.callRow (E := 51) (sz := 1) (en := enU8) (l := (clkE l (((i : Nat) : Int)))) (fun _ => by kernel_rfl) hW (e_oclock n6 n7 n8 l n9 n10 n11 n12 n13 n14 n15 (((i : Nat) : Int)) w117 ((hW).get 0 rfl) ((hW).lt _ (List.mem_of_getElem? (i := 0) rfl)) hok ⟨by omega, by omega⟩) ?_)); clear hA ac hW; intro Ar13_34 cr13_34 w118 hW hccr13_34 hfw118 ac hA
                 refine qn ?_
                 refine sr_two (i := 39) (j := 48) (by kernel_rfl) ?_ ?_
                 ·
                  refine (sr_d rfl hA (Runs.ofRd (v := Value.int .i64 y108.g) (C' := Ws w No [rowR 51 1 enU8 (Value.slice Ar13_34 (clkE l (((i : Nat) : Int))).length cr13_34) (clkE l (((i : Nat) : Int))), OrdR n6 n7 n8 l n9 n10 n11 n12 n13 n14 n15] [roR (some ⟨b109, o110, none⟩) 9 enEvent l]) hW (Rd.loadRow (b := b109) (i := o110 + i * 9) (xs := [Value.int .i64 y108.g]) (by kernel_rfl) (fun _ hw => row_ld ((hw).getG 0 rfl) hy108 (Fr.refl No _) (fun h => h) 0 1 (by kernel_rfl)) (by kernel_rfl)) ?_)); clear hA ac; intro  ac hA
                  refine qn ?_
                  refine sr_two (i := 40) (j := 48) (by kernel_rfl) ?_ ?_
                  ·
                   refine (sr_d rfl hA (Runs.callN (v := Value.int .u64 (getC (clkE l (((i : Nat) : Int))) (y108.g))) (fun _ => by kernel_rfl) hW (e_vget Ar13_34 cr13_34 (clkE l (((i : Nat) : Int))) (y108.g) w118 (rowR_at ((hW).get 0 rfl) elt_U8.len) (own_cap ((hW).get 0 rfl)) (Nat.le_trans (clkE_len hok _).1 (by omega))) ?_)); clear hA ac hW; intro w119 hW hfw119 ac hA
                   refine qn ?_
                   refine sr_two (i := 43) (j := 48) (by kernel_rfl) ?_ ?_
                   ·
                    refine (sr_d rfl hA (Runs.callRow (E := 51) (sz := 1) (en := enU8) (l := (clkE l (((j : Nat) : Int)))) (fun _ => by kernel_rfl) hW (e_oclock n6 n7 n8 l n9 n10 n11 n12 n13 n14 n15 (((j : Nat) : Int)) w119 ((hW).get 1 rfl) ((hW).lt _ (List.mem_of_getElem? (i := 1) rfl)) hok ⟨by omega, by omega⟩) ?_)); clear hA ac hW; intro Ar13_43 cr13_43 w120 hW hccr13_43 hfw120 ac hA
                    refine qn ?_
                    refine sr_one (i := 48) (by kernel_rfl) (sr_d rfl hA (Runs.ofRd (v := Value.int .i64 y108.g) (C' := Ws w No [rowR 51 1 enU8 (Value.slice Ar13_43 (clkE l (((j : Nat) : Int))).length cr13_43) (clkE l (((j : Nat) : Int))), rowR 51 1 enU8 (Value.slice Ar13_34 (clkE l (((i : Nat) : Int))).length cr13_34) (clkE l (((i : Nat) : Int))), OrdR n6 n7 n8 l n9 n10 n11 n12 n13 n14 n15] [roR (some ⟨b109, o110, none⟩) 9 enEvent l]) hW (Rd.loadRow (b := b109) (i := o110 + i * 9) (xs := [Value.int .i64 y108.g]) (by kernel_rfl) (fun _ hw => row_ld ((hw).getG 0 rfl) hy108 (Fr.refl No _) (fun h => h) 0 1 (by kernel_rfl)) (by kernel_rfl)) ?_)); clear hA ac; intro  ac hA
                    refine qn ?_
                    refine sr_one (i := 49) (by kernel_rfl) (sr_d rfl hA (Runs.callN (v := Value.int .u64 (getC (clkE l (((j : Nat) : Int))) (y108.g))) (fun _ => by kernel_rfl) hW (e_vget Ar13_43 cr13_43 (clkE l (((j : Nat) : Int))) (y108.g) w120 (rowR_at ((hW).get 0 rfl) elt_U8.len) (own_cap ((hW).get 0 rfl)) (Nat.le_trans (clkE_len hok _).1 (by omega))) ?_)); clear hA ac hW; intro w121 hW hfw121 ac hA
                    refine qn ?_
                    refine sr_p 50 (Value.bool (decide ((getC (clkE l (((i : Nat) : Int))) (y108.g) : Int) ≤ (getC (clkE l (((j : Nat) : Int))) (y108.g) : Int)))) hR rfl hA fun ac hA => sr_p 51 (Value.bool (!(false == (decide ((getC (clkE l (((i : Nat) : Int))) (y108.g) : Int) ≤ (getC (clkE l (((j : Nat) : Int))) (y108.g) : Int)))))) hR rfl hA fun ac hA => sr_p 52 (Value.bool (!(false == (decide ((getC (clkE l (((i : Nat) : Int))) (y108.g) : Int) ≤ (getC (clkE l (((j : Nat) : Int))) (y108.g) : Int)))))) hR rfl hA fun ac hA => sr_p 53 (Value.bool (!(false == (decide ((getC (clkE l (((i : Nat) : Int))) (y108.g) : Int) ≤ (getC (clkE l (((j : Nat) : Int))) (y108.g) : Int)))))) hR rfl hA fun ac hA => ?_
                    refine sr_done (by kernel_rfl) ?_ _
                    exact ⟨Ar13_34, Ar13_43, cr13_34, cr13_43, hA.sub (by and_intros <;> first | kernel_rfl | trivial), (hW.pick [0, 1, 2] (by decide) rfl).pickG [0] rfl⟩
                   ·
                    refine (sr_d rfl hA (Runs.ofRd (v := Value.int .i64 y108.g) (C' := Ws w No [rowR 51 1 enU8 (Value.slice Ar13_34 (clkE l (((i : Nat) : Int))).length cr13_34) (clkE l (((i : Nat) : Int))), OrdR n6 n7 n8 l n9 n10 n11 n12 n13 n14 n15] [roR (some ⟨b109, o110, none⟩) 9 enEvent l]) hW (Rd.loadRow (b := b109) (i := o110 + i * 9) (xs := [Value.int .i64 y108.g]) (by kernel_rfl) (fun _ hw => row_ld ((hw).getG 0 rfl) hy108 (Fr.refl No _) (fun h => h) 0 1 (by kernel_rfl)) (by kernel_rfl)) ?_)); clear hA ac; intro  ac hA
                    refine qn ?_
                    refine sr_one (i := 43) (by kernel_rfl) (sr_d rfl hA (Runs.callRow (E := 51) (sz := 1) (en := enU8) (l := (clkE l (((j : Nat) : Int)))) (fun _ => by kernel_rfl) hW (e_oclock n6 n7 n8 l n9 n10 n11 n12 n13 n14 n15 (((j : Nat) : Int)) w119 ((hW).get 1 rfl) ((hW).lt _ (List.mem_of_getElem? (i := 1) rfl)) hok ⟨by omega, by omega⟩) ?_)); clear hA ac hW; intro Ar13_43 cr13_43 w122 hW hccr13_43 hfw122 ac hA
                    refine qn ?_
                    refine sr_one (i := 49) (by kernel_rfl) (sr_d rfl hA (Runs.callN (v := Value.int .u64 (getC (clkE l (((j : Nat) : Int))) (y108.g))) (fun _ => by kernel_rfl) hW (e_vget Ar13_43 cr13_43 (clkE l (((j : Nat) : Int))) (y108.g) w122 (rowR_at ((hW).get 0 rfl) elt_U8.len) (own_cap ((hW).get 0 rfl)) (Nat.le_trans (clkE_len hok _).1 (by omega))) ?_)); clear hA ac hW; intro w123 hW hfw123 ac hA
                    refine qn ?_
                    refine sr_p 50 (Value.bool (decide ((getC (clkE l (((i : Nat) : Int))) (y108.g) : Int) ≤ (getC (clkE l (((j : Nat) : Int))) (y108.g) : Int)))) hR rfl hA fun ac hA => sr_p 51 (Value.bool (!(false == (decide ((getC (clkE l (((i : Nat) : Int))) (y108.g) : Int) ≤ (getC (clkE l (((j : Nat) : Int))) (y108.g) : Int)))))) hR rfl hA fun ac hA => sr_p 52 (Value.bool (!(false == (decide ((getC (clkE l (((i : Nat) : Int))) (y108.g) : Int) ≤ (getC (clkE l (((j : Nat) : Int))) (y108.g) : Int)))))) hR rfl hA fun ac hA => sr_p 53 (Value.bool (!(false == (decide ((getC (clkE l (((i : Nat) : Int))) (y108.g) : Int) ≤ (getC (clkE l (((j : Nat) : Int))) (y108.g) : Int)))))) hR rfl hA fun ac hA => ?_
                    refine sr_done (by kernel_rfl) ?_ _
                    exact ⟨Ar13_34, Ar13_43, cr13_34, cr13_43, hA.sub (by and_intros <;> first | kernel_rfl | trivial), (hW.pick [0, 1, 2] (by decide) rfl).pickG [0] rfl⟩
                  ·
                   refine (sr_d rfl hA (Runs.ofRd (v := Value.int .i64 y108.g) (C' := Ws w No [rowR 51 1 enU8 (Value.slice Ar13_34 (clkE l (((i : Nat) : Int))).length cr13_34) (clkE l (((i : Nat) : Int))), OrdR n6 n7 n8 l n9 n10 n11 n12 n13 n14 n15] [roR (some ⟨b109, o110, none⟩) 9 enEvent l]) hW (Rd.loadRow (b := b109) (i := o110 + i * 9) (xs := [Value.int .i64 y108.g]) (by kernel_rfl) (fun _ hw => row_ld ((hw).getG 0 rfl) hy108 (Fr.refl No _) (fun h => h) 0 1 (by kernel_rfl)) (by kernel_rfl)) ?_)); clear hA ac; intro  ac hA
                   refine qn ?_
                   refine sr_one (i := 40) (by kernel_rfl) (sr_d rfl hA (Runs.callN (v := Value.int .u64 (getC (clkE l (((i : Nat) : Int))) (y108.g))) (fun _ => by kernel_rfl) hW (e_vget Ar13_34 cr13_34 (clkE l (((i : Nat) : Int))) (y108.g) w118 (rowR_at ((hW).get 0 rfl) elt_U8.len) (own_cap ((hW).get 0 rfl)) (Nat.le_trans (clkE_len hok _).1 (by omega))) ?_)); clear hA ac hW; intro w124 hW hfw124 ac hA
                   refine qn ?_
                   refine sr_one (i := 43) (by kernel_rfl) (sr_d rfl hA (Runs.callRow (E := 51) (sz := 1) (en := enU8) (l := (clkE l (((j : Nat) : Int)))) (fun _ => by kernel_rfl) hW (e_oclock n6 n7 n8 l n9 n10 n11 n12 n13 n14 n15 (((j : Nat) : Int)) w124 ((hW).get 1 rfl) ((hW).lt _ (List.mem_of_getElem? (i := 1) rfl)) hok ⟨by omega, by omega⟩) ?_)); clear hA ac hW; intro Ar13_43 cr13_43 w125 hW hccr13_43 hfw125 ac hA
                   refine qn ?_
                   refine sr_one (i := 49) (by kernel_rfl) (sr_d rfl hA (Runs.callN (v := Value.int .u64 (getC (clkE l (((j : Nat) : Int))) (y108.g))) (fun _ => by kernel_rfl) hW (e_vget Ar13_43 cr13_43 (clkE l (((j : Nat) : Int))) (y108.g) w125 (rowR_at ((hW).get 0 rfl) elt_U8.len) (own_cap ((hW).get 0 rfl)) (Nat.le_trans (clkE_len hok _).1 (by omega))) ?_)); clear hA ac hW; intro w126 hW hfw126 ac hA
                   refine qn ?_
                   refine sr_p 50 (Value.bool (decide ((getC (clkE l (((i : Nat) : Int))) (y108.g) : Int) ≤ (getC (clkE l (((j : Nat) : Int))) (y108.g) : Int)))) hR rfl hA fun ac hA => sr_p 51 (Value.bool (!(false == (decide ((getC (clkE l (((i : Nat) : Int))) (y108.g) : Int) ≤ (getC (clkE l (((j : Nat) : Int))) (y108.g) : Int)))))) hR rfl hA fun ac hA => sr_p 52 (Value.bool (!(false == (decide ((getC (clkE l (((i : Nat) : Int))) (y108.g) : Int) ≤ (getC (clkE l (((j : Nat) : Int))) (y108.g) : Int)))))) hR rfl hA fun ac hA => sr_p 53 (Value.bool (!(false == (decide ((getC (clkE l (((i : Nat) : Int))) (y108.g) : Int) ≤ (getC (clkE l (((j : Nat) : Int))) (y108.g) : Int)))))) hR rfl hA fun ac hA => ?_
                   refine sr_done (by kernel_rfl) ?_ _
                   exact ⟨Ar13_34, Ar13_43, cr13_34, cr13_43, hA.sub (by and_intros <;> first | kernel_rfl | trivial), (hW.pick [0, 1, 2] (by decide) rfl).pickG [0] rfl⟩
                 ·
                  refine (sr_d rfl hA (Runs.ofRd (v := Value.int .i64 y108.g) (C' := Ws w No [rowR 51 1 enU8 (Value.slice Ar13_34 (clkE l (((i : Nat) : Int))).length cr13_34) (clkE l (((i : Nat) : Int))), OrdR n6 n7 n8 l n9 n10 n11 n12 n13 n14 n15] [roR (some ⟨b109, o110, none⟩) 9 enEvent l]) hW (Rd.loadRow (b := b109) (i := o110 + i * 9) (xs := [Value.int .i64 y108.g]) (by kernel_rfl) (fun _ hw => row_ld ((hw).getG 0 rfl) hy108 (Fr.refl No _) (fun h => h) 0 1 (by kernel_rfl)) (by kernel_rfl)) ?_)); clear hA ac; intro  ac hA
                  refine qn ?_
                  refine sr_one (i := 39) (by kernel_rfl) (sr_d rfl hA (Runs.ofRd (v := Value.int .i64 y108.g) (C' := Ws w No [rowR 51 1 enU8 (Value.slice Ar13_34 (clkE l (((i : Nat) : Int))).length cr13_34) (clkE l (((i : Nat) : Int))), OrdR n6 n7 n8 l n9 n10 n11 n12 n13 n14 n15] [roR (some ⟨b109, o110, none⟩) 9 enEvent l]) hW (Rd.loadRow (b := b109) (i := o110 + i * 9) (xs := [Value.int .i64 y108.g]) (by kernel_rfl) (fun _ hw => row_ld ((hw).getG 0 rfl) hy108 (Fr.refl No _) (fun h => h) 0 1 (by kernel_rfl)) (by kernel_rfl)) ?_)); clear hA ac; intro  ac hA
                  refine qn ?_
                  refine sr_one (i := 40) (by kernel_rfl) (sr_d rfl hA (Runs.callN (v := Value.int .u64 (getC (clkE l (((i : Nat) : Int))) (y108.g))) (fun _ => by kernel_rfl) hW (e_vget Ar13_34 cr13_34 (clkE l (((i : Nat) : Int))) (y108.g) w118 (rowR_at ((hW).get 0 rfl) elt_U8.len) (own_cap ((hW).get 0 rfl)) (Nat.le_trans (clkE_len hok _).1 (by omega))) ?_)); clear hA ac hW; intro w127 hW hfw127 ac hA
                  refine qn ?_
                  refine sr_one (i := 43) (by kernel_rfl) (sr_d rfl hA (Runs.callRow (E := 51) (sz := 1) (en := enU8) (l := (clkE l (((j : Nat) : Int)))) (fun _ => by kernel_rfl) hW (e_oclock n6 n7 n8 l n9 n10 n11 n12 n13 n14 n15 (((j : Nat) : Int)) w127 ((hW).get 1 rfl) ((hW).lt _ (List.mem_of_getElem? (i := 1) rfl)) hok ⟨by omega, by omega⟩) ?_)); clear hA ac hW; intro Ar13_43 cr13_43 w128 hW hccr13_43 hfw128 ac hA
                  refine qn ?_
                  refine sr_one (i := 49) (by kernel_rfl) (sr_d rfl hA (Runs.callN (v := Value.int .u64 (getC (clkE l (((j : Nat) : Int))) (y108.g))) (fun _ => by kernel_rfl) hW (e_vget Ar13_43 cr13_43 (clkE l (((j : Nat) : Int))) (y108.g) w128 (rowR_at ((hW).get 0 rfl) elt_U8.len) (own_cap ((hW).get 0 rfl)) (Nat.le_trans (clkE_len hok _).1 (by omega))) ?_)); clear hA ac hW; intro w129 hW hfw129 ac hA
                  refine qn ?_
                  refine sr_p 50 (Value.bool (decide ((getC (clkE l (((i : Nat) : Int))) (y108.g) : Int) ≤ (getC (clkE l (((j : Nat) : Int))) (y108.g) : Int)))) hR rfl hA fun ac hA => sr_p 51 (Value.bool (!(false == (decide ((getC (clkE l (((i : Nat) : Int))) (y108.g) : Int) ≤ (getC (clkE l (((j : Nat) : Int))) (y108.g) : Int)))))) hR rfl hA fun ac hA => sr_p 52 (Value.bool (!(false == (decide ((getC (clkE l (((i : Nat) : Int))) (y108.g) : Int) ≤ (getC (clkE l (((j : Nat) : Int))) (y108.g) : Int)))))) hR rfl hA fun ac hA => sr_p 53 (Value.bool (!(false == (decide ((getC (clkE l (((i : Nat) : Int))) (y108.g) : Int) ≤ (getC (clkE l (((j : Nat) : Int))) (y108.g) : Int)))))) hR rfl hA fun ac hA => ?_
                  refine sr_done (by kernel_rfl) ?_ _
                  exact ⟨Ar13_34, Ar13_43, cr13_34, cr13_43, hA.sub (by and_intros <;> first | kernel_rfl | trivial), (hW.pick [0, 1, 2] (by decide) rfl).pickG [0] rfl⟩
                ·
                 refine (sr_d rfl hA (Runs.ofRd (v := Value.int .i64 y108.g) (C' := Ws w No [OrdR n6 n7 n8 l n9 n10 n11 n12 n13 n14 n15] [roR (some ⟨b109, o110, none⟩) 9 enEvent l]) hW (Rd.loadRow (b := b109) (i := o110 + i * 9) (xs := [Value.int .i64 y108.g]) (by kernel_rfl) (fun _ hw => row_ld ((hw).getG 0 rfl) hy108 (Fr.refl No _) (fun h => h) 0 1 (by kernel_rfl)) (by kernel_rfl)) ?_)); clear hA ac; intro  ac hA
                 refine qn ?_
                 refine sr_two (i := 34) (j := 48) (by kernel_rfl) ?_ ?_
                 ·
                  refine (sr_d rfl hA (Runs.callRow (E := 51) (sz := 1) (en := enU8) (l := (clkE l (((i : Nat) : Int)))) (fun _ => by kernel_rfl) hW (e_oclock n6 n7 n8 l n9 n10 n11 n12 n13 n14 n15 (((i : Nat) : Int)) w117 ((hW).get 0 rfl) ((hW).lt _ (List.mem_of_getElem? (i := 0) rfl)) hok ⟨by omega, by omega⟩) ?_)); clear hA ac hW; intro Ar13_34 cr13_34 w130 hW hccr13_34 hfw130 ac hA
                  refine qn ?_
                  refine sr_two (i := 40) (j := 48) (by kernel_rfl) ?_ ?_
                  ·
                   refine (sr_d rfl hA (Runs.callN (v := Value.int .u64 (getC (clkE l (((i : Nat) : Int))) (y108.g))) (fun _ => by kernel_rfl) hW (e_vget Ar13_34 cr13_34 (clkE l (((i : Nat) : Int))) (y108.g) w130 (rowR_at ((hW).get 0 rfl) elt_U8.len) (own_cap ((hW).get 0 rfl)) (Nat.le_trans (clkE_len hok _).1 (by omega))) ?_)); clear hA ac hW; intro w131 hW hfw131 ac hA
                   refine qn ?_
                   refine sr_two (i := 43) (j := 48) (by kernel_rfl) ?_ ?_
                   ·
                    refine (sr_d rfl hA (Runs.callRow (E := 51) (sz := 1) (en := enU8) (l := (clkE l (((j : Nat) : Int)))) (fun _ => by kernel_rfl) hW (e_oclock n6 n7 n8 l n9 n10 n11 n12 n13 n14 n15 (((j : Nat) : Int)) w131 ((hW).get 1 rfl) ((hW).lt _ (List.mem_of_getElem? (i := 1) rfl)) hok ⟨by omega, by omega⟩) ?_)); clear hA ac hW; intro Ar13_43 cr13_43 w132 hW hccr13_43 hfw132 ac hA
                    refine qn ?_
                    refine sr_one (i := 48) (by kernel_rfl) (sr_d rfl hA (Runs.ofRd (v := Value.int .i64 y108.g) (C' := Ws w No [rowR 51 1 enU8 (Value.slice Ar13_43 (clkE l (((j : Nat) : Int))).length cr13_43) (clkE l (((j : Nat) : Int))), rowR 51 1 enU8 (Value.slice Ar13_34 (clkE l (((i : Nat) : Int))).length cr13_34) (clkE l (((i : Nat) : Int))), OrdR n6 n7 n8 l n9 n10 n11 n12 n13 n14 n15] [roR (some ⟨b109, o110, none⟩) 9 enEvent l]) hW (Rd.loadRow (b := b109) (i := o110 + i * 9) (xs := [Value.int .i64 y108.g]) (by kernel_rfl) (fun _ hw => row_ld ((hw).getG 0 rfl) hy108 (Fr.refl No _) (fun h => h) 0 1 (by kernel_rfl)) (by kernel_rfl)) ?_)); clear hA ac; intro  ac hA
                    refine qn ?_
                    refine sr_one (i := 49) (by kernel_rfl) (sr_d rfl hA (Runs.callN (v := Value.int .u64 (getC (clkE l (((j : Nat) : Int))) (y108.g))) (fun _ => by kernel_rfl) hW (e_vget Ar13_43 cr13_43 (clkE l (((j : Nat) : Int))) (y108.g) w132 (rowR_at ((hW).get 0 rfl) elt_U8.len) (own_cap ((hW).get 0 rfl)) (Nat.le_trans (clkE_len hok _).1 (by omega))) ?_)); clear hA ac hW; intro w133 hW hfw133 ac hA
                    refine qn ?_
                    refine sr_p 50 (Value.bool (decide ((getC (clkE l (((i : Nat) : Int))) (y108.g) : Int) ≤ (getC (clkE l (((j : Nat) : Int))) (y108.g) : Int)))) hR rfl hA fun ac hA => sr_p 51 (Value.bool (!(false == (decide ((getC (clkE l (((i : Nat) : Int))) (y108.g) : Int) ≤ (getC (clkE l (((j : Nat) : Int))) (y108.g) : Int)))))) hR rfl hA fun ac hA => sr_p 52 (Value.bool (!(false == (decide ((getC (clkE l (((i : Nat) : Int))) (y108.g) : Int) ≤ (getC (clkE l (((j : Nat) : Int))) (y108.g) : Int)))))) hR rfl hA fun ac hA => sr_p 53 (Value.bool (!(false == (decide ((getC (clkE l (((i : Nat) : Int))) (y108.g) : Int) ≤ (getC (clkE l (((j : Nat) : Int))) (y108.g) : Int)))))) hR rfl hA fun ac hA => ?_
                    refine sr_done (by kernel_rfl) ?_ _
                    exact ⟨Ar13_34, Ar13_43, cr13_34, cr13_43, hA.sub (by and_intros <;> first | kernel_rfl | trivial), (hW.pick [0, 1, 2] (by decide) rfl).pickG [0] rfl⟩
                   ·
                    refine (sr_d rfl hA (Runs.ofRd (v := Value.int .i64 y108.g) (C' := Ws w No [rowR 51 1 enU8 (Value.slice Ar13_34 (clkE l (((i : Nat) : Int))).length cr13_34) (clkE l (((i : Nat) : Int))), OrdR n6 n7 n8 l n9 n10 n11 n12 n13 n14 n15] [roR (some ⟨b109, o110, none⟩) 9 enEvent l]) hW (Rd.loadRow (b := b109) (i := o110 + i * 9) (xs := [Value.int .i64 y108.g]) (by kernel_rfl) (fun _ hw => row_ld ((hw).getG 0 rfl) hy108 (Fr.refl No _) (fun h => h) 0 1 (by kernel_rfl)) (by kernel_rfl)) ?_)); clear hA ac; intro  ac hA
                    refine qn ?_
                    refine sr_one (i := 43) (by kernel_rfl) (sr_d rfl hA (Runs.callRow (E := 51) (sz := 1) (en := enU8) (l := (clkE l (((j : Nat) : Int)))) (fun _ => by kernel_rfl) hW (e_oclock n6 n7 n8 l n9 n10 n11 n12 n13 n14 n15 (((j : Nat) : Int)) w131 ((hW).get 1 rfl) ((hW).lt _ (List.mem_of_getElem? (i := 1) rfl)) hok ⟨by omega, by omega⟩) ?_)); clear hA ac hW; intro Ar13_43 cr13_43 w134 hW hccr13_43 hfw134 ac hA
                    refine qn ?_
                    refine sr_one (i := 49) (by kernel_rfl) (sr_d rfl hA (Runs.callN (v := Value.int .u64 (getC (clkE l (((j : Nat) : Int))) (y108.g))) (fun _ => by kernel_rfl) hW (e_vget Ar13_43 cr13_43 (clkE l (((j : Nat) : Int))) (y108.g) w134 (rowR_at ((hW).get 0 rfl) elt_U8.len) (own_cap ((hW).get 0 rfl)) (Nat.le_trans (clkE_len hok _).1 (by omega))) ?_)); clear hA ac hW; intro w135 hW hfw135 ac hA
                    refine qn ?_
                    refine sr_p 50 (Value.bool (decide ((getC (clkE l (((i : Nat) : Int))) (y108.g) : Int) ≤ (getC (clkE l (((j : Nat) : Int))) (y108.g) : Int)))) hR rfl hA fun ac hA => sr_p 51 (Value.bool (!(false == (decide ((getC (clkE l (((i : Nat) : Int))) (y108.g) : Int) ≤ (getC (clkE l (((j : Nat) : Int))) (y108.g) : Int)))))) hR rfl hA fun ac hA => sr_p 52 (Value.bool (!(false == (decide ((getC (clkE l (((i : Nat) : Int))) (y108.g) : Int) ≤ (getC (clkE l (((j : Nat) : Int))) (y108.g) : Int)))))) hR rfl hA fun ac hA => sr_p 53 (Value.bool (!(false == (decide ((getC (clkE l (((i : Nat) : Int))) (y108.g) : Int) ≤ (getC (clkE l (((j : Nat) : Int))) (y108.g) : Int)))))) hR rfl hA fun ac hA => ?_
                    refine sr_done (by kernel_rfl) ?_ _
                    exact ⟨Ar13_34, Ar13_43, cr13_34, cr13_43, hA.sub (by and_intros <;> first | kernel_rfl | trivial), (hW.pick [0, 1, 2] (by decide) rfl).pickG [0] rfl⟩
                  ·
                   refine (sr_d rfl hA (Runs.ofRd (v := Value.int .i64 y108.g) (C' := Ws w No [rowR 51 1 enU8 (Value.slice Ar13_34 (clkE l (((i : Nat) : Int))).length cr13_34) (clkE l (((i : Nat) : Int))), OrdR n6 n7 n8 l n9 n10 n11 n12 n13 n14 n15] [roR (some ⟨b109, o110, none⟩) 9 enEvent l]) hW (Rd.loadRow (b := b109) (i := o110 + i * 9) (xs := [Value.int .i64 y108.g]) (by kernel_rfl) (fun _ hw => row_ld ((hw).getG 0 rfl) hy108 (Fr.refl No _) (fun h => h) 0 1 (by kernel_rfl)) (by kernel_rfl)) ?_)); clear hA ac; intro  ac hA
                   refine qn ?_
                   refine sr_one (i := 40) (by kernel_rfl) (sr_d rfl hA (Runs.callN (v := Value.int .u64 (getC (clkE l (((i : Nat) : Int))) (y108.g))) (fun _ => by kernel_rfl) hW (e_vget Ar13_34 cr13_34 (clkE l (((i : Nat) : Int))) (y108.g) w130 (rowR_at ((hW).get 0 rfl) elt_U8.len) (own_cap ((hW).get 0 rfl)) (Nat.le_trans (clkE_len hok _).1 (by omega))) ?_)); clear hA ac hW; intro w136 hW hfw136 ac hA
                   refine qn ?_
                   refine sr_one (i := 43) (by kernel_rfl) (sr_d rfl hA (Runs.callRow (E := 51) (sz := 1) (en := enU8) (l := (clkE l (((j : Nat) : Int)))) (fun _ => by kernel_rfl) hW (e_oclock n6 n7 n8 l n9 n10 n11 n12 n13 n14 n15 (((j : Nat) : Int)) w136 ((hW).get 1 rfl) ((hW).lt _ (List.mem_of_getElem? (i := 1) rfl)) hok ⟨by omega, by omega⟩) ?_)); clear hA ac hW; intro Ar13_43 cr13_43 w137 hW hccr13_43 hfw137 ac hA
                   refine qn ?_
                   refine sr_one (i := 49) (by kernel_rfl) (sr_d rfl hA (Runs.callN (v := Value.int .u64 (getC (clkE l (((j : Nat) : Int))) (y108.g))) (fun _ => by kernel_rfl) hW (e_vget Ar13_43 cr13_43 (clkE l (((j : Nat) : Int))) (y108.g) w137 (rowR_at ((hW).get 0 rfl) elt_U8.len) (own_cap ((hW).get 0 rfl)) (Nat.le_trans (clkE_len hok _).1 (by omega))) ?_)); clear hA ac hW; intro w138 hW hfw138 ac hA
                   refine qn ?_
                   refine sr_p 50 (Value.bool (decide ((getC (clkE l (((i : Nat) : Int))) (y108.g) : Int) ≤ (getC (clkE l (((j : Nat) : Int))) (y108.g) : Int)))) hR rfl hA fun ac hA => sr_p 51 (Value.bool (!(false == (decide ((getC (clkE l (((i : Nat) : Int))) (y108.g) : Int) ≤ (getC (clkE l (((j : Nat) : Int))) (y108.g) : Int)))))) hR rfl hA fun ac hA => sr_p 52 (Value.bool (!(false == (decide ((getC (clkE l (((i : Nat) : Int))) (y108.g) : Int) ≤ (getC (clkE l (((j : Nat) : Int))) (y108.g) : Int)))))) hR rfl hA fun ac hA => sr_p 53 (Value.bool (!(false == (decide ((getC (clkE l (((i : Nat) : Int))) (y108.g) : Int) ≤ (getC (clkE l (((j : Nat) : Int))) (y108.g) : Int)))))) hR rfl hA fun ac hA => ?_
                   refine sr_done (by kernel_rfl) ?_ _
                   exact ⟨Ar13_34, Ar13_43, cr13_34, cr13_43, hA.sub (by and_intros <;> first | kernel_rfl | trivial), (hW.pick [0, 1, 2] (by decide) rfl).pickG [0] rfl⟩
                 ·
                  refine (sr_d rfl hA (Runs.ofRd (v := Value.int .i64 y108.g) (C' := Ws w No [OrdR n6 n7 n8 l n9 n10 n11 n12 n13 n14 n15] [roR (some ⟨b109, o110, none⟩) 9 enEvent l]) hW (Rd.loadRow (b := b109) (i := o110 + i * 9) (xs := [Value.int .i64 y108.g]) (by kernel_rfl) (fun _ hw => row_ld ((hw).getG 0 rfl) hy108 (Fr.refl No _) (fun h => h) 0 1 (by kernel_rfl)) (by kernel_rfl)) ?_)); clear hA ac; intro  ac hA
                  refine qn ?_
                  refine sr_one (i := 34) (by kernel_rfl) (sr_d rfl hA (Runs.callRow (E := 51) (sz := 1) (en := enU8) (l := (clkE l (((i : Nat) : Int)))) (fun _ => by kernel_rfl) hW (e_oclock n6 n7 n8 l n9 n10 n11 n12 n13 n14 n15 (((i : Nat) : Int)) w117 ((hW).get 0 rfl) ((hW).lt _ (List.mem_of_getElem? (i := 0) rfl)) hok ⟨by omega, by omega⟩) ?_)); clear hA ac hW; intro Ar13_34 cr13_34 w139 hW hccr13_34 hfw139 ac hA
                  refine qn ?_
                  refine sr_one (i := 40) (by kernel_rfl) (sr_d rfl hA (Runs.callN (v := Value.int .u64 (getC (clkE l (((i : Nat) : Int))) (y108.g))) (fun _ => by kernel_rfl) hW (e_vget Ar13_34 cr13_34 (clkE l (((i : Nat) : Int))) (y108.g) w139 (rowR_at ((hW).get 0 rfl) elt_U8.len) (own_cap ((hW).get 0 rfl)) (Nat.le_trans (clkE_len hok _).1 (by omega))) ?_)); clear hA ac hW; intro w140 hW hfw140 ac hA
                  refine qn ?_
                  refine sr_one (i := 43) (by kernel_rfl) (sr_d rfl hA (Runs.callRow (E := 51) (sz := 1) (en := enU8) (l := (clkE l (((j : Nat) : Int)))) (fun _ => by kernel_rfl) hW (e_oclock n6 n7 n8 l n9 n10 n11 n12 n13 n14 n15 (((j : Nat) : Int)) w140 ((hW).get 1 rfl) ((hW).lt _ (List.mem_of_getElem? (i := 1) rfl)) hok ⟨by omega, by omega⟩) ?_)); clear hA ac hW; intro Ar13_43 cr13_43 w141 hW hccr13_43 hfw141 ac hA
                  refine qn ?_
                  refine sr_one (i := 49) (by kernel_rfl) (sr_d rfl hA (Runs.callN (v := Value.int .u64 (getC (clkE l (((j : Nat) : Int))) (y108.g))) (fun _ => by kernel_rfl) hW (e_vget Ar13_43 cr13_43 (clkE l (((j : Nat) : Int))) (y108.g) w141 (rowR_at ((hW).get 0 rfl) elt_U8.len) (own_cap ((hW).get 0 rfl)) (Nat.le_trans (clkE_len hok _).1 (by omega))) ?_)); clear hA ac hW; intro w142 hW hfw142 ac hA
                  refine qn ?_
                  refine sr_p 50 (Value.bool (decide ((getC (clkE l (((i : Nat) : Int))) (y108.g) : Int) ≤ (getC (clkE l (((j : Nat) : Int))) (y108.g) : Int)))) hR rfl hA fun ac hA => sr_p 51 (Value.bool (!(false == (decide ((getC (clkE l (((i : Nat) : Int))) (y108.g) : Int) ≤ (getC (clkE l (((j : Nat) : Int))) (y108.g) : Int)))))) hR rfl hA fun ac hA => sr_p 52 (Value.bool (!(false == (decide ((getC (clkE l (((i : Nat) : Int))) (y108.g) : Int) ≤ (getC (clkE l (((j : Nat) : Int))) (y108.g) : Int)))))) hR rfl hA fun ac hA => sr_p 53 (Value.bool (!(false == (decide ((getC (clkE l (((i : Nat) : Int))) (y108.g) : Int) ≤ (getC (clkE l (((j : Nat) : Int))) (y108.g) : Int)))))) hR rfl hA fun ac hA => ?_
                  refine sr_done (by kernel_rfl) ?_ _
                  exact ⟨Ar13_34, Ar13_43, cr13_34, cr13_43, hA.sub (by and_intros <;> first | kernel_rfl | trivial), (hW.pick [0, 1, 2] (by decide) rfl).pickG [0] rfl⟩
                ·
                 refine (sr_d rfl hA (Runs.ofRd (v := Value.int .i64 y108.g) (C' := Ws w No [OrdR n6 n7 n8 l n9 n10 n11 n12 n13 n14 n15] [roR (some ⟨b109, o110, none⟩) 9 enEvent l]) hW (Rd.loadRow (b := b109) (i := o110 + i * 9) (xs := [Value.int .i64 y108.g]) (by kernel_rfl) (fun _ hw => row_ld ((hw).getG 0 rfl) hy108 (Fr.refl No _) (fun h => h) 0 1 (by kernel_rfl)) (by kernel_rfl)) ?_)); clear hA ac; intro  ac hA
                 refine qn ?_
                 refine sr_two (i := 34) (j := 39) (by kernel_rfl) ?_ ?_
                 ·
                  refine (sr_d rfl hA (Runs.callRow (E := 51) (sz := 1) (en := enU8) (l := (clkE l (((i : Nat) : Int)))) (fun _ => by kernel_rfl) hW (e_oclock n6 n7 n8 l n9 n10 n11 n12 n13 n14 n15 (((i : Nat) : Int)) w117 ((hW).get 0 rfl) ((hW).lt _ (List.mem_of_getElem? (i := 0) rfl)) hok ⟨by omega, by omega⟩) ?_)); clear hA ac hW; intro Ar13_34 cr13_34 w143 hW hccr13_34 hfw143 ac hA
                  refine qn ?_
                  refine sr_one (i := 39) (by kernel_rfl) (sr_d rfl hA (Runs.ofRd (v := Value.int .i64 y108.g) (C' := Ws w No [rowR 51 1 enU8 (Value.slice Ar13_34 (clkE l (((i : Nat) : Int))).length cr13_34) (clkE l (((i : Nat) : Int))), OrdR n6 n7 n8 l n9 n10 n11 n12 n13 n14 n15] [roR (some ⟨b109, o110, none⟩) 9 enEvent l]) hW (Rd.loadRow (b := b109) (i := o110 + i * 9) (xs := [Value.int .i64 y108.g]) (by kernel_rfl) (fun _ hw => row_ld ((hw).getG 0 rfl) hy108 (Fr.refl No _) (fun h => h) 0 1 (by kernel_rfl)) (by kernel_rfl)) ?_)); clear hA ac; intro  ac hA
                  refine qn ?_
                  refine sr_one (i := 40) (by kernel_rfl) (sr_d rfl hA (Runs.callN (v := Value.int .u64 (getC (clkE l (((i : Nat) : Int))) (y108.g))) (fun _ => by kernel_rfl) hW (e_vget Ar13_34 cr13_34 (clkE l (((i : Nat) : Int))) (y108.g) w143 (rowR_at ((hW).get 0 rfl) elt_U8.len) (own_cap ((hW).get 0 rfl)) (Nat.le_trans (clkE_len hok _).1 (by omega))) ?_)); clear hA ac hW; intro w144 hW hfw144 ac hA
                  refine qn ?_
                  refine sr_one (i := 43) (by kernel_rfl) (sr_d rfl hA (Runs.callRow (E := 51) (sz := 1) (en := enU8) (l := (clkE l (((j : Nat) : Int)))) (fun _ => by kernel_rfl) hW (e_oclock n6 n7 n8 l n9 n10 n11 n12 n13 n14 n15 (((j : Nat) : Int)) w144 ((hW).get 1 rfl) ((hW).lt _ (List.mem_of_getElem? (i := 1) rfl)) hok ⟨by omega, by omega⟩) ?_)); clear hA ac hW; intro Ar13_43 cr13_43 w145 hW hccr13_43 hfw145 ac hA
                  refine qn ?_
                  refine sr_one (i := 49) (by kernel_rfl) (sr_d rfl hA (Runs.callN (v := Value.int .u64 (getC (clkE l (((j : Nat) : Int))) (y108.g))) (fun _ => by kernel_rfl) hW (e_vget Ar13_43 cr13_43 (clkE l (((j : Nat) : Int))) (y108.g) w145 (rowR_at ((hW).get 0 rfl) elt_U8.len) (own_cap ((hW).get 0 rfl)) (Nat.le_trans (clkE_len hok _).1 (by omega))) ?_)); clear hA ac hW; intro w146 hW hfw146 ac hA
                  refine qn ?_
                  refine sr_p 50 (Value.bool (decide ((getC (clkE l (((i : Nat) : Int))) (y108.g) : Int) ≤ (getC (clkE l (((j : Nat) : Int))) (y108.g) : Int)))) hR rfl hA fun ac hA => sr_p 51 (Value.bool (!(false == (decide ((getC (clkE l (((i : Nat) : Int))) (y108.g) : Int) ≤ (getC (clkE l (((j : Nat) : Int))) (y108.g) : Int)))))) hR rfl hA fun ac hA => sr_p 52 (Value.bool (!(false == (decide ((getC (clkE l (((i : Nat) : Int))) (y108.g) : Int) ≤ (getC (clkE l (((j : Nat) : Int))) (y108.g) : Int)))))) hR rfl hA fun ac hA => sr_p 53 (Value.bool (!(false == (decide ((getC (clkE l (((i : Nat) : Int))) (y108.g) : Int) ≤ (getC (clkE l (((j : Nat) : Int))) (y108.g) : Int)))))) hR rfl hA fun ac hA => ?_
                  refine sr_done (by kernel_rfl) ?_ _
                  exact ⟨Ar13_34, Ar13_43, cr13_34, cr13_43, hA.sub (by and_intros <;> first | kernel_rfl | trivial), (hW.pick [0, 1, 2] (by decide) rfl).pickG [0] rfl⟩
                 ·
                  refine (sr_d rfl hA (Runs.ofRd (v := Value.int .i64 y108.g) (C' := Ws w No [OrdR n6 n7 n8 l n9 n10 n11 n12 n13 n14 n15] [roR (some ⟨b109, o110, none⟩) 9 enEvent l]) hW (Rd.loadRow (b := b109) (i := o110 + i * 9) (xs := [Value.int .i64 y108.g]) (by kernel_rfl) (fun _ hw => row_ld ((hw).getG 0 rfl) hy108 (Fr.refl No _) (fun h => h) 0 1 (by kernel_rfl)) (by kernel_rfl)) ?_)); clear hA ac; intro  ac hA
                  refine qn ?_
                  refine sr_one (i := 34) (by kernel_rfl) (sr_d rfl hA (Runs.callRow (E := 51) (sz := 1) (en := enU8) (l := (clkE l (((i : Nat) : Int)))) (fun _ => by kernel_rfl) hW (e_oclock n6 n7 n8 l n9 n10 n11 n12 n13 n14 n15 (((i : Nat) : Int)) w117 ((hW).get 0 rfl) ((hW).lt _ (List.mem_of_getElem? (i := 0) rfl)) hok ⟨by omega, by omega⟩) ?_)); clear hA ac hW; intro Ar13_34 cr13_34 w147 hW hccr13_34 hfw147 ac hA
                  refine qn ?_
                  refine sr_one (i := 40) (by kernel_rfl) (sr_d rfl hA (Runs.callN (v := Value.int .u64 (getC (clkE l (((i : Nat) : Int))) (y108.g))) (fun _ => by kernel_rfl) hW (e_vget Ar13_34 cr13_34 (clkE l (((i : Nat) : Int))) (y108.g) w147 (rowR_at ((hW).get 0 rfl) elt_U8.len) (own_cap ((hW).get 0 rfl)) (Nat.le_trans (clkE_len hok _).1 (by omega))) ?_)); clear hA ac hW; intro w148 hW hfw148 ac hA
                  refine qn ?_
                  refine sr_one (i := 43) (by kernel_rfl) (sr_d rfl hA (Runs.callRow (E := 51) (sz := 1) (en := enU8) (l := (clkE l (((j : Nat) : Int)))) (fun _ => by kernel_rfl) hW (e_oclock n6 n7 n8 l n9 n10 n11 n12 n13 n14 n15 (((j : Nat) : Int)) w148 ((hW).get 1 rfl) ((hW).lt _ (List.mem_of_getElem? (i := 1) rfl)) hok ⟨by omega, by omega⟩) ?_)); clear hA ac hW; intro Ar13_43 cr13_43 w149 hW hccr13_43 hfw149 ac hA
                  refine qn ?_
                  refine sr_one (i := 49) (by kernel_rfl) (sr_d rfl hA (Runs.callN (v := Value.int .u64 (getC (clkE l (((j : Nat) : Int))) (y108.g))) (fun _ => by kernel_rfl) hW (e_vget Ar13_43 cr13_43 (clkE l (((j : Nat) : Int))) (y108.g) w149 (rowR_at ((hW).get 0 rfl) elt_U8.len) (own_cap ((hW).get 0 rfl)) (Nat.le_trans (clkE_len hok _).1 (by omega))) ?_)); clear hA ac hW; intro w150 hW hfw150 ac hA
                  refine qn ?_
                  refine sr_p 50 (Value.bool (decide ((getC (clkE l (((i : Nat) : Int))) (y108.g) : Int) ≤ (getC (clkE l (((j : Nat) : Int))) (y108.g) : Int)))) hR rfl hA fun ac hA => sr_p 51 (Value.bool (!(false == (decide ((getC (clkE l (((i : Nat) : Int))) (y108.g) : Int) ≤ (getC (clkE l (((j : Nat) : Int))) (y108.g) : Int)))))) hR rfl hA fun ac hA => sr_p 52 (Value.bool (!(false == (decide ((getC (clkE l (((i : Nat) : Int))) (y108.g) : Int) ≤ (getC (clkE l (((j : Nat) : Int))) (y108.g) : Int)))))) hR rfl hA fun ac hA => sr_p 53 (Value.bool (!(false == (decide ((getC (clkE l (((i : Nat) : Int))) (y108.g) : Int) ≤ (getC (clkE l (((j : Nat) : Int))) (y108.g) : Int)))))) hR rfl hA fun ac hA => ?_
                  refine sr_done (by kernel_rfl) ?_ _
                  exact ⟨Ar13_34, Ar13_43, cr13_34, cr13_43, hA.sub (by and_intros <;> first | kernel_rfl | trivial), (hW.pick [0, 1, 2] (by decide) rfl).pickG [0] rfl⟩
              clear hA ac hW; rintro ac w151 ⟨Ar13_34, Ar13_43, cr13_34, cr13_43, hA, hW⟩
              refine thenN ?_
              refine wp_cond_split (t := !(false == (decide ((getC (clkE l (((i : Nat) : Int))) (y108.g) : Int) ≤ (getC (clkE l (((j : Nat) : Int))) (y108.g) : Int))))) (hA.eval (by kernel_rfl)) (fun h152 => ?_) (fun h152 => ?_)
              ·
               have h152 := bbne_t h152
               first
               | (exfalso; clear hA hW; omega)
               | (exfalso; clear hA hW; exact h152 (by rw [← bef_clk hy108 (by omega) (by omega)]; exact h24.symm); done)
               | (exfalso; clear hA hW; rw [← bef_clk hy108 (by omega) (by omega), h24] at h152; cases h152; done)
               | (exfalso; clear hA hW; exact absurd (bef_leads hev (by omega) hy108 hy111 (of_decide_eq_true h112)) (by rw [h24]; decide); done)
               | (exfalso; clear hA hW; have q_ := bef_rng h24; omega; done)
               | (
                refine wp_seq ?_
                refine wp_region_lit ?_
                refine st_p (Value.bool false) hA ?_; clear hA ac; intro ac hA
                refine wpList_nil ?_
                refine thenN ?_
                refine wp_ret ?_
                refine cutR ?_
                refine thenR ?_
                refine blkR ?_
                refine thenR ?_
                refine thenR ?_
                refine blkR ?_
                refine blkR ?_
                refine thenR ?_
                refine thenR ?_
                refine blkR ?_
                refine thenR ?_
                refine ret1 (v := Value.bool false) (by rfl) hA (Got.tmp hA (by kernel_rfl) (by kernel_rfl)) ?_
                clear hA
                exact ⟨retv (by rfl), hW.fr⟩)
              have h152 := bbne_f h152
              first
              | (exfalso; clear hA hW; omega)
              | (exfalso; clear hA hW; exact h152 (by rw [← bef_clk hy108 (by omega) (by omega)]; exact h24.symm); done)
              | (exfalso; clear hA hW; rw [← bef_clk hy108 (by omega) (by omega), h24] at h152; cases h152; done)
              | (exfalso; clear hA hW; exact absurd (bef_leads hev (by omega) hy108 hy111 (of_decide_eq_true h112)) (by rw [h24]; decide); done)
              | (exfalso; clear hA hW; have q_ := bef_rng h24; omega; done)
              | (
               refine wp_skip ?_
               refine cutN ?_
               exact ⟨false, by exact h24.symm, hA.sub (by and_intros <;> first | kernel_rfl | trivial), (hW.pick [2] (by decide) rfl).pickG [0] rfl⟩)))
           have h107 := of_decide_eq_false h107
           first
           | (exfalso; clear hA hW; omega)
           | (exfalso; clear hA hW; have q_ := bef_rng h24; omega; done)
           | (
            refine wp_cut (fun ac_ wl_ => Fm 141 [] [(0, Value.slice A_l l.length c_l), (3, Value.pointer (some ⟨n6, 0, none⟩)), (5, Value.int .i64 ((j : Nat) : Int)), (6, Value.int .i64 ((i : Nat) : Int)), (7, Value.bool false), (29, Value.int .i64 ((i : Nat) : Int)), (30, Value.slice A_l l.length c_l), (31, Value.int .i64 ((l.length : Nat) : Int)), (32, Value.bool (decide ((((i : Nat) : Int) : Int) < (((l.length : Nat) : Int) : Int)))), (35, Value.pointer (some ⟨n6, 0, none⟩)), (36, Value.int .i64 ((i : Nat) : Int)), (37, Value.int .i64 ((j : Nat) : Int)), (38, Value.bool false), (92, Value.bool false)] ac_ ∧ Ws w No [OrdR n6 n7 n8 l n9 n10 n11 n12 n13 n14 n15] [roR A_l 9 enEvent l] wl_) ?_ ?_
            · refine sr_region (m := 54) (C := Ws w No [OrdR n6 n7 n8 l n9 n10 n11 n12 n13 n14 n15] [roR A_l 9 enEvent l]) (fun i => [14, 18].contains i) (fun i => [14, 18].contains i) (fun i => [0, 1, 2, 3, 4, 5, 6, 7, 8, 9, 10, 11, 12, 13, 15, 16, 17, 20, 21, 22, 23, 24, 25, 26, 27, 28, 29, 30, 31, 32, 33, 35, 36, 37, 38, 41, 42, 44, 45, 46, 47, 50, 51, 52, 53].contains i) (by kernel_rfl) (by kernel_rfl) (by kernel_rfl) (by kernel_rfl) hW ?_; clear hW; intro w153 hW hfw153 hR; have hC : Ws w No [OrdR n6 n7 n8 l n9 n10 n11 n12 n13 n14 n15] [roR A_l 9 enEvent l] w153 := hW.pick [0] (by decide) rfl
              refine sr_p 0 (Value.bool (befE l (((i : Nat) : Int)) (((j : Nat) : Int)))) hR rfl hA fun ac hA => sr_p 1 (Value.bool (befE l (((i : Nat) : Int)) (((j : Nat) : Int)))) hR rfl hA fun ac hA => ?_
              rw [show (befE l (((i : Nat) : Int)) (((j : Nat) : Int))) = false from h24] at hA
              refine sr_s 2 hR rfl hA fun ac hA => sr_s 3 hR rfl hA fun ac hA => sr_s 4 hR rfl hA fun ac hA => sr_p 5 (Value.bool false) hR rfl hA fun ac hA => sr_p 6 (Value.bool false) hR rfl hA fun ac hA => sr_p 7 (Value.int .i64 ((i : Nat) : Int)) hR rfl hA fun ac hA => sr_p 8 (Value.int .i64 ((j : Nat) : Int)) hR rfl hA fun ac hA => sr_p 9 (Value.bool (decide ((((i : Nat) : Int) : Int) < (((j : Nat) : Int) : Int)))) hR rfl hA fun ac hA => sr_p 10 (Value.bool (decide ((((i : Nat) : Int) : Int) < (((j : Nat) : Int) : Int)))) hR rfl hA fun ac hA => ?_
              rw [show (decide ((((i : Nat) : Int) : Int) < (((j : Nat) : Int) : Int))) = false from decide_eq_false (by omega)] at hA
              refine sr_s 11 hR rfl hA fun ac hA => sr_s 12 hR rfl hA fun ac hA => sr_s 13 hR rfl hA fun ac hA => sr_skip (i := 14) hR (by kernel_rfl) rfl (by kernel_rfl) (by kernel_rfl) (by kernel_rfl) (fun _ _ _ h => h.elim) hA (by kernel_rfl) (by kernel_rfl) hC fun ac hA => sr_s 15 hR rfl hA fun ac hA => sr_s 16 hR rfl hA fun ac hA => sr_s 17 hR rfl hA fun ac hA => sr_skip (i := 18) hR (by kernel_rfl) rfl (by kernel_rfl) (by kernel_rfl) (by kernel_rfl) (fun _ _ _ h => h.elim) hA (by kernel_rfl) (by kernel_rfl) hC fun ac hA => ?_
              refine sr_one (i := 19) (by kernel_rfl) (sr_z rfl hA ?_); clear hA ac; intro ac hA
              refine qn ?_
              refine sr_p 20 (Value.bool false) hR rfl hA fun ac hA => sr_p 21 (Value.bool false) hR rfl hA fun ac hA => sr_s 22 hR rfl hA fun ac hA => sr_s 23 hR rfl hA fun ac hA => sr_p 24 (Value.bool false) hR rfl hA fun ac hA => sr_p 25 (Value.bool false) hR rfl hA fun ac hA => sr_p 26 (Value.bool false) hR rfl hA fun ac hA => sr_p 27 (Value.int .i64 ((i : Nat) : Int)) hR rfl hA fun ac hA => sr_p 28 (Value.int .i64 ((j : Nat) : Int)) hR rfl hA fun ac hA => sr_p 29 (Value.bool (decide ((((i : Nat) : Int) : Int) < (((j : Nat) : Int) : Int)))) hR rfl hA fun ac hA => sr_p 30 (Value.bool (decide ((((i : Nat) : Int) : Int) < (((j : Nat) : Int) : Int)))) hR rfl hA fun ac hA => ?_
              rw [show (decide ((((i : Nat) : Int) : Int) < (((j : Nat) : Int) : Int))) = false from decide_eq_false (by omega)] at hA
              refine sr_s 31 hR rfl hA fun ac hA => sr_s 32 hR rfl hA fun ac hA => sr_s 33 hR rfl hA fun ac hA => sr_s 35 hR rfl hA fun ac hA => sr_s 36 hR rfl hA fun ac hA => sr_s 37 hR rfl hA fun ac hA => sr_s 38 hR rfl hA fun ac hA => sr_s 41 hR rfl hA fun ac hA => sr_s 42 hR rfl hA fun ac hA => sr_s 44 hR rfl hA fun ac hA => sr_s 45 hR rfl hA fun ac hA => sr_s 46 hR rfl hA fun ac hA => sr_s 47 hR rfl hA fun ac hA => ?_
              refine sr_three (i := 34) (j := 39) (k := 48) (by kernel_rfl) ?_ ?_ ?_
              ·
               refine (sr_z rfl hA ?_); clear hA ac; intro ac hA
               refine qn ?_
               refine sr_two (i := 39) (j := 48) (by kernel_rfl) ?_ ?_
               ·
                refine (sr_z rfl hA ?_); clear hA ac; intro ac hA
                refine qn ?_
                refine sr_two (i := 40) (j := 48) (by kernel_rfl) ?_ ?_
                ·
                 refine (sr_z rfl hA ?_); clear hA ac; intro ac hA
                 refine qn ?_
                 refine sr_two (i := 43) (j := 48) (by kernel_rfl) ?_ ?_
                 ·
                  refine (sr_z rfl hA ?_); clear hA ac; intro ac hA
                  refine qn ?_
                  refine sr_one (i := 48) (by kernel_rfl) (sr_z rfl hA ?_); clear hA ac; intro ac hA
                  refine qn ?_
                  refine sr_one (i := 49) (by kernel_rfl) (sr_z rfl hA ?_); clear hA ac; intro ac hA
                  refine qn ?_
                  refine sr_s 50 hR rfl hA fun ac hA => sr_s 51 hR rfl hA fun ac hA => sr_p 52 (Value.bool false) hR rfl hA fun ac hA => sr_p 53 (Value.bool false) hR rfl hA fun ac hA => ?_
                  refine sr_done (by kernel_rfl) ?_ _
                  exact ⟨hA.sub (by and_intros <;> first | kernel_rfl | trivial), (hW.pick [0] (by decide) rfl).pickG [0] rfl⟩
                 ·
                  refine (sr_z rfl hA ?_); clear hA ac; intro ac hA
                  refine qn ?_
                  refine sr_one (i := 43) (by kernel_rfl) (sr_z rfl hA ?_); clear hA ac; intro ac hA
                  refine qn ?_
                  refine sr_one (i := 49) (by kernel_rfl) (sr_z rfl hA ?_); clear hA ac; intro ac hA
                  refine qn ?_
                  refine sr_s 50 hR rfl hA fun ac hA => sr_s 51 hR rfl hA fun ac hA => sr_p 52 (Value.bool false) hR rfl hA fun ac hA => sr_p 53 (Value.bool false) hR rfl hA fun ac hA => ?_
                  refine sr_done (by kernel_rfl) ?_ _
                  exact ⟨hA.sub (by and_intros <;> first | kernel_rfl | trivial), (hW.pick [0] (by decide) rfl).pickG [0] rfl⟩
                ·
                 refine (sr_z rfl hA ?_); clear hA ac; intro ac hA
                 refine qn ?_
                 refine sr_one (i := 40) (by kernel_rfl) (sr_z rfl hA ?_); clear hA ac; intro ac hA
                 refine qn ?_
                 refine sr_one (i := 43) (by kernel_rfl) (sr_z rfl hA ?_); clear hA ac; intro ac hA
                 refine qn ?_
                 refine sr_one (i := 49) (by kernel_rfl) (sr_z rfl hA ?_); clear hA ac; intro ac hA
                 refine qn ?_
                 refine sr_s 50 hR rfl hA fun ac hA => sr_s 51 hR rfl hA fun ac hA => sr_p 52 (Value.bool false) hR rfl hA fun ac hA => sr_p 53 (Value.bool false) hR rfl hA fun ac hA => ?_
                 refine sr_done (by kernel_rfl) ?_ _
                 exact ⟨hA.sub (by and_intros <;> first | kernel_rfl | trivial), (hW.pick [0] (by decide) rfl).pickG [0] rfl⟩
               ·
                refine (sr_z rfl hA ?_); clear hA ac; intro ac hA
                refine qn ?_
                refine sr_one (i := 39) (by kernel_rfl) (sr_z rfl hA ?_); clear hA ac; intro ac hA
                refine qn ?_
                refine sr_one (i := 40) (by kernel_rfl) (sr_z rfl hA ?_); clear hA ac; intro ac hA
                refine qn ?_
                refine sr_one (i := 43) (by kernel_rfl) (sr_z rfl hA ?_); clear hA ac; intro ac hA
                refine qn ?_
                refine sr_one (i := 49) (by kernel_rfl) (sr_z rfl hA ?_); clear hA ac; intro ac hA
                refine qn ?_
                refine sr_s 50 hR rfl hA fun ac hA => sr_s 51 hR rfl hA fun ac hA => sr_p 52 (Value.bool false) hR rfl hA fun ac hA => sr_p 53 (Value.bool false) hR rfl hA fun ac hA => ?_
                refine sr_done (by kernel_rfl) ?_ _
                exact ⟨hA.sub (by and_intros <;> first | kernel_rfl | trivial), (hW.pick [0] (by decide) rfl).pickG [0] rfl⟩
              ·
               refine (sr_z rfl hA ?_); clear hA ac; intro ac hA
               refine qn ?_
               refine sr_two (i := 34) (j := 48) (by kernel_rfl) ?_ ?_
               ·
                refine (sr_z rfl hA ?_); clear hA ac; intro ac hA
                refine qn ?_
                refine sr_two (i := 40) (j := 48) (by kernel_rfl) ?_ ?_
                ·
                 refine (sr_z rfl hA ?_); clear hA ac; intro ac hA
                 refine qn ?_
                 refine sr_two (i := 43) (j := 48) (by kernel_rfl) ?_ ?_
                 ·
                  refine (sr_z rfl hA ?_); clear hA ac; intro ac hA
                  refine qn ?_
                  refine sr_one (i := 48) (by kernel_rfl) (sr_z rfl hA ?_); clear hA ac; intro ac hA
                  refine qn ?_
                  refine sr_one (i := 49) (by kernel_rfl) (sr_z rfl hA ?_); clear hA ac; intro ac hA
                  refine qn ?_
                  refine sr_s 50 hR rfl hA fun ac hA => sr_s 51 hR rfl hA fun ac hA => sr_p 52 (Value.bool false) hR rfl hA fun ac hA => sr_p 53 (Value.bool false) hR rfl hA fun ac hA => ?_
                  refine sr_done (by kernel_rfl) ?_ _
                  exact ⟨hA.sub (by and_intros <;> first | kernel_rfl | trivial), (hW.pick [0] (by decide) rfl).pickG [0] rfl⟩
                 ·
                  refine (sr_z rfl hA ?_); clear hA ac; intro ac hA
                  refine qn ?_
                  refine sr_one (i := 43) (by kernel_rfl) (sr_z rfl hA ?_); clear hA ac; intro ac hA
                  refine qn ?_
                  refine sr_one (i := 49) (by kernel_rfl) (sr_z rfl hA ?_); clear hA ac; intro ac hA
                  refine qn ?_
                  refine sr_s 50 hR rfl hA fun ac hA => sr_s 51 hR rfl hA fun ac hA => sr_p 52 (Value.bool false) hR rfl hA fun ac hA => sr_p 53 (Value.bool false) hR rfl hA fun ac hA => ?_
                  refine sr_done (by kernel_rfl) ?_ _
                  exact ⟨hA.sub (by and_intros <;> first | kernel_rfl | trivial), (hW.pick [0] (by decide) rfl).pickG [0] rfl⟩
                ·
                 refine (sr_z rfl hA ?_); clear hA ac; intro ac hA
                 refine qn ?_
                 refine sr_one (i := 40) (by kernel_rfl) (sr_z rfl hA ?_); clear hA ac; intro ac hA
                 refine qn ?_
                 refine sr_one (i := 43) (by kernel_rfl) (sr_z rfl hA ?_); clear hA ac; intro ac hA
                 refine qn ?_
                 refine sr_one (i := 49) (by kernel_rfl) (sr_z rfl hA ?_); clear hA ac; intro ac hA
                 refine qn ?_
                 refine sr_s 50 hR rfl hA fun ac hA => sr_s 51 hR rfl hA fun ac hA => sr_p 52 (Value.bool false) hR rfl hA fun ac hA => sr_p 53 (Value.bool false) hR rfl hA fun ac hA => ?_
                 refine sr_done (by kernel_rfl) ?_ _
                 exact ⟨hA.sub (by and_intros <;> first | kernel_rfl | trivial), (hW.pick [0] (by decide) rfl).pickG [0] rfl⟩
               ·
                refine (sr_z rfl hA ?_); clear hA ac; intro ac hA
                refine qn ?_
                refine sr_one (i := 34) (by kernel_rfl) (sr_z rfl hA ?_); clear hA ac; intro ac hA
                refine qn ?_
                refine sr_one (i := 40) (by kernel_rfl) (sr_z rfl hA ?_); clear hA ac; intro ac hA
                refine qn ?_
                refine sr_one (i := 43) (by kernel_rfl) (sr_z rfl hA ?_); clear hA ac; intro ac hA
                refine qn ?_
                refine sr_one (i := 49) (by kernel_rfl) (sr_z rfl hA ?_); clear hA ac; intro ac hA
                refine qn ?_
                refine sr_s 50 hR rfl hA fun ac hA => sr_s 51 hR rfl hA fun ac hA => sr_p 52 (Value.bool false) hR rfl hA fun ac hA => sr_p 53 (Value.bool false) hR rfl hA fun ac hA => ?_
                refine sr_done (by kernel_rfl) ?_ _
                exact ⟨hA.sub (by and_intros <;> first | kernel_rfl | trivial), (hW.pick [0] (by decide) rfl).pickG [0] rfl⟩
              ·
               refine (sr_z rfl hA ?_); clear hA ac; intro ac hA
               refine qn ?_
               refine sr_two (i := 34) (j := 39) (by kernel_rfl) ?_ ?_
               ·
                refine (sr_z rfl hA ?_); clear hA ac; intro ac hA
                refine qn ?_
                refine sr_one (i := 39) (by kernel_rfl) (sr_z rfl hA ?_); clear hA ac; intro ac hA
                refine qn ?_
                refine sr_one (i := 40) (by kernel_rfl) (sr_z rfl hA ?_); clear hA ac; intro ac hA
                refine qn ?_
                refine sr_one (i := 43) (by kernel_rfl) (sr_z rfl hA ?_); clear hA ac; intro ac hA
                refine qn ?_
                refine sr_one (i := 49) (by kernel_rfl) (sr_z rfl hA ?_); clear hA ac; intro ac hA
                refine qn ?_
                refine sr_s 50 hR rfl hA fun ac hA => sr_s 51 hR rfl hA fun ac hA => sr_p 52 (Value.bool false) hR rfl hA fun ac hA => sr_p 53 (Value.bool false) hR rfl hA fun ac hA => ?_
                refine sr_done (by kernel_rfl) ?_ _
                exact ⟨hA.sub (by and_intros <;> first | kernel_rfl | trivial), (hW.pick [0] (by decide) rfl).pickG [0] rfl⟩
               ·
                refine (sr_z rfl hA ?_); clear hA ac; intro ac hA
                refine qn ?_
                refine sr_one (i := 34) (by kernel_rfl) (sr_z rfl hA ?_); clear hA ac; intro ac hA
                refine qn ?_
                refine sr_one (i := 40) (by kernel_rfl) (sr_z rfl hA ?_); clear hA ac; intro ac hA
                refine qn ?_
                refine sr_one (i := 43) (by kernel_rfl) (sr_z rfl hA ?_); clear hA ac; intro ac hA
                refine qn ?_
                refine sr_one (i := 49) (by kernel_rfl) (sr_z rfl hA ?_); clear hA ac; intro ac hA
                refine qn ?_
                refine sr_s 50 hR rfl hA fun ac hA => sr_s 51 hR rfl hA fun ac hA => sr_p 52 (Value.bool false) hR rfl hA fun ac hA => sr_p 53 (Value.bool false) hR rfl hA fun ac hA => ?_
                refine sr_done (by kernel_rfl) ?_ _
                exact ⟨hA.sub (by and_intros <;> first | kernel_rfl | trivial), (hW.pick [0] (by decide) rfl).pickG [0] rfl⟩
            clear hA ac hW; rintro ac w154 ⟨hA, hW⟩
            refine thenN ?_
            refine wp_cond_false (hA.eval (by kernel_rfl)) ?_
            refine wp_skip ?_
            refine cutN ?_
            exact ⟨false, by exact h24.symm, hA.sub (by and_intros <;> first | kernel_rfl | trivial), (hW.pick [0] (by decide) rfl).pickG [0] rfl⟩))
         clear hA ac hW; rintro ac w155 ⟨b_, hb_, hA, hW⟩
         refine thenN ?_
         refine wp_seq ?_
         refine wp_region_lit ?_
         refine st_p (Value.bool false) hA ?_; clear hA ac; intro ac hA
         refine wpList_nil ?_
         refine thenN ?_
         refine wp_seq ?_
         refine wp_seq ?_
         refine wp_region_lit ?_
         refine st_p (Value.int .i64 0) hA ?_; clear hA ac; intro ac hA
         refine wpList_nil ?_
         refine thenN ?_
         refine wp_block ?_
         refine wp_loop_m (fun m_ ac_ wl_ => ∃ q : Nat, ∃ led_ : Bool, m_ = j - q ∧ (q ≤ j) ∧ (∀ k : Nat, k < q → ∀ a b : Event, l[k]? = some a → l[j]? = some b → EvLeads a b → (k = i ∨ befE l (i : Int) (k : Int) = true) → led_ = true) ∧ Fm 141 [] [(0, Value.slice A_l l.length c_l), (3, Value.pointer (some ⟨n6, 0, none⟩)), (5, Value.int .i64 ((j : Nat) : Int)), (6, Value.int .i64 ((i : Nat) : Int)), (7, Value.bool b_), (8, Value.bool led_), (9, Value.int .i64 ((q : Nat) : Int))] ac_ ∧ Ws w No [OrdR n6 n7 n8 l n9 n10 n11 n12 n13 n14 n15] [roR A_l 9 enEvent l] wl_) _ ⟨0, false, rfl, by omega, by intro k hk; omega, hA.sub (by and_intros <;> first | kernel_rfl | trivial), (hW.pick [0] (by decide) rfl).pickG [0] rfl⟩ ?_
         clear hA ac hW; rintro m_ ac w156 ⟨q, led_, rfl, hq, hld, hA, hW⟩
         refine wp_seq ?_
         refine wp_seq ?_
         refine wp_region_lit ?_
         refine st_p (Value.int .i64 ((q : Nat) : Int)) hA fun ac hA => st_p (Value.int .i64 ((j : Nat) : Int)) hA fun ac hA => st_p (Value.bool (decide ((((q : Nat) : Int) : Int) < (((j : Nat) : Int) : Int)))) hA fun ac hA => ?_
         refine wpList_nil ?_
         refine thenN ?_
         refine wp_cond_split (t := decide ((((q : Nat) : Int) : Int) < (((j : Nat) : Int) : Int))) (hA.eval (by kernel_rfl)) (fun h157 => ?_) (fun h157 => ?_)
         ·
          have h157 := of_decide_eq_true h157
          first
          | (exfalso; clear hA hW; omega)
          | (
           refine wp_skip ?_
           refine thenN ?_
           refine wp_seq ?_
           refine wp_block ?_
           refine wp_seq ?_
           refine wp_seq ?_
           refine wp_region_lit ?_
           refine st_p (Value.pointer (some ⟨n6, 0, none⟩)) hA fun ac hA => st_p (Value.int .i64 ((i : Nat) : Int)) hA fun ac hA => st_p (Value.int .i64 ((q : Nat) : Int)) hA fun ac hA => ?_
           refine st_s hA (Runs.callN (v := Value.bool (befE l (((i : Nat) : Int)) (((q : Nat) : Int)))) (fun _ => by kernel_rfl) hW (e_obefore n6 n7 n8 l n9 n10 n11 n12 n13 n14 n15 (((i : Nat) : Int)) (((q : Nat) : Int)) w156 ((hW).get 0 rfl) ((hW).lt _ (List.mem_of_getElem? (i := 0) rfl)) hok ⟨by omega, by omega⟩ ⟨by omega, by omega⟩) ?_); clear hA ac hW; intro w158 hW hfw158 ac hA
           refine st_p (Value.bool (befE l (((i : Nat) : Int)) (((q : Nat) : Int)))) hA ?_; clear hA ac; intro ac hA
           rcases Bool.eq_false_or_eq_true (befE l (((i : Nat) : Int)) (((q : Nat) : Int))) with h159 | h159
           ·
            rw [h159] at hA
            first
            | (exfalso; clear hA hW; omega)
            | (
             refine st_p (Value.pointer (some ⟨n6, 0, none⟩)) hA fun ac hA => st_p (Value.int .i64 ((q : Nat) : Int)) hA fun ac hA => st_p (Value.int .i64 ((j : Nat) : Int)) hA fun ac hA => ?_
             refine st_s hA (Runs.callN (v := Value.bool (befE l (((q : Nat) : Int)) (((j : Nat) : Int)))) (fun _ => by kernel_rfl) hW (e_obefore n6 n7 n8 l n9 n10 n11 n12 n13 n14 n15 (((q : Nat) : Int)) (((j : Nat) : Int)) w158 ((hW).get 0 rfl) ((hW).lt _ (List.mem_of_getElem? (i := 0) rfl)) hok ⟨by omega, by omega⟩ ⟨by omega, by omega⟩) ?_); clear hA ac hW; intro w160 hW hfw160 ac hA
             refine st_p (Value.bool (befE l (((q : Nat) : Int)) (((j : Nat) : Int)))) hA fun ac hA => st_p (Value.bool (befE l (((q : Nat) : Int)) (((j : Nat) : Int)))) hA fun ac hA => ?_
             rcases Bool.eq_false_or_eq_true (befE l (((q : Nat) : Int)) (((j : Nat) : Int))) with h161 | h161
             ·
              rw [h161] at hA
              first
              | (exfalso; clear hA hW; omega)
              | (exfalso; clear hA hW; exact absurd (bef_trans hev h159 h161) (by rw [← hb_, h161]; decide); done)
              | (
               refine st_p (Value.bool b_) hA fun ac hA => st_p (Value.bool (!b_)) hA fun ac hA => st_p (Value.bool (!b_)) hA fun ac hA => ?_
               refine wpList_nil ?_
               refine thenN ?_
               refine wp_cond_split (t := !b_) (hA.eval (by kernel_rfl)) (fun h162 => ?_) (fun h162 => ?_)
               ·
                have h162 := not_t h162
                first
                | (exfalso; clear hA hW; omega)
                | (exfalso; clear hA hW; exact absurd (bef_trans hev h159 h161) (by rw [← hb_, h162]; decide); done)
                | (
                 refine wp_seq ?_
                 refine wp_region_lit ?_
                 refine st_p (Value.bool false) hA ?_; clear hA ac; intro ac hA
                 refine wpList_nil ?_
                 refine thenN ?_
                 refine wp_ret ?_
                 refine thenR ?_
                 refine blkR ?_
                 refine thenR ?_
                 refine thenR ?_
                 refine blkR ?_
                 refine thenR ?_
                 refine blkR ?_
                 refine thenR ?_
                 refine thenR ?_
                 refine blkR ?_
                 refine blkR ?_
                 refine thenR ?_
                 refine thenR ?_
                 refine blkR ?_
                 refine thenR ?_
                 refine ret1 (v := Value.bool false) (by rfl) hA (Got.tmp hA (by kernel_rfl) (by kernel_rfl)) ?_
                 clear hA
                 exact ⟨retv (by rfl), hW.fr⟩)
               have h162 := not_f h162
               first
               | (exfalso; clear hA hW; omega)
               | (exfalso; clear hA hW; exact absurd (bef_trans hev h159 h161) (by rw [← hb_, h162]; decide); done)
               | (
                refine wp_skip ?_
                refine thenN ?_
                refine q_region (by kernel_rfl) (by kernel_rfl) hW ?_
                refine sq_p (Value.bool led_) hA fun ac hA => sq_p (Value.bool led_) hA fun ac hA => ?_
                rcases Bool.eq_false_or_eq_true (led_) with h163 | h163
                ·
                 rw [h163] at hA
                 first
                 | (exfalso; clear hA hW; omega)
                 | (
                  refine sq_k hA fun ac hA => sq_k hA fun ac hA => sq_k hA fun ac hA => sq_k hA fun ac hA => sq_k hA fun ac hA => sq_k hA fun ac hA => sq_k hA fun ac hA => sq_k hA fun ac hA => sq_k hA fun ac hA => sq_k hA fun ac hA => sq_k hA fun ac hA => sq_k hA fun ac hA => sq_k hA fun ac hA => sq_k hA fun ac hA => sq_k hA fun ac hA => sq_k hA fun ac hA => sq_k hA fun ac hA => sq_k hA fun ac hA => sq_k hA fun ac hA => sq_k hA fun ac hA => sq_p (Value.bool true) hA fun ac hA => sq_p (Value.bool true) hA fun ac hA => ?_
                  refine sq_nil ?_; intro w164 hww164; have hW := hww164.1; have hfw164 := hww164.2; clear hww164
                  refine blkN ?_
                  refine thenN ?_
                  refine wp_region_lit ?_
                  refine st_p (Value.int .i64 ((q : Nat) : Int)) hA fun ac hA => st_q (Value.int .i64 ((q + 1 : Nat) : Int)) hA hW.cls (Rd.pureE (v0 := Value.int .i64 (IntKind.i64.wrap ((((q : Nat) : Int) : Int) + 1))) (fun _ => by kernel_rfl) (congrArg (Value.int .i64) ((w_i64 (x := (((q : Nat) : Int) : Int) + 1) (by omega) (by omega)).trans (by omega)))) fun ac hA => st_p (Value.int .i64 ((q + 1 : Nat) : Int)) hA fun ac hA => ?_
                  refine wpList_nil ?_
                  refine thenN ?_
                  exact ⟨j - (q + 1), by omega, q + 1, true, rfl, by omega, by intro _ _ _ _ _ _ _ _; rfl, hA.sub (by and_intros <;> first | kernel_rfl | trivial), (hW.pick [0] (by decide) rfl).pickG [0] rfl⟩)
                rw [h163] at hA
                first
                | (exfalso; clear hA hW; omega)
                | (
                 refine sq_p (Value.slice A_l l.length c_l) hA fun ac hA => sq_p (Value.int .i64 ((q : Nat) : Int)) hA fun ac hA => ?_
                 obtain ⟨y165, hy165⟩ : ∃ y, l[q]? = some y := ⟨_, List.getElem?_eq_getElem (by first | omega | (simp; done) | (simp; omega))⟩
                 obtain ⟨b166, o167, rfl, hbb166⟩ := row_some ((hW).getG 0 rfl) hy165
                 refine sq_q (Value.pointer (some ⟨b166, o167 + q * 9, none⟩)) hA (Rd.indexAddr (e := 50) (sz := 9) (b := b166) (off := o167) (n := l.length) (c := c_l) (k := q) (by kernel_rfl) (by kernel_rfl) (by first | omega | (simp; done) | (simp; omega)) (fun _ => by kernel_rfl) (fun _ => by kernel_rfl)) fun ac hA => sq_q (Value.agg #[Value.int .i64 y165.g, Value.int .i64 y165.kind, Value.int .i64 y165.site.f, Value.int .i64 y165.site.pc, Value.int .u32 y165.addr, Value.int .i64 y165.child, Value.int .i64 y165.obj, Value.int .i64 y165.n, Value.int .i64 y165.trap]) hA (Rd.loadRow (b := b166) (i := o167 + q * 9) (xs := [Value.int .i64 y165.g, Value.int .i64 y165.kind, Value.int .i64 y165.site.f, Value.int .i64 y165.site.pc, Value.int .u32 y165.addr, Value.int .i64 y165.child, Value.int .i64 y165.obj, Value.int .i64 y165.n, Value.int .i64 y165.trap]) (by kernel_rfl) (fun _ hw => row_ld ((hw.1).getG 0 rfl) hy165 (Fr.refl No _) (fun h => h) 0 9 (by kernel_rfl)) (by kernel_rfl)) fun ac hA => sq_p (Value.slice (some ⟨b166, o167, none⟩) l.length c_l) hA fun ac hA => sq_p (Value.int .i64 ((j : Nat) : Int)) hA fun ac hA => ?_
                 obtain ⟨y168, hy168⟩ : ∃ y, l[j]? = some y := ⟨_, List.getElem?_eq_getElem (by first | omega | (simp; done) | (simp; omega))⟩
                 refine sq_q (Value.pointer (some ⟨b166, o167 + j * 9, none⟩)) hA (Rd.indexAddr (e := 50) (sz := 9) (b := b166) (off := o167) (n := l.length) (c := c_l) (k := j) (by kernel_rfl) (by kernel_rfl) (by first | omega | (simp; done) | (simp; omega)) (fun _ => by kernel_rfl) (fun _ => by kernel_rfl)) fun ac hA => sq_q (Value.agg #[Value.int .i64 y168.g, Value.int .i64 y168.kind, Value.int .i64 y168.site.f, Value.int .i64 y168.site.pc, Value.int .u32 y168.addr, Value.int .i64 y168.child, Value.int .i64 y168.obj, Value.int .i64 y168.n, Value.int .i64 y168.trap]) hA (Rd.loadRow (b := b166) (i := o167 + j * 9) (xs := [Value.int .i64 y168.g, Value.int .i64 y168.kind, Value.int .i64 y168.site.f, Value.int .i64 y168.site.pc, Value.int .u32 y168.addr, Value.int .i64 y168.child, Value.int .i64 y168.obj, Value.int .i64 y168.n, Value.int .i64 y168.trap]) (by kernel_rfl) (fun _ hw => row_ld ((hw.1).getG 0 rfl) hy168 (Fr.refl No _) (fun h => h) 0 9 (by kernel_rfl)) (by kernel_rfl)) fun ac hA => ?_
                 refine sq_call (v := Value.bool (evLeads y165 y168)) hA (by kernel_rfl) (by kernel_rfl) (by kernel_rfl) (fun _ => by kernel_rfl) (Cls.callNC fun wx hwx => e_r16leads y165 y168 wx) ?_; clear hA ac; intro ac hA
                 refine sq_p (Value.bool (evLeads y165 y168)) hA ?_; clear hA ac; intro ac hA
                 rcases Bool.eq_false_or_eq_true (evLeads y165 y168) with h169 | h169
                 ·
                  rw [h169] at hA
                  first
                  | (exfalso; clear hA hW; omega)
                  | (
                   refine sq_p (Value.int .i64 ((q : Nat) : Int)) hA fun ac hA => sq_p (Value.int .i64 ((i : Nat) : Int)) hA fun ac hA => sq_p (Value.bool ((((q : Nat) : Int) : Int) == (((i : Nat) : Int) : Int))) hA fun ac hA => sq_p (Value.bool ((((q : Nat) : Int) : Int) == (((i : Nat) : Int) : Int))) hA fun ac hA => ?_
                   rcases Bool.eq_false_or_eq_true ((((q : Nat) : Int) : Int) == (((i : Nat) : Int) : Int)) with h170 | h170
                   ·
                    rw [h170] at hA
                    have h170 := eq_of_beq h170
                    first
                    | (exfalso; clear hA hW; omega)
                    | (
                     refine sq_k hA fun ac hA => sq_k hA fun ac hA => sq_k hA fun ac hA => sq_k hA fun ac hA => sq_p (Value.bool true) hA fun ac hA => sq_p (Value.bool true) hA fun ac hA => sq_p (Value.bool true) hA fun ac hA => sq_p (Value.bool true) hA fun ac hA => ?_
                     refine sq_nil ?_; intro w171 hww171; have hW := hww171.1; have hfw171 := hww171.2; clear hww171
                     refine blkN ?_
                     refine thenN ?_
                     refine wp_region_lit ?_
                     refine st_p (Value.int .i64 ((q : Nat) : Int)) hA fun ac hA => st_q (Value.int .i64 ((q + 1 : Nat) : Int)) hA hW.cls (Rd.pureE (v0 := Value.int .i64 (IntKind.i64.wrap ((((q : Nat) : Int) : Int) + 1))) (fun _ => by kernel_rfl) (congrArg (Value.int .i64) ((w_i64 (x := (((q : Nat) : Int) : Int) + 1) (by omega) (by omega)).trans (by omega)))) fun ac hA => st_p (Value.int .i64 ((q + 1 : Nat) : Int)) hA fun ac hA => ?_
                     refine wpList_nil ?_
                     refine thenN ?_
                     exact ⟨j - (q + 1), by omega, q + 1, true, rfl, by omega, by intro _ _ _ _ _ _ _ _; rfl, hA.sub (by and_intros <;> first | kernel_rfl | trivial), (hW.pick [0] (by decide) rfl).pickG [0] rfl⟩)
                   rw [h170] at hA
                   have h170 := ne_of_beq_false h170
                   first
                   | (exfalso; clear hA hW; omega)
                   | (
                    refine sq_p (Value.pointer (some ⟨n6, 0, none⟩)) hA fun ac hA => sq_p (Value.int .i64 ((i : Nat) : Int)) hA fun ac hA => sq_p (Value.int .i64 ((q : Nat) : Int)) hA fun ac hA => ?_
                    refine sq_call (v := Value.bool (befE l (((i : Nat) : Int)) (((q : Nat) : Int)))) hA (by kernel_rfl) (by kernel_rfl) (by kernel_rfl) (fun _ => by kernel_rfl) (Cls.callNC fun wx hwx => e_obefore n6 n7 n8 l n9 n10 n11 n12 n13 n14 n15 (((i : Nat) : Int)) (((q : Nat) : Int)) wx ((hwx.1).get 0 rfl) ((hwx.1).lt _ (List.mem_of_getElem? (i := 0) rfl)) hok ⟨by omega, by omega⟩ ⟨by omega, by omega⟩) ?_; clear hA ac; intro ac hA
                    refine sq_p (Value.bool (befE l (((i : Nat) : Int)) (((q : Nat) : Int)))) hA fun ac hA => sq_p (Value.bool (befE l (((i : Nat) : Int)) (((q : Nat) : Int)))) hA fun ac hA => sq_p (Value.bool (befE l (((i : Nat) : Int)) (((q : Nat) : Int)))) hA fun ac hA => sq_p (Value.bool (befE l (((i : Nat) : Int)) (((q : Nat) : Int)))) hA fun ac hA => ?_
                    refine sq_nil ?_; intro w172 hww172; have hW := hww172.1; have hfw172 := hww172.2; clear hww172
                    refine blkN ?_
                    refine thenN ?_
                    refine wp_region_lit ?_
                    refine st_p (Value.int .i64 ((q : Nat) : Int)) hA fun ac hA => st_q (Value.int .i64 ((q + 1 : Nat) : Int)) hA hW.cls (Rd.pureE (v0 := Value.int .i64 (IntKind.i64.wrap ((((q : Nat) : Int) : Int) + 1))) (fun _ => by kernel_rfl) (congrArg (Value.int .i64) ((w_i64 (x := (((q : Nat) : Int) : Int) + 1) (by omega) (by omega)).trans (by omega)))) fun ac hA => st_p (Value.int .i64 ((q + 1 : Nat) : Int)) hA fun ac hA => ?_
                    refine wpList_nil ?_
                    refine thenN ?_
                    exact ⟨j - (q + 1), by omega, q + 1, befE l (((i : Nat) : Int)) (((q : Nat) : Int)), rfl, by omega, by intro k_ hk_ a_ b2_ ha_ hb2_ hle_ ho_; rcases Nat.lt_or_ge k_ q with hk2_ | hk2_; exact absurd (hld k_ hk2_ a_ b2_ ha_ hb2_ hle_ ho_) (by rw [h163]; decide); (rw [show k_ = q from by omega] at ha_ ho_; have q1_ := Option.some.inj (ha_.symm.trans hy165); have q2_ := Option.some.inj (hb2_.symm.trans hy168); rw [q1_, q2_] at hle_; rcases ho_ with ho_ | ho_; (exfalso; omega); exact ho_), hA.sub (by and_intros <;> first | kernel_rfl | trivial), (hW.pick [0] (by decide) rfl).pickG [0] rfl⟩))
                 rw [h169] at hA
                 first
                 | (exfalso; clear hA hW; omega)
                 | (
                  refine sq_k hA fun ac hA => sq_k hA fun ac hA => sq_k hA fun ac hA => sq_k hA fun ac hA => sq_k hA fun ac hA => sq_k hA fun ac hA => sq_k hA fun ac hA => sq_k hA fun ac hA => sq_k hA fun ac hA => sq_p (Value.bool false) hA fun ac hA => sq_p (Value.bool false) hA fun ac hA => sq_p (Value.bool false) hA fun ac hA => ?_
                  refine sq_nil ?_; intro w173 hww173; have hW := hww173.1; have hfw173 := hww173.2; clear hww173
                  refine blkN ?_
                  refine thenN ?_
                  refine wp_region_lit ?_
                  refine st_p (Value.int .i64 ((q : Nat) : Int)) hA fun ac hA => st_q (Value.int .i64 ((q + 1 : Nat) : Int)) hA hW.cls (Rd.pureE (v0 := Value.int .i64 (IntKind.i64.wrap ((((q : Nat) : Int) : Int) + 1))) (fun _ => by kernel_rfl) (congrArg (Value.int .i64) ((w_i64 (x := (((q : Nat) : Int) : Int) + 1) (by omega) (by omega)).trans (by omega)))) fun ac hA => st_p (Value.int .i64 ((q + 1 : Nat) : Int)) hA fun ac hA => ?_
                  refine wpList_nil ?_
                  refine thenN ?_
                  exact ⟨j - (q + 1), by omega, q + 1, false, rfl, by omega, by intro k_ hk_ a_ b2_ ha_ hb2_ hle_ ho_; rcases Nat.lt_or_ge k_ q with hk2_ | hk2_; exact absurd (hld k_ hk2_ a_ b2_ ha_ hb2_ hle_ ho_) (by rw [h163]; decide); (rw [show k_ = q from by omega] at ha_ ho_; have q1_ := Option.some.inj (ha_.symm.trans hy165); have q2_ := Option.some.inj (hb2_.symm.trans hy168); rw [q1_, q2_] at hle_; exact absurd hle_ (of_decide_eq_false h169)), hA.sub (by and_intros <;> first | kernel_rfl | trivial), (hW.pick [0] (by decide) rfl).pickG [0] rfl⟩))))
             rw [h161] at hA
             first
             | (exfalso; clear hA hW; omega)
             | (
              refine st_k hA fun ac hA => st_k hA fun ac hA => st_p (Value.bool false) hA fun ac hA => ?_
              refine wpList_nil ?_
              refine thenN ?_
              refine wp_cond_false (hA.eval (by kernel_rfl)) ?_
              refine wp_skip ?_
              refine thenN ?_
              refine q_region (by kernel_rfl) (by kernel_rfl) hW ?_
              refine sq_p (Value.bool led_) hA fun ac hA => sq_p (Value.bool led_) hA fun ac hA => ?_
              rcases Bool.eq_false_or_eq_true (led_) with h174 | h174
              ·
               rw [h174] at hA
               first
               | (exfalso; clear hA hW; omega)
               | (
                refine sq_k hA fun ac hA => sq_k hA fun ac hA => sq_k hA fun ac hA => sq_k hA fun ac hA => sq_k hA fun ac hA => sq_k hA fun ac hA => sq_k hA fun ac hA => sq_k hA fun ac hA => sq_k hA fun ac hA => sq_k hA fun ac hA => sq_k hA fun ac hA => sq_k hA fun ac hA => sq_k hA fun ac hA => sq_k hA fun ac hA => sq_k hA fun ac hA => sq_k hA fun ac hA => sq_k hA fun ac hA => sq_k hA fun ac hA => sq_k hA fun ac hA => sq_k hA fun ac hA => sq_p (Value.bool true) hA fun ac hA => sq_p (Value.bool true) hA fun ac hA => ?_
                refine sq_nil ?_; intro w175 hww175; have hW := hww175.1; have hfw175 := hww175.2; clear hww175
                refine blkN ?_
                refine thenN ?_
                refine wp_region_lit ?_
                refine st_p (Value.int .i64 ((q : Nat) : Int)) hA fun ac hA => st_q (Value.int .i64 ((q + 1 : Nat) : Int)) hA hW.cls (Rd.pureE (v0 := Value.int .i64 (IntKind.i64.wrap ((((q : Nat) : Int) : Int) + 1))) (fun _ => by kernel_rfl) (congrArg (Value.int .i64) ((w_i64 (x := (((q : Nat) : Int) : Int) + 1) (by omega) (by omega)).trans (by omega)))) fun ac hA => st_p (Value.int .i64 ((q + 1 : Nat) : Int)) hA fun ac hA => ?_
                refine wpList_nil ?_
                refine thenN ?_
                exact ⟨j - (q + 1), by omega, q + 1, true, rfl, by omega, by intro _ _ _ _ _ _ _ _; rfl, hA.sub (by and_intros <;> first | kernel_rfl | trivial), (hW.pick [0] (by decide) rfl).pickG [0] rfl⟩)
              rw [h174] at hA
              first
              | (exfalso; clear hA hW; omega)
              | (
               refine sq_p (Value.slice A_l l.length c_l) hA fun ac hA => sq_p (Value.int .i64 ((q : Nat) : Int)) hA fun ac hA => ?_
               obtain ⟨y176, hy176⟩ : ∃ y, l[q]? = some y := ⟨_, List.getElem?_eq_getElem (by first | omega | (simp; done) | (simp; omega))⟩
               obtain ⟨b177, o178, rfl, hbb177⟩ := row_some ((hW).getG 0 rfl) hy176
               refine sq_q (Value.pointer (some ⟨b177, o178 + q * 9, none⟩)) hA (Rd.indexAddr (e := 50) (sz := 9) (b := b177) (off := o178) (n := l.length) (c := c_l) (k := q) (by kernel_rfl) (by kernel_rfl) (by first | omega | (simp; done) | (simp; omega)) (fun _ => by kernel_rfl) (fun _ => by kernel_rfl)) fun ac hA => sq_q (Value.agg #[Value.int .i64 y176.g, Value.int .i64 y176.kind, Value.int .i64 y176.site.f, Value.int .i64 y176.site.pc, Value.int .u32 y176.addr, Value.int .i64 y176.child, Value.int .i64 y176.obj, Value.int .i64 y176.n, Value.int .i64 y176.trap]) hA (Rd.loadRow (b := b177) (i := o178 + q * 9) (xs := [Value.int .i64 y176.g, Value.int .i64 y176.kind, Value.int .i64 y176.site.f, Value.int .i64 y176.site.pc, Value.int .u32 y176.addr, Value.int .i64 y176.child, Value.int .i64 y176.obj, Value.int .i64 y176.n, Value.int .i64 y176.trap]) (by kernel_rfl) (fun _ hw => row_ld ((hw.1).getG 0 rfl) hy176 (Fr.refl No _) (fun h => h) 0 9 (by kernel_rfl)) (by kernel_rfl)) fun ac hA => sq_p (Value.slice (some ⟨b177, o178, none⟩) l.length c_l) hA fun ac hA => sq_p (Value.int .i64 ((j : Nat) : Int)) hA fun ac hA => ?_
               obtain ⟨y179, hy179⟩ : ∃ y, l[j]? = some y := ⟨_, List.getElem?_eq_getElem (by first | omega | (simp; done) | (simp; omega))⟩
               refine sq_q (Value.pointer (some ⟨b177, o178 + j * 9, none⟩)) hA (Rd.indexAddr (e := 50) (sz := 9) (b := b177) (off := o178) (n := l.length) (c := c_l) (k := j) (by kernel_rfl) (by kernel_rfl) (by first | omega | (simp; done) | (simp; omega)) (fun _ => by kernel_rfl) (fun _ => by kernel_rfl)) fun ac hA => sq_q (Value.agg #[Value.int .i64 y179.g, Value.int .i64 y179.kind, Value.int .i64 y179.site.f, Value.int .i64 y179.site.pc, Value.int .u32 y179.addr, Value.int .i64 y179.child, Value.int .i64 y179.obj, Value.int .i64 y179.n, Value.int .i64 y179.trap]) hA (Rd.loadRow (b := b177) (i := o178 + j * 9) (xs := [Value.int .i64 y179.g, Value.int .i64 y179.kind, Value.int .i64 y179.site.f, Value.int .i64 y179.site.pc, Value.int .u32 y179.addr, Value.int .i64 y179.child, Value.int .i64 y179.obj, Value.int .i64 y179.n, Value.int .i64 y179.trap]) (by kernel_rfl) (fun _ hw => row_ld ((hw.1).getG 0 rfl) hy179 (Fr.refl No _) (fun h => h) 0 9 (by kernel_rfl)) (by kernel_rfl)) fun ac hA => ?_
               refine sq_call (v := Value.bool (evLeads y176 y179)) hA (by kernel_rfl) (by kernel_rfl) (by kernel_rfl) (fun _ => by kernel_rfl) (Cls.callNC fun wx hwx => e_r16leads y176 y179 wx) ?_; clear hA ac; intro ac hA
               refine sq_p (Value.bool (evLeads y176 y179)) hA ?_; clear hA ac; intro ac hA
               rcases Bool.eq_false_or_eq_true (evLeads y176 y179) with h180 | h180
               ·
                rw [h180] at hA
                first
                | (exfalso; clear hA hW; omega)
                | (
                 refine sq_p (Value.int .i64 ((q : Nat) : Int)) hA fun ac hA => sq_p (Value.int .i64 ((i : Nat) : Int)) hA fun ac hA => sq_p (Value.bool ((((q : Nat) : Int) : Int) == (((i : Nat) : Int) : Int))) hA fun ac hA => sq_p (Value.bool ((((q : Nat) : Int) : Int) == (((i : Nat) : Int) : Int))) hA fun ac hA => ?_
                 rcases Bool.eq_false_or_eq_true ((((q : Nat) : Int) : Int) == (((i : Nat) : Int) : Int)) with h181 | h181
                 ·
                  rw [h181] at hA
                  have h181 := eq_of_beq h181
                  first
                  | (exfalso; clear hA hW; omega)
                  | (
                   refine sq_k hA fun ac hA => sq_k hA fun ac hA => sq_k hA fun ac hA => sq_k hA fun ac hA => sq_p (Value.bool true) hA fun ac hA => sq_p (Value.bool true) hA fun ac hA => sq_p (Value.bool true) hA fun ac hA => sq_p (Value.bool true) hA fun ac hA => ?_
                   refine sq_nil ?_; intro w182 hww182; have hW := hww182.1; have hfw182 := hww182.2; clear hww182
                   refine blkN ?_
                   refine thenN ?_
                   refine wp_region_lit ?_
                   refine st_p (Value.int .i64 ((q : Nat) : Int)) hA fun ac hA => st_q (Value.int .i64 ((q + 1 : Nat) : Int)) hA hW.cls (Rd.pureE (v0 := Value.int .i64 (IntKind.i64.wrap ((((q : Nat) : Int) : Int) + 1))) (fun _ => by kernel_rfl) (congrArg (Value.int .i64) ((w_i64 (x := (((q : Nat) : Int) : Int) + 1) (by omega) (by omega)).trans (by omega)))) fun ac hA => st_p (Value.int .i64 ((q + 1 : Nat) : Int)) hA fun ac hA => ?_
                   refine wpList_nil ?_
                   refine thenN ?_
                   exact ⟨j - (q + 1), by omega, q + 1, true, rfl, by omega, by intro _ _ _ _ _ _ _ _; rfl, hA.sub (by and_intros <;> first | kernel_rfl | trivial), (hW.pick [0] (by decide) rfl).pickG [0] rfl⟩)
                 rw [h181] at hA
                 have h181 := ne_of_beq_false h181
                 first
                 | (exfalso; clear hA hW; omega)
                 | (
                  refine sq_p (Value.pointer (some ⟨n6, 0, none⟩)) hA fun ac hA => sq_p (Value.int .i64 ((i : Nat) : Int)) hA fun ac hA => sq_p (Value.int .i64 ((q : Nat) : Int)) hA fun ac hA => ?_
                  refine sq_call (v := Value.bool (befE l (((i : Nat) : Int)) (((q : Nat) : Int)))) hA (by kernel_rfl) (by kernel_rfl) (by kernel_rfl) (fun _ => by kernel_rfl) (Cls.callNC fun wx hwx => e_obefore n6 n7 n8 l n9 n10 n11 n12 n13 n14 n15 (((i : Nat) : Int)) (((q : Nat) : Int)) wx ((hwx.1).get 0 rfl) ((hwx.1).lt _ (List.mem_of_getElem? (i := 0) rfl)) hok ⟨by omega, by omega⟩ ⟨by omega, by omega⟩) ?_; clear hA ac; intro ac hA
                  refine sq_p (Value.bool (befE l (((i : Nat) : Int)) (((q : Nat) : Int)))) hA fun ac hA => sq_p (Value.bool (befE l (((i : Nat) : Int)) (((q : Nat) : Int)))) hA fun ac hA => sq_p (Value.bool (befE l (((i : Nat) : Int)) (((q : Nat) : Int)))) hA fun ac hA => sq_p (Value.bool (befE l (((i : Nat) : Int)) (((q : Nat) : Int)))) hA fun ac hA => ?_
                  refine sq_nil ?_; intro w183 hww183; have hW := hww183.1; have hfw183 := hww183.2; clear hww183
                  refine blkN ?_
                  refine thenN ?_
                  refine wp_region_lit ?_
                  refine st_p (Value.int .i64 ((q : Nat) : Int)) hA fun ac hA => st_q (Value.int .i64 ((q + 1 : Nat) : Int)) hA hW.cls (Rd.pureE (v0 := Value.int .i64 (IntKind.i64.wrap ((((q : Nat) : Int) : Int) + 1))) (fun _ => by kernel_rfl) (congrArg (Value.int .i64) ((w_i64 (x := (((q : Nat) : Int) : Int) + 1) (by omega) (by omega)).trans (by omega)))) fun ac hA => st_p (Value.int .i64 ((q + 1 : Nat) : Int)) hA fun ac hA => ?_
                  refine wpList_nil ?_
                  refine thenN ?_
                  exact ⟨j - (q + 1), by omega, q + 1, befE l (((i : Nat) : Int)) (((q : Nat) : Int)), rfl, by omega, by intro k_ hk_ a_ b2_ ha_ hb2_ hle_ ho_; rcases Nat.lt_or_ge k_ q with hk2_ | hk2_; exact absurd (hld k_ hk2_ a_ b2_ ha_ hb2_ hle_ ho_) (by rw [h174]; decide); (rw [show k_ = q from by omega] at ha_ ho_; have q1_ := Option.some.inj (ha_.symm.trans hy176); have q2_ := Option.some.inj (hb2_.symm.trans hy179); rw [q1_, q2_] at hle_; rcases ho_ with ho_ | ho_; (exfalso; omega); exact ho_), hA.sub (by and_intros <;> first | kernel_rfl | trivial), (hW.pick [0] (by decide) rfl).pickG [0] rfl⟩))
               rw [h180] at hA
               first
               | (exfalso; clear hA hW; omega)
               | (
                refine sq_k hA fun ac hA => sq_k hA fun ac hA => sq_k hA fun ac hA => sq_k hA fun ac hA => sq_k hA fun ac hA => sq_k hA fun ac hA => sq_k hA fun ac hA => sq_k hA fun ac hA => sq_k hA fun ac hA => sq_p (Value.bool false) hA fun ac hA => sq_p (Value.bool false) hA fun ac hA => sq_p (Value.bool false) hA fun ac hA => ?_
                refine sq_nil ?_; intro w184 hww184; have hW := hww184.1; have hfw184 := hww184.2; clear hww184
                refine blkN ?_
                refine thenN ?_
                refine wp_region_lit ?_
                refine st_p (Value.int .i64 ((q : Nat) : Int)) hA fun ac hA => st_q (Value.int .i64 ((q + 1 : Nat) : Int)) hA hW.cls (Rd.pureE (v0 := Value.int .i64 (IntKind.i64.wrap ((((q : Nat) : Int) : Int) + 1))) (fun _ => by kernel_rfl) (congrArg (Value.int .i64) ((w_i64 (x := (((q : Nat) : Int) : Int) + 1) (by omega) (by omega)).trans (by omega)))) fun ac hA => st_p (Value.int .i64 ((q + 1 : Nat) : Int)) hA fun ac hA => ?_
                refine wpList_nil ?_
                refine thenN ?_
                exact ⟨j - (q + 1), by omega, q + 1, false, rfl, by omega, by intro k_ hk_ a_ b2_ ha_ hb2_ hle_ ho_; rcases Nat.lt_or_ge k_ q with hk2_ | hk2_; exact absurd (hld k_ hk2_ a_ b2_ ha_ hb2_ hle_ ho_) (by rw [h174]; decide); (rw [show k_ = q from by omega] at ha_ ho_; have q1_ := Option.some.inj (ha_.symm.trans hy176); have q2_ := Option.some.inj (hb2_.symm.trans hy179); rw [q1_, q2_] at hle_; exact absurd hle_ (of_decide_eq_false h180)), hA.sub (by and_intros <;> first | kernel_rfl | trivial), (hW.pick [0] (by decide) rfl).pickG [0] rfl⟩))))
           rw [h159] at hA
           first
           | (exfalso; clear hA hW; omega)
           | (
            refine st_k hA fun ac hA => st_k hA fun ac hA => st_k hA fun ac hA => st_k hA fun ac hA => st_p (Value.bool false) hA fun ac hA => st_p (Value.bool false) hA fun ac hA => st_k hA fun ac hA => st_k hA fun ac hA => st_p (Value.bool false) hA fun ac hA => ?_
            refine wpList_nil ?_
            refine thenN ?_
            refine wp_cond_false (hA.eval (by kernel_rfl)) ?_
            refine wp_skip ?_
            refine thenN ?_
            refine q_region (by kernel_rfl) (by kernel_rfl) hW ?_
            refine sq_p (Value.bool led_) hA fun ac hA => sq_p (Value.bool led_) hA fun ac hA => ?_
            rcases Bool.eq_false_or_eq_true (led_) with h185 | h185
            ·
             rw [h185] at hA
             first
             | (exfalso; clear hA hW; omega)
             | (
              refine sq_k hA fun ac hA => sq_k hA fun ac hA => sq_k hA fun ac hA => sq_k hA fun ac hA => sq_k hA fun ac hA => sq_k hA fun ac hA => sq_k hA fun ac hA => sq_k hA fun ac hA => sq_k hA fun ac hA => sq_k hA fun ac hA => sq_k hA fun ac hA => sq_k hA fun ac hA => sq_k hA fun ac hA => sq_k hA fun ac hA => sq_k hA fun ac hA => sq_k hA fun ac hA => sq_k hA fun ac hA => sq_k hA fun ac hA => sq_k hA fun ac hA => sq_k hA fun ac hA => sq_p (Value.bool true) hA fun ac hA => sq_p (Value.bool true) hA fun ac hA => ?_
              refine sq_nil ?_; intro w186 hww186; have hW := hww186.1; have hfw186 := hww186.2; clear hww186
              refine blkN ?_
              refine thenN ?_
              refine wp_region_lit ?_
              refine st_p (Value.int .i64 ((q : Nat) : Int)) hA fun ac hA => st_q (Value.int .i64 ((q + 1 : Nat) : Int)) hA hW.cls (Rd.pureE (v0 := Value.int .i64 (IntKind.i64.wrap ((((q : Nat) : Int) : Int) + 1))) (fun _ => by kernel_rfl) (congrArg (Value.int .i64) ((w_i64 (x := (((q : Nat) : Int) : Int) + 1) (by omega) (by omega)).trans (by omega)))) fun ac hA => st_p (Value.int .i64 ((q + 1 : Nat) : Int)) hA fun ac hA => ?_
              refine wpList_nil ?_
              refine thenN ?_
              exact ⟨j - (q + 1), by omega, q + 1, true, rfl, by omega, by intro _ _ _ _ _ _ _ _; rfl, hA.sub (by and_intros <;> first | kernel_rfl | trivial), (hW.pick [0] (by decide) rfl).pickG [0] rfl⟩)
            rw [h185] at hA
            first
            | (exfalso; clear hA hW; omega)
            | (
             refine sq_p (Value.slice A_l l.length c_l) hA fun ac hA => sq_p (Value.int .i64 ((q : Nat) : Int)) hA fun ac hA => ?_
             obtain ⟨y187, hy187⟩ : ∃ y, l[q]? = some y := ⟨_, List.getElem?_eq_getElem (by first | omega | (simp; done) | (simp; omega))⟩
             obtain ⟨b188, o189, rfl, hbb188⟩ := row_some ((hW).getG 0 rfl) hy187
             refine sq_q (Value.pointer (some ⟨b188, o189 + q * 9, none⟩)) hA (Rd.indexAddr (e := 50) (sz := 9) (b := b188) (off := o189) (n := l.length) (c := c_l) (k := q) (by kernel_rfl) (by kernel_rfl) (by first | omega | (simp; done) | (simp; omega)) (fun _ => by kernel_rfl) (fun _ => by kernel_rfl)) fun ac hA => sq_q (Value.agg #[Value.int .i64 y187.g, Value.int .i64 y187.kind, Value.int .i64 y187.site.f, Value.int .i64 y187.site.pc, Value.int .u32 y187.addr, Value.int .i64 y187.child, Value.int .i64 y187.obj, Value.int .i64 y187.n, Value.int .i64 y187.trap]) hA (Rd.loadRow (b := b188) (i := o189 + q * 9) (xs := [Value.int .i64 y187.g, Value.int .i64 y187.kind, Value.int .i64 y187.site.f, Value.int .i64 y187.site.pc, Value.int .u32 y187.addr, Value.int .i64 y187.child, Value.int .i64 y187.obj, Value.int .i64 y187.n, Value.int .i64 y187.trap]) (by kernel_rfl) (fun _ hw => row_ld ((hw.1).getG 0 rfl) hy187 (Fr.refl No _) (fun h => h) 0 9 (by kernel_rfl)) (by kernel_rfl)) fun ac hA => sq_p (Value.slice (some ⟨b188, o189, none⟩) l.length c_l) hA fun ac hA => sq_p (Value.int .i64 ((j : Nat) : Int)) hA fun ac hA => ?_
             obtain ⟨y190, hy190⟩ : ∃ y, l[j]? = some y := ⟨_, List.getElem?_eq_getElem (by first | omega | (simp; done) | (simp; omega))⟩
             refine sq_q (Value.pointer (some ⟨b188, o189 + j * 9, none⟩)) hA (Rd.indexAddr (e := 50) (sz := 9) (b := b188) (off := o189) (n := l.length) (c := c_l) (k := j) (by kernel_rfl) (by kernel_rfl) (by first | omega | (simp; done) | (simp; omega)) (fun _ => by kernel_rfl) (fun _ => by kernel_rfl)) fun ac hA => sq_q (Value.agg #[Value.int .i64 y190.g, Value.int .i64 y190.kind, Value.int .i64 y190.site.f, Value.int .i64 y190.site.pc, Value.int .u32 y190.addr, Value.int .i64 y190.child, Value.int .i64 y190.obj, Value.int .i64 y190.n, Value.int .i64 y190.trap]) hA (Rd.loadRow (b := b188) (i := o189 + j * 9) (xs := [Value.int .i64 y190.g, Value.int .i64 y190.kind, Value.int .i64 y190.site.f, Value.int .i64 y190.site.pc, Value.int .u32 y190.addr, Value.int .i64 y190.child, Value.int .i64 y190.obj, Value.int .i64 y190.n, Value.int .i64 y190.trap]) (by kernel_rfl) (fun _ hw => row_ld ((hw.1).getG 0 rfl) hy190 (Fr.refl No _) (fun h => h) 0 9 (by kernel_rfl)) (by kernel_rfl)) fun ac hA => ?_
             refine sq_call (v := Value.bool (evLeads y187 y190)) hA (by kernel_rfl) (by kernel_rfl) (by kernel_rfl) (fun _ => by kernel_rfl) (Cls.callNC fun wx hwx => e_r16leads y187 y190 wx) ?_; clear hA ac; intro ac hA
             refine sq_p (Value.bool (evLeads y187 y190)) hA ?_; clear hA ac; intro ac hA
             rcases Bool.eq_false_or_eq_true (evLeads y187 y190) with h191 | h191
             ·
              rw [h191] at hA
              first
              | (exfalso; clear hA hW; omega)
              | (
               refine sq_p (Value.int .i64 ((q : Nat) : Int)) hA fun ac hA => sq_p (Value.int .i64 ((i : Nat) : Int)) hA fun ac hA => sq_p (Value.bool ((((q : Nat) : Int) : Int) == (((i : Nat) : Int) : Int))) hA fun ac hA => sq_p (Value.bool ((((q : Nat) : Int) : Int) == (((i : Nat) : Int) : Int))) hA fun ac hA => ?_
               rcases Bool.eq_false_or_eq_true ((((q : Nat) : Int) : Int) == (((i : Nat) : Int) : Int)) with h192 | h192
               ·
                rw [h192] at hA
                have h192 := eq_of_beq h192
                first
                | (exfalso; clear hA hW; omega)
                | (
                 refine sq_k hA fun ac hA => sq_k hA fun ac hA => sq_k hA fun ac hA => sq_k hA fun ac hA => sq_p (Value.bool true) hA fun ac hA => sq_p (Value.bool true) hA fun ac hA => sq_p (Value.bool true) hA fun ac hA => sq_p (Value.bool true) hA fun ac hA => ?_
                 refine sq_nil ?_; intro w193 hww193; have hW := hww193.1; have hfw193 := hww193.2; clear hww193
                 refine blkN ?_
                 refine thenN ?_
                 refine wp_region_lit ?_
                 refine st_p (Value.int .i64 ((q : Nat) : Int)) hA fun ac hA => st_q (Value.int .i64 ((q + 1 : Nat) : Int)) hA hW.cls (Rd.pureE (v0 := Value.int .i64 (IntKind.i64.wrap ((((q : Nat) : Int) : Int) + 1))) (fun _ => by kernel_rfl) (congrArg (Value.int .i64) ((w_i64 (x := (((q : Nat) : Int) : Int) + 1) (by omega) (by omega)).trans (by omega)))) fun ac hA => st_p (Value.int .i64 ((q + 1 : Nat) : Int)) hA fun ac hA => ?_
                 refine wpList_nil ?_
                 refine thenN ?_
                 exact ⟨j - (q + 1), by omega, q + 1, true, rfl, by omega, by intro _ _ _ _ _ _ _ _; rfl, hA.sub (by and_intros <;> first | kernel_rfl | trivial), (hW.pick [0] (by decide) rfl).pickG [0] rfl⟩)
               rw [h192] at hA
               have h192 := ne_of_beq_false h192
               first
               | (exfalso; clear hA hW; omega)
               | (
                refine sq_p (Value.pointer (some ⟨n6, 0, none⟩)) hA fun ac hA => sq_p (Value.int .i64 ((i : Nat) : Int)) hA fun ac hA => sq_p (Value.int .i64 ((q : Nat) : Int)) hA fun ac hA => ?_
                refine sq_call (v := Value.bool (befE l (((i : Nat) : Int)) (((q : Nat) : Int)))) hA (by kernel_rfl) (by kernel_rfl) (by kernel_rfl) (fun _ => by kernel_rfl) (Cls.callNC fun wx hwx => e_obefore n6 n7 n8 l n9 n10 n11 n12 n13 n14 n15 (((i : Nat) : Int)) (((q : Nat) : Int)) wx ((hwx.1).get 0 rfl) ((hwx.1).lt _ (List.mem_of_getElem? (i := 0) rfl)) hok ⟨by omega, by omega⟩ ⟨by omega, by omega⟩) ?_; clear hA ac; intro ac hA
                refine sq_p (Value.bool (befE l (((i : Nat) : Int)) (((q : Nat) : Int)))) hA fun ac hA => sq_p (Value.bool (befE l (((i : Nat) : Int)) (((q : Nat) : Int)))) hA fun ac hA => sq_p (Value.bool (befE l (((i : Nat) : Int)) (((q : Nat) : Int)))) hA fun ac hA => sq_p (Value.bool (befE l (((i : Nat) : Int)) (((q : Nat) : Int)))) hA fun ac hA => ?_
                refine sq_nil ?_; intro w194 hww194; have hW := hww194.1; have hfw194 := hww194.2; clear hww194
                refine blkN ?_
                refine thenN ?_
                refine wp_region_lit ?_
                refine st_p (Value.int .i64 ((q : Nat) : Int)) hA fun ac hA => st_q (Value.int .i64 ((q + 1 : Nat) : Int)) hA hW.cls (Rd.pureE (v0 := Value.int .i64 (IntKind.i64.wrap ((((q : Nat) : Int) : Int) + 1))) (fun _ => by kernel_rfl) (congrArg (Value.int .i64) ((w_i64 (x := (((q : Nat) : Int) : Int) + 1) (by omega) (by omega)).trans (by omega)))) fun ac hA => st_p (Value.int .i64 ((q + 1 : Nat) : Int)) hA fun ac hA => ?_
                refine wpList_nil ?_
                refine thenN ?_
                exact ⟨j - (q + 1), by omega, q + 1, befE l (((i : Nat) : Int)) (((q : Nat) : Int)), rfl, by omega, by intro k_ hk_ a_ b2_ ha_ hb2_ hle_ ho_; rcases Nat.lt_or_ge k_ q with hk2_ | hk2_; exact absurd (hld k_ hk2_ a_ b2_ ha_ hb2_ hle_ ho_) (by rw [h185]; decide); (rw [show k_ = q from by omega] at ha_ ho_; have q1_ := Option.some.inj (ha_.symm.trans hy187); have q2_ := Option.some.inj (hb2_.symm.trans hy190); rw [q1_, q2_] at hle_; rcases ho_ with ho_ | ho_; (exfalso; omega); exact ho_), hA.sub (by and_intros <;> first | kernel_rfl | trivial), (hW.pick [0] (by decide) rfl).pickG [0] rfl⟩))
             rw [h191] at hA
             first
             | (exfalso; clear hA hW; omega)
             | (
              refine sq_k hA fun ac hA => sq_k hA fun ac hA => sq_k hA fun ac hA => sq_k hA fun ac hA => sq_k hA fun ac hA => sq_k hA fun ac hA => sq_k hA fun ac hA => sq_k hA fun ac hA => sq_k hA fun ac hA => sq_p (Value.bool false) hA fun ac hA => sq_p (Value.bool false) hA fun ac hA => sq_p (Value.bool false) hA fun ac hA => ?_
              refine sq_nil ?_; intro w195 hww195; have hW := hww195.1; have hfw195 := hww195.2; clear hww195
              refine blkN ?_
              refine thenN ?_
              refine wp_region_lit ?_
              refine st_p (Value.int .i64 ((q : Nat) : Int)) hA fun ac hA => st_q (Value.int .i64 ((q + 1 : Nat) : Int)) hA hW.cls (Rd.pureE (v0 := Value.int .i64 (IntKind.i64.wrap ((((q : Nat) : Int) : Int) + 1))) (fun _ => by kernel_rfl) (congrArg (Value.int .i64) ((w_i64 (x := (((q : Nat) : Int) : Int) + 1) (by omega) (by omega)).trans (by omega)))) fun ac hA => st_p (Value.int .i64 ((q + 1 : Nat) : Int)) hA fun ac hA => ?_
              refine wpList_nil ?_
              refine thenN ?_
              exact ⟨j - (q + 1), by omega, q + 1, false, rfl, by omega, by intro k_ hk_ a_ b2_ ha_ hb2_ hle_ ho_; rcases Nat.lt_or_ge k_ q with hk2_ | hk2_; exact absurd (hld k_ hk2_ a_ b2_ ha_ hb2_ hle_ ho_) (by rw [h185]; decide); (rw [show k_ = q from by omega] at ha_ ho_; have q1_ := Option.some.inj (ha_.symm.trans hy187); have q2_ := Option.some.inj (hb2_.symm.trans hy190); rw [q1_, q2_] at hle_; exact absurd hle_ (of_decide_eq_false h191)), hA.sub (by and_intros <;> first | kernel_rfl | trivial), (hW.pick [0] (by decide) rfl).pickG [0] rfl⟩))))
         have h157 := of_decide_eq_false h157
         first
         | (exfalso; clear hA hW; omega)
         | (
          refine wp_exit ?_
          refine thenX ?_
          refine thenX ?_
          refine blkX ?_
          refine thenN ?_
          refine wp_seq ?_
          refine wp_region_lit ?_
          refine st_p (Value.bool b_) hA fun ac hA => st_p (Value.bool b_) hA fun ac hA => ?_
          rcases Bool.eq_false_or_eq_true (b_) with h196 | h196
          ·
           rw [h196] at hA
           first
           | (exfalso; clear hA hW; omega)
           | (exfalso; clear hA hW; obtain ⟨k_, a_, b2_, hk_, ha_, hb2_, hle_, ho_⟩ := bef_led hev (show befE l (i : Int) (j : Int) = true from hb_.symm.trans h196); exact absurd (hld k_ (by omega) a_ b2_ ha_ hb2_ hle_ ho_) (by rw [h196]; decide); done)
           | (
            refine st_p (Value.bool led_) hA fun ac hA => st_p (Value.bool (!led_)) hA fun ac hA => st_p (Value.bool (!led_)) hA fun ac hA => ?_
            refine wpList_nil ?_
            refine thenN ?_
            refine wp_cond_split (t := !led_) (hA.eval (by kernel_rfl)) (fun h197 => ?_) (fun h197 => ?_)
            ·
             have h197 := not_t h197
             first
             | (exfalso; clear hA hW; omega)
             | (exfalso; clear hA hW; obtain ⟨k_, a_, b2_, hk_, ha_, hb2_, hle_, ho_⟩ := bef_led hev (show befE l (i : Int) (j : Int) = true from hb_.symm.trans h196); exact absurd (hld k_ (by omega) a_ b2_ ha_ hb2_ hle_ ho_) (by rw [h197]; decide); done)
             | (
              refine wp_seq ?_
              refine wp_region_lit ?_
              refine st_p (Value.bool false) hA ?_; clear hA ac; intro ac hA
              refine wpList_nil ?_
              refine thenN ?_
              refine wp_ret ?_
              refine blkR ?_
              refine thenR ?_
              refine thenR ?_
              refine blkR ?_
              refine blkR ?_
              refine thenR ?_
              refine thenR ?_
              refine blkR ?_
              refine thenR ?_
              refine ret1 (v := Value.bool false) (by rfl) hA (Got.tmp hA (by kernel_rfl) (by kernel_rfl)) ?_
              clear hA
              exact ⟨retv (by rfl), hW.fr⟩)
            have h197 := not_f h197
            first
            | (exfalso; clear hA hW; omega)
            | (exfalso; clear hA hW; obtain ⟨k_, a_, b2_, hk_, ha_, hb2_, hle_, ho_⟩ := bef_led hev (show befE l (i : Int) (j : Int) = true from hb_.symm.trans h196); exact absurd (hld k_ (by omega) a_ b2_ ha_ hb2_ hle_ ho_) (by rw [h197]; decide); done)
            | (
             refine wp_skip ?_
             refine blkN ?_
             refine thenN ?_
             refine wp_region_lit ?_
             refine st_p (Value.int .i64 ((i : Nat) : Int)) hA fun ac hA => st_q (Value.int .i64 ((i + 1 : Nat) : Int)) hA hW.cls (Rd.pureE (v0 := Value.int .i64 (IntKind.i64.wrap ((((i : Nat) : Int) : Int) + 1))) (fun _ => by kernel_rfl) (congrArg (Value.int .i64) ((w_i64 (x := (((i : Nat) : Int) : Int) + 1) (by omega) (by omega)).trans (by omega)))) fun ac hA => st_p (Value.int .i64 ((i + 1 : Nat) : Int)) hA fun ac hA => ?_
             refine wpList_nil ?_
             refine thenN ?_
             exact ⟨l.length - (i + 1), by omega, i + 1, rfl, by omega, hA.sub (by and_intros <;> first | kernel_rfl | trivial), (hW.pick [0] (by decide) rfl).pickG [0] rfl⟩))
          rw [h196] at hA
          first
          | (exfalso; clear hA hW; omega)
          | (exfalso; clear hA hW; obtain ⟨k_, a_, b2_, hk_, ha_, hb2_, hle_, ho_⟩ := bef_led hev (show befE l (i : Int) (j : Int) = true from hb_.symm.trans rfl); exact absurd (hld k_ (by omega) a_ b2_ ha_ hb2_ hle_ ho_) (by rw [h196]; decide); done)
          | (
           refine st_k hA fun ac hA => st_k hA fun ac hA => st_p (Value.bool false) hA fun ac hA => ?_
           refine wpList_nil ?_
           refine thenN ?_
           refine wp_cond_false (hA.eval (by kernel_rfl)) ?_
           refine wp_skip ?_
           refine blkN ?_
           refine thenN ?_
           refine wp_region_lit ?_
           refine st_p (Value.int .i64 ((i : Nat) : Int)) hA fun ac hA => st_q (Value.int .i64 ((i + 1 : Nat) : Int)) hA hW.cls (Rd.pureE (v0 := Value.int .i64 (IntKind.i64.wrap ((((i : Nat) : Int) : Int) + 1))) (fun _ => by kernel_rfl) (congrArg (Value.int .i64) ((w_i64 (x := (((i : Nat) : Int) : Int) + 1) (by omega) (by omega)).trans (by omega)))) fun ac hA => st_p (Value.int .i64 ((i + 1 : Nat) : Int)) hA fun ac hA => ?_
           refine wpList_nil ?_
           refine thenN ?_
           exact ⟨l.length - (i + 1), by omega, i + 1, rfl, by omega, hA.sub (by and_intros <;> first | kernel_rfl | trivial), (hW.pick [0] (by decide) rfl).pickG [0] rfl⟩)))
       have h22 := of_decide_eq_false h22
       first
       | (exfalso; clear hA hW; omega)
       | (
        refine wp_exit ?_
        refine thenX ?_
        refine thenX ?_
        refine blkX ?_
        refine blkN ?_
        refine thenN ?_
        refine wp_region_lit ?_
        refine st_p (Value.int .i64 ((j : Nat) : Int)) hA fun ac hA => st_q (Value.int .i64 ((j + 1 : Nat) : Int)) hA hW.cls (Rd.pureE (v0 := Value.int .i64 (IntKind.i64.wrap ((((j : Nat) : Int) : Int) + 1))) (fun _ => by kernel_rfl) (congrArg (Value.int .i64) ((w_i64 (x := (((j : Nat) : Int) : Int) + 1) (by omega) (by omega)).trans (by omega)))) fun ac hA => st_p (Value.int .i64 ((j + 1 : Nat) : Int)) hA fun ac hA => ?_
        refine wpList_nil ?_
        refine thenN ?_
        exact ⟨l.length - (j + 1), by omega, j + 1, rfl, by omega, hA.sub (by and_intros <;> first | kernel_rfl | trivial), (hW.pick [0] (by decide) rfl).pickG [0] rfl⟩))
     have h20 := of_decide_eq_false h20
     first
     | (exfalso; clear hA hW; omega)
     | (
      refine wp_exit ?_
      refine thenX ?_
      refine thenX ?_
      refine blkX ?_
      refine thenN ?_
      refine wp_seq ?_
      refine wp_region_lit ?_
      refine st_s hA (Runs.callN (v := Value.bool true) (fun _ => by kernel_rfl) hW (e_works w19) ?_); clear hA ac hW; intro w198 hW hfw198 ac hA
      refine st_p (Value.bool true) hA ?_; clear hA ac; intro ac hA
      refine wpList_nil ?_
      refine thenN ?_
      refine wp_ret ?_
      refine ret1 (v := Value.bool true) (by rfl) hA (Got.tmp hA (by kernel_rfl) (by kernel_rfl)) ?_
      clear hA
      exact ⟨retv (by rfl), hW.fr⟩)))
  have h4 := of_decide_eq_false h4
  first
  | (exfalso; clear hA hW; omega)
  | (
   have hfl_ := few_len (show fewOk l 40 = true from h2)
   have hfl_ := few_len (show fewOk l 40 = true from h2)
   refine wp_region_lit ?_
   refine st_p (Value.slice A_l l.length c_l) hA ?_; clear hA ac; intro ac hA
   refine st_s hA (Runs.callN (v := Value.tuple #[Value.pointer none, Value.int .i64 (newErr l)]) (fun _ => by kernel_rfl) hW (e_onewB A_l c_l l w1 ((hW).getG 0 rfl) (by first | assumption | omega | (simp; omega) | simp) (by assumption) (fun x hx => (hel x hx).2)) ?_); clear hA ac hW; intro w199 hW hfw199 ac hA
   refine st_p (Value.tuple #[Value.pointer none, Value.int .i64 (newErr l)]) hA fun ac hA => st_p (Value.pointer none) hA fun ac hA => st_p (Value.int .i64 (newErr l)) hA fun ac hA => st_p (Value.pointer none) hA fun ac hA => st_p (Value.int .i64 (newErr l)) hA fun ac hA => ?_
   refine wpList_nil ?_
   refine thenN ?_
   refine wp_seq ?_
   refine wp_seq ?_
   have hne_ := newErr_rng l
   refine wp_region_lit ?_
   refine st_p (Value.int .i64 (newErr l)) hA ?_; clear hA ac; intro ac hA
   refine st_s hA (Runs.callN (v := Value.int .i64 (newErr l)) (fun _ => by kernel_rfl) hW (e_num (newErr l) w199) ?_); clear hA ac hW; intro w200 hW hfw200 ac hA
   refine st_p (Value.bool (((newErr l) : Int) != (0 : Int))) hA ?_; clear hA ac; intro ac hA
   refine wpList_nil ?_
   refine thenN ?_
   refine wp_cond_split (t := ((newErr l) : Int) != (0 : Int)) (hA.eval (by kernel_rfl)) (fun h201 => ?_) (fun h201 => ?_)
   ·
    have h201 := bne_iff_ne.1 h201
    first
    | (exfalso; clear hA hW; omega)
    | (
     refine wp_seq ?_
     refine wp_region_lit ?_
     refine st_s hA (Runs.callN (v := Value.bool true) (fun _ => by kernel_rfl) hW (e_works w200) ?_); clear hA ac hW; intro w202 hW hfw202 ac hA
     refine st_p (Value.bool true) hA ?_; clear hA ac; intro ac hA
     refine wpList_nil ?_
     refine thenN ?_
     refine wp_ret ?_
     refine thenR ?_
     refine ret1 (v := Value.bool true) (by rfl) hA (Got.tmp hA (by kernel_rfl) (by kernel_rfl)) ?_
     clear hA
     exact ⟨retv (by rfl), hW.fr⟩)
   have h201 := of_bne_f h201
   first
   | (exfalso; clear hA hW; omega)
   | (
    refine wp_skip ?_
    refine thenN ?_
    refine wp_seq ?_
    refine wp_seq ?_
    refine wp_region_lit ?_
    refine st_p (Value.int .i64 0) hA ?_; clear hA ac; intro ac hA
    refine wpList_nil ?_
    refine thenN ?_
    refine wp_block ?_
    refine wp_loop_m (fun m_ ac_ wl_ => ∃ j : Nat, m_ = l.length - j ∧ (j ≤ l.length) ∧ Fm 141 [] [(0, Value.slice A_l l.length c_l), (3, Value.pointer none), (5, Value.int .i64 ((j : Nat) : Int))] ac_ ∧ Ws w No [] [roR A_l 9 enEvent l] wl_) _ ⟨0, rfl, by omega, hA.sub (by and_intros <;> first | kernel_rfl | trivial), (hW.pick [] (by decide) rfl).pickG [0] rfl⟩ ?_
    clear hA ac hW; rintro m_ ac w203 ⟨j, rfl, hj, hA, hW⟩
    refine wp_seq ?_
    refine wp_seq ?_
    refine wp_region_lit ?_
    refine st_p (Value.int .i64 ((j : Nat) : Int)) hA fun ac hA => st_p (Value.slice A_l l.length c_l) hA fun ac hA => st_p (Value.int .i64 ((l.length : Nat) : Int)) hA fun ac hA => st_p (Value.bool (decide ((((j : Nat) : Int) : Int) < (((l.length : Nat) : Int) : Int)))) hA fun ac hA => ?_
    refine wpList_nil ?_
    refine thenN ?_
    refine wp_cond_split (t := decide ((((j : Nat) : Int) : Int) < (((l.length : Nat) : Int) : Int))) (hA.eval (by kernel_rfl)) (fun h204 => ?_) (fun h204 => ?_)
    ·
     have h204 := of_decide_eq_true h204
     first
     | (exfalso; clear hA hW; omega)
     | (
      refine wp_skip ?_
      refine thenN ?_
      refine wp_seq ?_
      refine wp_block ?_
      refine wp_seq ?_
      refine wp_region_lit ?_
      refine st_p (Value.int .i64 0) hA ?_; clear hA ac; intro ac hA
      refine wpList_nil ?_
      refine thenN ?_
      refine wp_block ?_
      refine wp_loop_m (fun m_ ac_ wl_ => ∃ i : Nat, m_ = l.length - i ∧ (i ≤ l.length) ∧ Fm 141 [] [(0, Value.slice A_l l.length c_l), (3, Value.pointer none), (5, Value.int .i64 ((j : Nat) : Int)), (6, Value.int .i64 ((i : Nat) : Int))] ac_ ∧ Ws w No [] [roR A_l 9 enEvent l] wl_) _ ⟨0, rfl, by omega, hA.sub (by and_intros <;> first | kernel_rfl | trivial), (hW.pick [] (by decide) rfl).pickG [0] rfl⟩ ?_
      clear hA ac hW; rintro m_ ac w205 ⟨i, rfl, hi, hA, hW⟩
      refine wp_seq ?_
      refine wp_seq ?_
      refine wp_region_lit ?_
      refine st_p (Value.int .i64 ((i : Nat) : Int)) hA fun ac hA => st_p (Value.slice A_l l.length c_l) hA fun ac hA => st_p (Value.int .i64 ((l.length : Nat) : Int)) hA fun ac hA => st_p (Value.bool (decide ((((i : Nat) : Int) : Int) < (((l.length : Nat) : Int) : Int)))) hA fun ac hA => ?_
      refine wpList_nil ?_
      refine thenN ?_
      refine wp_cond_split (t := decide ((((i : Nat) : Int) : Int) < (((l.length : Nat) : Int) : Int))) (hA.eval (by kernel_rfl)) (fun h206 => ?_) (fun h206 => ?_)
      ·
       have h206 := of_decide_eq_true h206
       first
       | (exfalso; clear hA hW; omega)
       | (
        fail)
      have h206 := of_decide_eq_false h206
      first
      | (exfalso; clear hA hW; omega)
      | (
       refine wp_exit ?_
       refine thenX ?_
       refine thenX ?_
       refine blkX ?_
       refine blkN ?_
       refine thenN ?_
       refine wp_region_lit ?_
       refine st_p (Value.int .i64 ((j : Nat) : Int)) hA fun ac hA => st_q (Value.int .i64 ((j + 1 : Nat) : Int)) hA hW.cls (Rd.pureE (v0 := Value.int .i64 (IntKind.i64.wrap ((((j : Nat) : Int) : Int) + 1))) (fun _ => by kernel_rfl) (congrArg (Value.int .i64) ((w_i64 (x := (((j : Nat) : Int) : Int) + 1) (by omega) (by omega)).trans (by omega)))) fun ac hA => st_p (Value.int .i64 ((j + 1 : Nat) : Int)) hA fun ac hA => ?_
       refine wpList_nil ?_
       refine thenN ?_
       exact ⟨l.length - (j + 1), by omega, j + 1, rfl, by omega, hA.sub (by and_intros <;> first | kernel_rfl | trivial), (hW.pick [] (by decide) rfl).pickG [0] rfl⟩))
    have h204 := of_decide_eq_false h204
    first
    | (exfalso; clear hA hW; omega)
    | (
     refine wp_exit ?_
     refine thenX ?_
     refine thenX ?_
     refine blkX ?_
     refine thenN ?_
     refine wp_seq ?_
     refine wp_region_lit ?_
     refine st_s hA (Runs.callN (v := Value.bool true) (fun _ => by kernel_rfl) hW (e_works w203) ?_); clear hA ac hW; intro w207 hW hfw207 ac hA
     refine st_p (Value.bool true) hA ?_; clear hA ac; intro ac hA
     refine wpList_nil ?_
     refine thenN ?_
     refine wp_ret ?_
     refine ret1 (v := Value.bool true) (by rfl) hA (Got.tmp hA (by kernel_rfl) (by kernel_rfl)) ?_
     clear hA
     exact ⟨retv (by rfl), hW.fr⟩))))

theorem orderHolds_walk (A : Option Addr) (len cap : Nat) (l : List Event) (w : World) (hl : l.length = len) (hc : len ≤ cap) (hm : cap ≤ maxLen) (hw : ∀ x ∈ l, wfEvent x) (hr : RowAt w A 9 enEvent l) :
    Calls Tryz.prog 4 #[.slice A len cap] w fun e w' => e = .returned (.bool true) ∧ Fr No w w' := by
  subst hl
  exact e_orderHolds A cap l w hr hc (by have : maxLen ≤ 9223372036854775807 := by decide
                                         omega) (fun x hx => wf_event (hw x hx))

end Go.Proofs.YtefmglgejjaipaaGreatDoor.L
