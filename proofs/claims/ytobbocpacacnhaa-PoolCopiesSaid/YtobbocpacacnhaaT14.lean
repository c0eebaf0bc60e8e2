/- Contracts, walked by program over the engine's laws. -/
import Derived.Test.YtobbocpacacnhaaProg
import Derived.Test.YtobbocpacacnhaaT13
import Derived.Test.YtobbocpacacnhaaE16
namespace Go.Proofs.Ytobbocpacacnhaa.L
open Go.RowKit

theorem beq_f {a b : Bool} (h : (!(a == b)) = false) : a = b := by cases a <;> cases b <;> first | rfl | cases h
theorem beq_t {a b : Bool} (h : (!(a == b)) = true) : a ≠ b := by cases a <;> cases b <;> first | (intro e; cases e; done) | cases h
/-- Are two the document's pools the same? -/
def sameQ (P Q : PV) (i : Nat) : Bool := (thereP P ((i : Int) + 1) == thereP Q ((i : Int) + 1)) && decide (allP P ((i : Int) + 1) = allP Q ((i : Int) + 1))
def sameB (P Q : PV) : Bool := (List.range (max P.length Q.length)).all (sameQ P Q)
theorem sameB_yes {P Q : PV} (h : ∀ i : Nat, i < max P.length Q.length → sameQ P Q i = true) : sameB P Q = true := List.all_eq_true.2 fun i hi => h i (List.mem_range.1 hi)
theorem sameB_no {P Q : PV} {i : Nat} (hi : i < max P.length Q.length) (h : sameQ P Q i = false) : sameB P Q = false := List.all_eq_false.2 ⟨i, List.mem_range.2 hi, by rw [h]; simp⟩
theorem allP_len {V : List VecE} (hL : ∀ y ∈ V, y.l.length ≤ 1000) (h : Int) : (allP (pv V) h).length ≤ 1000 := by
  unfold allP
  split
  · cases q : (pv V)[(h - 1).toNat]? with
    | none => simp
    | some y =>
      have hm := List.mem_of_getElem? q
      obtain ⟨e, he, rfl⟩ := List.mem_map.1 hm
      exact hL e he
  · simp
set_option maxRecDepth 100000 in
theorem e_rget (A_V : Option Addr) (c_V : Nat) (V : List VecE) (h : Int) (id : Int) (w : World) (hr_V : RowAt w A_V 2 enVecE V) (hc_V : V.length ≤ c_V) (hn_V : (nestR innerVecE V).p w) (hk_V : ∀ x_ ∈ V, capVecE x_) (hl : V.length ≤ 1000) (hL : ∀ y ∈ V, y.l.length ≤ 1000) : Calls Try.prog 37 #[Value.agg #[Value.slice A_V V.length c_V], Value.int .i64 h, Value.int .i64 id] w (fun e w' => e = .returned (Value.tuple #[((getP2 (pv V) h id).getD (⟨0, ⟨0, 0⟩⟩ : Mark)).v, Value.bool (getP2 (pv V) h id).isSome]) ∧ Fr No w w') := by
 have _hu := hc_V; have _hv := hr_V; clear _hu _hv
 have _hu := hk_V; have _hv := hn_V; clear _hu _hv
 have _hu := hl; clear _hu
 have _hu := hL; clear _hu
 refine enter_E 32 Try.func37 rfl rfl (by kernel_rfl) (L := [(0, Value.agg #[Value.slice A_V V.length c_V]), (1, Value.int .i64 h), (2, Value.int .i64 id)]) (by kernel_rfl) ?_
 intro ac hA
 have hW := Ws.start w No
 have hW := hW.arg hr_V
 have hW := hW.addG _ hn_V (nest_ltVecE hn_V) (by simp)
 refine wp_seq ?_
 refine wp_region_lit ?_
 refine st hA (by kernel_rfl) (by kernel_rfl) (by kernel_rfl) (Runs.cells (fun b => Value.pointer (some ⟨b, 0, none⟩)) #[Value.slice A_V V.length c_V] 51 (fun _ => by kernel_rfl) hW ?_); clear hA ac hW; intro b1 w2 hW hb1 hfw2 ac hA
 refine st hA (by kernel_rfl) (by kernel_rfl) (by kernel_rfl) (Runs.cells (fun b => Value.pointer (some ⟨b, 0, none⟩)) #[Value.int .u64 0, Value.int .i64 0, Value.int .i64 0] 32 (fun _ => by kernel_rfl) hW ?_); clear hA ac hW; intro b3 w4 hW hb3 hfw4 ac hA
 refine st_rd (v := Value.bool false) hA (by kernel_rfl) (by kernel_rfl) (by kernel_rfl) hW.cls (Rd.pure fun _ => by kernel_rfl) ?_; clear hA ac; intro ac hA
 refine wpList_nil ?_
 refine thenN ?_
 refine wp_seq ?_
 refine wp_region_lit ?_
 refine st_rd (v := Value.agg #[Value.slice A_V V.length c_V]) hA (by kernel_rfl) (by kernel_rfl) (by kernel_rfl) hW.cls (Rd.load (b := b1) (i := 0) (by kernel_rfl) (fun _ hw => (hw.1).cel 1 rfl) (by kernel_rfl)) ?_; clear hA ac; intro ac hA
 refine st_rd (v := Value.int .i64 h) hA (by kernel_rfl) (by kernel_rfl) (by kernel_rfl) hW.cls (Rd.pure fun _ => by kernel_rfl) ?_; clear hA ac; intro ac hA
 refine st hA (by kernel_rfl) (by kernel_rfl) (by kernel_rfl) (Runs.call (fun _ => by kernel_rfl) (e_rall A_V c_V V (h) w4 ((hW).getG 1 rfl) (by first | assumption | omega | (simp; omega) | simp) ((hW).getG 0 rfl) hk_V (by first | omega | (simp; done))) ?_)
 rintro _ w5 ⟨g6, Ao7, co8, rfl, hw5_hA, hcco8, hfco8, hfw5⟩; refine ⟨_, rfl, ?_⟩; have hW0 := hW; have hW := hW0.call hfw5
 have hW := hW0.addFromAt hW hfco8 (in_cons (in_at 1 rfl) (in_cons (in_at 0 rfl) in_nil))
 clear hW0 hA ac; intro ac hA
 refine st_rd (v := Value.slice Ao7 (g6).length co8) hA (by kernel_rfl) (by kernel_rfl) (by kernel_rfl) hW.cls (Rd.pure fun _ => by kernel_rfl) ?_; clear hA ac; intro ac hA
 refine wpList_nil ?_
 refine thenN ?_
 refine wp_seq ?_
 refine wp_seq ?_
 have hll_ : g6.length ≤ 1000 := by rw [hw5_hA]; exact allP_len hL h
 refine wp_region_lit ?_
 refine st_rd (v := Value.int .i64 0) hA (by kernel_rfl) (by kernel_rfl) (by kernel_rfl) hW.cls (Rd.pure fun _ => by kernel_rfl) ?_; clear hA ac; intro ac hA
 refine wpList_nil ?_
 refine thenN ?_
 refine wp_block ?_
 refine wp_loop_m (fun m_ ac_ wl_ => ∃ k : Nat, m_ = g6.length - k ∧ (k ≤ g6.length) ∧ (∀ x ∈ g6.take k, decide (x.id = id) = false) ∧ Fm 32 [] [(2, Value.int .i64 id), (3, Value.pointer (some ⟨b1, 0, none⟩)), (6, Value.pointer (some ⟨b3, 0, none⟩)), (8, Value.slice Ao7 (g6).length co8), (9, Value.int .i64 ((k : Nat) : Int))] ac_ ∧ Ws w No [Cel b3 #[Value.int .u64 0, Value.int .i64 0, Value.int .i64 0] 32, Cel b1 #[Value.slice A_V V.length c_V] 51] [roR Ao7 4 enOne g6, nestR innerVecE V, roR A_V 2 enVecE V] wl_) _ ⟨0, rfl, by omega, by intro x hx; simp at hx, hA.sub ⟨⟨by kernel_rfl, by kernel_rfl⟩, ⟨by kernel_rfl, by kernel_rfl⟩, ⟨by kernel_rfl, by kernel_rfl⟩, ⟨by kernel_rfl, by kernel_rfl⟩, ⟨by kernel_rfl, by kernel_rfl⟩, trivial⟩, (hW.pick [0, 1] (by decide) rfl).pickG [0, 1, 2] rfl⟩ ?_
 clear hA ac hW; rintro m_ ac w9 ⟨k, rfl, hk, hn, hA, hW⟩
 refine wp_seq ?_
 refine wp_seq ?_
 refine wp_region_lit ?_
 refine st_rd (v := Value.int .i64 ((k : Nat) : Int)) hA (by kernel_rfl) (by kernel_rfl) (by kernel_rfl) hW.cls (Rd.pure fun _ => by kernel_rfl) ?_; clear hA ac; intro ac hA
 refine st_rd (v := Value.slice Ao7 (g6).length co8) hA (by kernel_rfl) (by kernel_rfl) (by kernel_rfl) hW.cls (Rd.pure fun _ => by kernel_rfl) ?_; clear hA ac; intro ac hA
 refine st_rd (v := Value.int .i64 (((g6).length : Nat) : Int)) hA (by kernel_rfl) (by kernel_rfl) (by kernel_rfl) hW.cls (Rd.pure fun _ => by kernel_rfl) ?_; clear hA ac; intro ac hA
 refine st_rd (v := Value.bool (decide ((((k : Nat) : Int) : Int) < ((((g6).length : Nat) : Int) : Int)))) hA (by kernel_rfl) (by kernel_rfl) (by kernel_rfl) hW.cls (Rd.pure fun _ => by kernel_rfl) ?_; clear hA ac; intro ac hA
 refine wpList_nil ?_
 refine thenN ?_
 refine wp_cond_split (t := decide ((((k : Nat) : Int) : Int) < ((((g6).length : Nat) : Int) : Int))) (hA.eval (by kernel_rfl)) (fun h10 => ?_) (fun h10 => ?_)
 · skip
   have h10 := of_decide_eq_true h10
   first
   | (exfalso; clear hA hW; omega)
   | (
     refine wp_skip ?_
     refine thenN ?_
     refine wp_seq ?_
     refine wp_block ?_
     refine wp_seq ?_
     refine wp_region_lit ?_
     refine st_rd (v := Value.slice Ao7 (g6).length co8) hA (by kernel_rfl) (by kernel_rfl) (by kernel_rfl) hW.cls (Rd.pure fun _ => by kernel_rfl) ?_; clear hA ac; intro ac hA
     refine st_rd (v := Value.int .i64 ((k : Nat) : Int)) hA (by kernel_rfl) (by kernel_rfl) (by kernel_rfl) hW.cls (Rd.pure fun _ => by kernel_rfl) ?_; clear hA ac; intro ac hA
     obtain ⟨y11, hy11⟩ : ∃ y, g6[k]? = some y := ⟨_, List.getElem?_eq_getElem (by first | omega | (simp; done) | (simp; omega))⟩
     obtain ⟨b12, o13, rfl, hbb12⟩ := row_some ((hW).getG 0 rfl) hy11
     refine st_rd (v := Value.pointer (some ⟨b12, o13 + k * 4, none⟩)) hA (by kernel_rfl) (by kernel_rfl) (by kernel_rfl) hW.cls (Rd.indexAddr (e := 90) (sz := 4) (b := b12) (off := o13) (n := (g6).length) (c := co8) (k := k) (by kernel_rfl) (by kernel_rfl) (by first | omega | (simp; done) | (simp; omega)) (fun _ => by kernel_rfl) (fun _ => by kernel_rfl)) ?_; clear hA ac; intro ac hA
     refine st_rd (v := Value.pointer (some ⟨b12, o13 + k * 4, none⟩)) hA (by kernel_rfl) (by kernel_rfl) (by kernel_rfl) hW.cls (Rd.pure fun _ => by kernel_rfl) ?_; clear hA ac; intro ac hA
     refine st_rd (v := Value.int .i64 y11.id) hA (by kernel_rfl) (by kernel_rfl) (by kernel_rfl) hW.cls (Rd.loadRow (b := b12) (i := o13 + k * 4) (xs := [Value.int .i64 y11.id]) (by kernel_rfl) (fun _ hw => row_ld ((hw.1).getG 0 rfl) hy11 (Fr.refl No _) (fun h => h) 0 1 (by kernel_rfl)) (by kernel_rfl)) ?_; clear hA ac; intro ac hA
     refine st_rd (v := Value.int .i64 id) hA (by kernel_rfl) (by kernel_rfl) (by kernel_rfl) hW.cls (Rd.pure fun _ => by kernel_rfl) ?_; clear hA ac; intro ac hA
     refine st_rd (v := Value.bool ((y11.id : Int) == (id : Int))) hA (by kernel_rfl) (by kernel_rfl) (by kernel_rfl) hW.cls (Rd.pure fun _ => by kernel_rfl) ?_; clear hA ac; intro ac hA
     refine wpList_nil ?_
     refine thenN ?_
     refine wp_cond_split (t := (y11.id : Int) == (id : Int)) (hA.eval (by kernel_rfl)) (fun h14 => ?_) (fun h14 => ?_)
     · skip
       have h14 := eq_of_beq h14
       first
       | (exfalso; clear hA hW; omega)
       | (
         refine wp_seq ?_
         refine wp_region_lit ?_
         refine st_rd (v := Value.slice (some ⟨b12, o13, none⟩) (g6).length co8) hA (by kernel_rfl) (by kernel_rfl) (by kernel_rfl) hW.cls (Rd.pure fun _ => by kernel_rfl) ?_; clear hA ac; intro ac hA
         refine st_rd (v := Value.int .i64 ((k : Nat) : Int)) hA (by kernel_rfl) (by kernel_rfl) (by kernel_rfl) hW.cls (Rd.pure fun _ => by kernel_rfl) ?_; clear hA ac; intro ac hA
         refine st_rd (v := Value.pointer (some ⟨b12, o13 + k * 4, none⟩)) hA (by kernel_rfl) (by kernel_rfl) (by kernel_rfl) hW.cls (Rd.indexAddr (e := 90) (sz := 4) (b := b12) (off := o13) (n := (g6).length) (c := co8) (k := k) (by kernel_rfl) (by kernel_rfl) (by first | omega | (simp; done) | (simp; omega)) (fun _ => by kernel_rfl) (fun _ => by kernel_rfl)) ?_; clear hA ac; intro ac hA
         refine st_rd (v := Value.pointer (some ⟨b12, o13 + k * 4 + 1, none⟩)) hA (by kernel_rfl) (by kernel_rfl) (by kernel_rfl) hW.cls (Rd.pure fun _ => by kernel_rfl) ?_; clear hA ac; intro ac hA
         refine st_rd (v := Value.agg #[Value.int .u64 y11.m.clock, Value.int .i64 y11.m.site.f, Value.int .i64 y11.m.site.pc]) hA (by kernel_rfl) (by kernel_rfl) (by kernel_rfl) hW.cls (Rd.loadRow (b := b12) (i := o13 + k * 4 + 1) (xs := [Value.int .u64 y11.m.clock, Value.int .i64 y11.m.site.f, Value.int .i64 y11.m.site.pc]) (by kernel_rfl) (fun _ hw => row_ld ((hw.1).getG 0 rfl) hy11 (Fr.refl No _) (fun h => h) 1 3 (by kernel_rfl)) (by kernel_rfl)) ?_; clear hA ac; intro ac hA
         refine st hA (by kernel_rfl) (by kernel_rfl) (by kernel_rfl) (Runs.store (v := Value.agg #[Value.int .u64 y11.m.clock, Value.int .i64 y11.m.site.f, Value.int .i64 y11.m.site.pc]) (b := b3) (j := 0) (n := 3) (cs' := #[Value.int .u64 y11.m.clock, Value.int .i64 y11.m.site.f, Value.int .i64 y11.m.site.pc]) (H' := [Cel b3 #[Value.int .u64 y11.m.clock, Value.int .i64 y11.m.site.f, Value.int .i64 y11.m.site.pc] 32, Cel b1 #[Value.slice A_V V.length c_V] 51]) (by kernel_rfl) (by kernel_rfl) (by kernel_rfl) (by kernel_rfl) (by kernel_rfl) hW 0 (by rfl) (Nat.le_of_ble_eq_true (by kernel_rfl)) (by kernel_rfl) (by rfl) ?_); clear hA ac hW; intro w15 hW ac hA
         refine st_rd (v := Value.bool true) hA (by kernel_rfl) (by kernel_rfl) (by kernel_rfl) hW.cls (Rd.pure fun _ => by kernel_rfl) ?_; clear hA ac; intro ac hA
         refine wpList_nil ?_
         refine thenN ?_
         refine wp_ret ?_
         refine blkR ?_
         refine thenR ?_
         refine thenR ?_
         refine blkR ?_
         refine thenR ?_
         refine ret2 (v1 := Value.agg #[Value.int .u64 y11.m.clock, Value.int .i64 y11.m.site.f, Value.int .i64 y11.m.site.pc]) (v2 := Value.bool true) (by rfl) hA (Got.cell (b := b3) (i := 0) hA (by kernel_rfl) (by kernel_rfl) (hW.cel 0 rfl) (by kernel_rfl)) (Got.tmp hA (by kernel_rfl) (by kernel_rfl)) ?_
         clear hA
         exact ⟨retv (by unfold getP2; rw [← hw5_hA, find_some hn hy11 (decide_eq_true h14)]; rfl), hW.fr⟩)
     · skip
       have h14 := ne_of_beq_false h14
       first
       | (exfalso; clear hA hW; omega)
       | (
         refine wp_skip ?_
         refine blkN ?_
         refine thenN ?_
         refine wp_region_lit ?_
         refine st_rd (v := Value.int .i64 ((k : Nat) : Int)) hA (by kernel_rfl) (by kernel_rfl) (by kernel_rfl) hW.cls (Rd.pure fun _ => by kernel_rfl) ?_; clear hA ac; intro ac hA
         refine st_rd (v := Value.int .i64 ((k + 1 : Nat) : Int)) hA (by kernel_rfl) (by kernel_rfl) (by kernel_rfl) hW.cls (Rd.pureE (v0 := Value.int .i64 (IntKind.i64.wrap ((((k : Nat) : Int) : Int) + 1))) (fun _ => by kernel_rfl) (congrArg (Value.int .i64) ((w_i64 (x := (((k : Nat) : Int) : Int) + 1) (by omega) (by omega)).trans (by omega)))) ?_; clear hA ac; intro ac hA
         refine st_rd (v := Value.int .i64 ((k + 1 : Nat) : Int)) hA (by kernel_rfl) (by kernel_rfl) (by kernel_rfl) hW.cls (Rd.pure fun _ => by kernel_rfl) ?_; clear hA ac; intro ac hA
         refine wpList_nil ?_
         refine thenN ?_
         exact ⟨g6.length - (k + 1), by omega, k + 1, rfl, by omega, by intro x hx; rw [tk_snoc hy11] at hx; rcases List.mem_append.1 hx with hx | hx; exact hn x hx; (simp only [List.mem_singleton] at hx; subst hx; exact decide_eq_false (by first | assumption | omega)), hA.sub ⟨⟨by kernel_rfl, by kernel_rfl⟩, ⟨by kernel_rfl, by kernel_rfl⟩, ⟨by kernel_rfl, by kernel_rfl⟩, ⟨by kernel_rfl, by kernel_rfl⟩, ⟨by kernel_rfl, by kernel_rfl⟩, trivial⟩, (hW.pick [0, 1] (by decide) rfl).pickG [0, 1, 2] rfl⟩))
 · skip
   have h10 := of_decide_eq_false h10
   first
   | (exfalso; clear hA hW; omega)
   | (
     refine wp_exit ?_
     refine thenX ?_
     refine thenX ?_
     refine blkX ?_
     refine thenN ?_
     refine wp_seq ?_
     refine wp_region_lit ?_
     refine st_rd (v := Value.agg #[Value.int .u64 0, Value.int .i64 0, Value.int .i64 0]) hA (by kernel_rfl) (by kernel_rfl) (by kernel_rfl) hW.cls (Rd.pure fun _ => by kernel_rfl) ?_; clear hA ac; intro ac hA
     refine st hA (by kernel_rfl) (by kernel_rfl) (by kernel_rfl) (Runs.store (v := Value.agg #[Value.int .u64 0, Value.int .i64 0, Value.int .i64 0]) (b := b3) (j := 0) (n := 3) (cs' := #[Value.int .u64 0, Value.int .i64 0, Value.int .i64 0]) (H' := [Cel b3 #[Value.int .u64 0, Value.int .i64 0, Value.int .i64 0] 32, Cel b1 #[Value.slice A_V V.length c_V] 51]) (by kernel_rfl) (by kernel_rfl) (by kernel_rfl) (by kernel_rfl) (by kernel_rfl) hW 0 (by rfl) (Nat.le_of_ble_eq_true (by kernel_rfl)) (by kernel_rfl) (by rfl) ?_); clear hA ac hW; intro w16 hW ac hA
     refine st_rd (v := Value.bool false) hA (by kernel_rfl) (by kernel_rfl) (by kernel_rfl) hW.cls (Rd.pure fun _ => by kernel_rfl) ?_; clear hA ac; intro ac hA
     refine wpList_nil ?_
     refine thenN ?_
     refine wp_ret ?_
     refine ret2 (v1 := Value.agg #[Value.int .u64 0, Value.int .i64 0, Value.int .i64 0]) (v2 := Value.bool false) (by rfl) hA (Got.cell (b := b3) (i := 0) hA (by kernel_rfl) (by kernel_rfl) (hW.cel 0 rfl) (by kernel_rfl)) (Got.tmp hA (by kernel_rfl) (by kernel_rfl)) ?_
     clear hA
     exact ⟨retv (by unfold getP2; rw [← hw5_hA, find_no hn (by omega)]; rfl), hW.fr⟩)

set_option maxRecDepth 100000 in
theorem e_rbeyond (A_V : Option Addr) (c_V : Nat) (V : List VecE) (h : Int) (A_c : Option Addr) (c_c : Nat) (c : List Int) (w : World) (hr_V : RowAt w A_V 2 enVecE V) (hc_V : V.length ≤ c_V) (hn_V : (nestR innerVecE V).p w) (hk_V : ∀ x_ ∈ V, capVecE x_) (hr_c : RowAt w A_c 1 enU c) (hc_c : c.length ≤ c_c) (hl : V.length ≤ 1000) (hL : ∀ y ∈ V, y.l.length ≤ 1000) (hc : c.length ≤ 1000) : Calls Try.prog 38 #[Value.agg #[Value.slice A_V V.length c_V], Value.int .i64 h, Value.slice A_c c.length c_c] w (fun e w' => ∃ id' : Int, ∃ mk' : Mark, ∃ is' : Bool, e = .returned (Value.tuple #[Value.int .i64 id', mk'.v, Value.bool is']) ∧ (id' = ((beyP2 (pv V) h c).map (·.id)).getD 0 ∧ mk' = ((beyP2 (pv V) h c).map (·.m)).getD (⟨0, ⟨0, 0⟩⟩ : Mark) ∧ is' = (beyP2 (pv V) h c).isSome) ∧ Fr No w w') := by
 have _hu := hc_V; have _hv := hr_V; clear _hu _hv
 have _hu := hk_V; have _hv := hn_V; clear _hu _hv
 have _hu := hc_c; have _hv := hr_c; clear _hu _hv
 have _hu := hl; clear _hu
 have _hu := hL; clear _hu
 have _hu := hc; clear _hu
 refine enter_E 45 Try.func38 rfl rfl (by kernel_rfl) (L := [(0, Value.agg #[Value.slice A_V V.length c_V]), (1, Value.int .i64 h), (2, Value.slice A_c c.length c_c)]) (by kernel_rfl) ?_
 intro ac hA
 have hW := Ws.start w No
 have hW := hW.arg hr_V
 have hW := hW.addG _ hn_V (nest_ltVecE hn_V) (by simp)
 have hW := hW.arg hr_c
 refine wp_seq ?_
 refine wp_region_lit ?_
 refine st hA (by kernel_rfl) (by kernel_rfl) (by kernel_rfl) (Runs.cells (fun b => Value.pointer (some ⟨b, 0, none⟩)) #[Value.slice A_V V.length c_V] 51 (fun _ => by kernel_rfl) hW ?_); clear hA ac hW; intro b1 w2 hW hb1 hfw2 ac hA
 refine st_rd (v := Value.int .i64 0) hA (by kernel_rfl) (by kernel_rfl) (by kernel_rfl) hW.cls (Rd.pure fun _ => by kernel_rfl) ?_; clear hA ac; intro ac hA
 refine st hA (by kernel_rfl) (by kernel_rfl) (by kernel_rfl) (Runs.cells (fun b => Value.pointer (some ⟨b, 0, none⟩)) #[Value.int .u64 0, Value.int .i64 0, Value.int .i64 0] 32 (fun _ => by kernel_rfl) hW ?_); clear hA ac hW; intro b3 w4 hW hb3 hfw4 ac hA
 refine st_rd (v := Value.bool false) hA (by kernel_rfl) (by kernel_rfl) (by kernel_rfl) hW.cls (Rd.pure fun _ => by kernel_rfl) ?_; clear hA ac; intro ac hA
 refine wpList_nil ?_
 refine thenN ?_
 refine wp_seq ?_
 refine wp_region_lit ?_
 refine st_rd (v := Value.agg #[Value.slice A_V V.length c_V]) hA (by kernel_rfl) (by kernel_rfl) (by kernel_rfl) hW.cls (Rd.load (b := b1) (i := 0) (by kernel_rfl) (fun _ hw => (hw.1).cel 1 rfl) (by kernel_rfl)) ?_; clear hA ac; intro ac hA
 refine st_rd (v := Value.int .i64 h) hA (by kernel_rfl) (by kernel_rfl) (by kernel_rfl) hW.cls (Rd.pure fun _ => by kernel_rfl) ?_; clear hA ac; intro ac hA
 refine st hA (by kernel_rfl) (by kernel_rfl) (by kernel_rfl) (Runs.call (fun _ => by kernel_rfl) (e_rall A_V c_V V (h) w4 ((hW).getG 2 rfl) (by first | assumption | omega | (simp; omega) | simp) ((hW).getG 1 rfl) hk_V (by first | omega | assumption)) ?_)
 rintro _ w5 ⟨g6, Ao7, co8, rfl, hw5_hA, hcco8, hfco8, hfw5⟩; refine ⟨_, rfl, ?_⟩; have hW0 := hW; have hW := hW0.call hfw5
 have hW := hW0.addFromAt hW hfco8 (in_cons (in_at 2 rfl) (in_cons (in_at 1 rfl) in_nil))
 have hsco8 : Res.src (roR Ao7 4 enOne g6) [roR A_V 2 enVecE V, nestR innerVecE V, roR A_c 1 enU c] w := src_call hfco8 (srcs_cons (src_arg (.head _)) (srcs_cons (src_arg (.tail _ (.head _))) srcs_nil)) hW0.fr.size
 clear hW0 hA ac; intro ac hA
 refine st_rd (v := Value.slice Ao7 (g6).length co8) hA (by kernel_rfl) (by kernel_rfl) (by kernel_rfl) hW.cls (Rd.pure fun _ => by kernel_rfl) ?_; clear hA ac; intro ac hA
 refine wpList_nil ?_
 refine thenN ?_
 refine wp_seq ?_
 refine wp_seq ?_
 have hll_ : g6.length ≤ 1000 := by rw [hw5_hA]; exact allP_len hL h
 refine wp_region_lit ?_
 refine st_rd (v := Value.int .i64 0) hA (by kernel_rfl) (by kernel_rfl) (by kernel_rfl) hW.cls (Rd.pure fun _ => by kernel_rfl) ?_; clear hA ac; intro ac hA
 refine wpList_nil ?_
 refine thenN ?_
 refine wp_block ?_
 refine wp_loop_m (fun m_ ac_ wl_ => ∃ k : Nat, m_ = g6.length - k ∧ (k ≤ g6.length) ∧ (∀ x ∈ g6.take k, decide (x.m.clock > getC c x.id) = false) ∧ Fm 45 [] [(2, Value.slice A_c c.length c_c), (3, Value.pointer (some ⟨b1, 0, none⟩)), (7, Value.pointer (some ⟨b3, 0, none⟩)), (9, Value.slice Ao7 (g6).length co8), (10, Value.int .i64 ((k : Nat) : Int))] ac_ ∧ Ws w No [Cel b3 #[Value.int .u64 0, Value.int .i64 0, Value.int .i64 0] 32, Cel b1 #[Value.slice A_V V.length c_V] 51] [roR Ao7 4 enOne g6, roR A_c 1 enU c, nestR innerVecE V, roR A_V 2 enVecE V] wl_) _ ⟨0, rfl, by omega, by intro x hx; simp at hx, hA.sub ⟨⟨by kernel_rfl, by kernel_rfl⟩, ⟨by kernel_rfl, by kernel_rfl⟩, ⟨by kernel_rfl, by kernel_rfl⟩, ⟨by kernel_rfl, by kernel_rfl⟩, ⟨by kernel_rfl, by kernel_rfl⟩, trivial⟩, (hW.pick [0, 1] (by decide) rfl).pickG [0, 1, 2, 3] rfl⟩ ?_
 clear hA ac hW; rintro m_ ac w9 ⟨k, rfl, hk, hn, hA, hW⟩
 refine wp_seq ?_
 refine wp_seq ?_
 refine wp_region_lit ?_
 refine st_rd (v := Value.int .i64 ((k : Nat) : Int)) hA (by kernel_rfl) (by kernel_rfl) (by kernel_rfl) hW.cls (Rd.pure fun _ => by kernel_rfl) ?_; clear hA ac; intro ac hA
 refine st_rd (v := Value.slice Ao7 (g6).length co8) hA (by kernel_rfl) (by kernel_rfl) (by kernel_rfl) hW.cls (Rd.pure fun _ => by kernel_rfl) ?_; clear hA ac; intro ac hA
 refine st_rd (v := Value.int .i64 (((g6).length : Nat) : Int)) hA (by kernel_rfl) (by kernel_rfl) (by kernel_rfl) hW.cls (Rd.pure fun _ => by kernel_rfl) ?_; clear hA ac; intro ac hA
 refine st_rd (v := Value.bool (decide ((((k : Nat) : Int) : Int) < ((((g6).length : Nat) : Int) : Int)))) hA (by kernel_rfl) (by kernel_rfl) (by kernel_rfl) hW.cls (Rd.pure fun _ => by kernel_rfl) ?_; clear hA ac; intro ac hA
 refine wpList_nil ?_
 refine thenN ?_
 refine wp_cond_split (t := decide ((((k : Nat) : Int) : Int) < ((((g6).length : Nat) : Int) : Int))) (hA.eval (by kernel_rfl)) (fun h10 => ?_) (fun h10 => ?_)
 · skip
   have h10 := of_decide_eq_true h10
   first
   | (exfalso; clear hA hW; omega)
   | (
     refine wp_skip ?_
     refine thenN ?_
     refine wp_seq ?_
     refine wp_block ?_
     refine wp_seq ?_
     refine q_region (by kernel_rfl) (by kernel_rfl) hW ?_
     refine sq_rd (v := Value.slice Ao7 (g6).length co8) hA (by kernel_rfl) (by kernel_rfl) (by kernel_rfl) (Rd.pure fun _ => by kernel_rfl) ?_; clear hA ac; intro ac hA
     refine sq_rd (v := Value.int .i64 ((k : Nat) : Int)) hA (by kernel_rfl) (by kernel_rfl) (by kernel_rfl) (Rd.pure fun _ => by kernel_rfl) ?_; clear hA ac; intro ac hA
     obtain ⟨y11, hy11⟩ : ∃ y, g6[k]? = some y := ⟨_, List.getElem?_eq_getElem (by first | omega | (simp; done) | (simp; omega))⟩
     obtain ⟨b12, o13, rfl, hbb12⟩ := row_some ((hW).getG 0 rfl) hy11
     refine sq_rd (v := Value.pointer (some ⟨b12, o13 + k * 4, none⟩)) hA (by kernel_rfl) (by kernel_rfl) (by kernel_rfl) (Rd.indexAddr (e := 90) (sz := 4) (b := b12) (off := o13) (n := (g6).length) (c := co8) (k := k) (by kernel_rfl) (by kernel_rfl) (by first | omega | (simp; done) | (simp; omega)) (fun _ => by kernel_rfl) (fun _ => by kernel_rfl)) ?_; clear hA ac; intro ac hA
     refine sq_rd (v := Value.pointer (some ⟨b12, o13 + k * 4 + 1, none⟩)) hA (by kernel_rfl) (by kernel_rfl) (by kernel_rfl) (Rd.pure fun _ => by kernel_rfl) ?_; clear hA ac; intro ac hA
     refine sq_rd (v := Value.pointer (some ⟨b12, o13 + k * 4 + 1, none⟩)) hA (by kernel_rfl) (by kernel_rfl) (by kernel_rfl) (Rd.pure fun _ => by kernel_rfl) ?_; clear hA ac; intro ac hA
     refine sq_rd (v := Value.int .u64 y11.m.clock) hA (by kernel_rfl) (by kernel_rfl) (by kernel_rfl) (Rd.loadRow (b := b12) (i := o13 + k * 4 + 1) (xs := [Value.int .u64 y11.m.clock]) (by kernel_rfl) (fun _ hw => row_ld ((hw.1).getG 0 rfl) hy11 (Fr.refl No _) (fun h => h) 1 1 (by kernel_rfl)) (by kernel_rfl)) ?_; clear hA ac; intro ac hA
     refine sq_rd (v := Value.slice A_c c.length c_c) hA (by kernel_rfl) (by kernel_rfl) (by kernel_rfl) (Rd.pure fun _ => by kernel_rfl) ?_; clear hA ac; intro ac hA
     refine sq_rd (v := Value.slice (some ⟨b12, o13, none⟩) (g6).length co8) hA (by kernel_rfl) (by kernel_rfl) (by kernel_rfl) (Rd.pure fun _ => by kernel_rfl) ?_; clear hA ac; intro ac hA
     refine sq_rd (v := Value.int .i64 ((k : Nat) : Int)) hA (by kernel_rfl) (by kernel_rfl) (by kernel_rfl) (Rd.pure fun _ => by kernel_rfl) ?_; clear hA ac; intro ac hA
     refine sq_rd (v := Value.pointer (some ⟨b12, o13 + k * 4, none⟩)) hA (by kernel_rfl) (by kernel_rfl) (by kernel_rfl) (Rd.indexAddr (e := 90) (sz := 4) (b := b12) (off := o13) (n := (g6).length) (c := co8) (k := k) (by kernel_rfl) (by kernel_rfl) (by first | omega | (simp; done) | (simp; omega)) (fun _ => by kernel_rfl) (fun _ => by kernel_rfl)) ?_; clear hA ac; intro ac hA
     refine sq_rd (v := Value.pointer (some ⟨b12, o13 + k * 4, none⟩)) hA (by kernel_rfl) (by kernel_rfl) (by kernel_rfl) (Rd.pure fun _ => by kernel_rfl) ?_; clear hA ac; intro ac hA
     refine sq_rd (v := Value.int .i64 y11.id) hA (by kernel_rfl) (by kernel_rfl) (by kernel_rfl) (Rd.loadRow (b := b12) (i := o13 + k * 4) (xs := [Value.int .i64 y11.id]) (by kernel_rfl) (fun _ hw => row_ld ((hw.1).getG 0 rfl) hy11 (Fr.refl No _) (fun h => h) 0 1 (by kernel_rfl)) (by kernel_rfl)) ?_; clear hA ac; intro ac hA
     refine sq_call (v := Value.int .u64 (getC c (y11.id))) hA (by kernel_rfl) (by kernel_rfl) (by kernel_rfl) (fun _ => by kernel_rfl) (Cls.callNC fun wx hwx => e_get04 A_c c_c c (y11.id) wx ((hwx.1).getG 1 rfl) (by first | assumption | omega | (simp; omega) | simp) (by first | omega | assumption)) ?_; clear hA ac; intro ac hA
     refine sq_rd (v := Value.bool (decide ((y11.m.clock : Int) > (getC c (y11.id) : Int)))) hA (by kernel_rfl) (by kernel_rfl) (by kernel_rfl) (Rd.pure fun _ => by kernel_rfl) ?_; clear hA ac; intro ac hA
     refine sq_nil ?_; intro w14 hww14; have hW := hww14.1; have hfw14 := hww14.2; clear hww14
     refine thenN ?_
     refine wp_cond_split (t := decide ((y11.m.clock : Int) > (getC c (y11.id) : Int))) (hA.eval (by kernel_rfl)) (fun h15 => ?_) (fun h15 => ?_)
     · skip
       have h15 := of_decide_eq_true h15
       first
       | (exfalso; clear hA hW; omega)
       | (
         refine wp_seq ?_
         refine wp_cut (fun ac_ wl_ => Fm 45 [] [(2, Value.slice A_c c.length c_c), (3, Value.pointer (some ⟨b1, 0, none⟩)), (6, Value.int .i64 y11.id), (7, Value.pointer (some ⟨b3, 0, none⟩)), (8, Value.bool true), (9, Value.slice (some ⟨b12, o13, none⟩) (g6).length co8), (10, Value.int .i64 ((k : Nat) : Int)), (14, Value.int .i64 ((k : Nat) : Int)), (15, Value.slice (some ⟨b12, o13, none⟩) (g6).length co8), (16, Value.int .i64 (((g6).length : Nat) : Int)), (17, Value.bool (decide ((((k : Nat) : Int) : Int) < ((((g6).length : Nat) : Int) : Int)))), (20, Value.slice (some ⟨b12, o13, none⟩) (g6).length co8), (21, Value.int .i64 ((k : Nat) : Int)), (22, Value.pointer (some ⟨b12, o13 + k * 4, none⟩)), (23, Value.pointer (some ⟨b12, o13 + k * 4 + 1, none⟩)), (24, Value.pointer (some ⟨b12, o13 + k * 4 + 1, none⟩)), (25, Value.int .u64 y11.m.clock), (26, Value.slice A_c c.length c_c), (27, Value.slice (some ⟨b12, o13, none⟩) (g6).length co8), (28, Value.int .i64 ((k : Nat) : Int)), (29, Value.pointer (some ⟨b12, o13 + k * 4, none⟩)), (30, Value.pointer (some ⟨b12, o13 + k * 4, none⟩)), (31, Value.int .i64 y11.id), (32, Value.int .u64 (getC c (y11.id))), (33, Value.bool (decide ((y11.m.clock : Int) > (getC c (y11.id) : Int))))] ac_ ∧ Ws w No [Cel b3 #[Value.int .u64 y11.m.clock, Value.int .i64 y11.m.site.f, Value.int .i64 y11.m.site.pc] 32, Cel b1 #[Value.slice A_V V.length c_V] 51] [roR (some ⟨b12, o13, none⟩) 4 enOne g6, roR A_c 1 enU c, nestR innerVecE V, roR A_V 2 enVecE V] wl_) ?_ ?_
         · refine sr_region (m := 13) (C := Ws w No [Cel b3 #[Value.int .u64 0, Value.int .i64 0, Value.int .i64 0] 32, Cel b1 #[Value.slice A_V V.length c_V] 51] [roR (some ⟨b12, o13, none⟩) 4 enOne g6, roR A_c 1 enU c, nestR innerVecE V, roR A_V 2 enVecE V]) (fun i => [4, 9].contains i) (fun i => [4, 9].contains i) (fun i => [0, 1, 2, 3, 5, 6, 7, 8, 10, 12].contains i) (by kernel_rfl) (by kernel_rfl) (by kernel_rfl) (by kernel_rfl) hW ?_; clear hW; intro w16 hW hfw16 hR; have hC : Ws w No [Cel b3 #[Value.int .u64 0, Value.int .i64 0, Value.int .i64 0] 32, Cel b1 #[Value.slice A_V V.length c_V] 51] [roR (some ⟨b12, o13, none⟩) 4 enOne g6, roR A_c 1 enU c, nestR innerVecE V, roR A_V 2 enVecE V] w16 := hW.pick [0, 1] (by decide) rfl
           refine sr_pure (i := 0) (v := Value.slice (some ⟨b12, o13, none⟩) (g6).length co8) hR (by kernel_rfl) rfl (by kernel_rfl) (by kernel_rfl) (fun _ _ _ h => h.elim) hA (by kernel_rfl) (by kernel_rfl) (by kernel_rfl) (Rd.pure fun _ => by kernel_rfl) ?_; clear hA ac; intro ac hA
           refine sr_pure (i := 1) (v := Value.int .i64 ((k : Nat) : Int)) hR (by kernel_rfl) rfl (by kernel_rfl) (by kernel_rfl) (fun _ _ _ h => h.elim) hA (by kernel_rfl) (by kernel_rfl) (by kernel_rfl) (Rd.pure fun _ => by kernel_rfl) ?_; clear hA ac; intro ac hA
           refine sr_pure (i := 2) (v := Value.pointer (some ⟨b12, o13 + k * 4, none⟩)) hR (by kernel_rfl) rfl (by kernel_rfl) (by kernel_rfl) (fun _ _ _ h => h.elim) hA (by kernel_rfl) (by kernel_rfl) (by kernel_rfl) (Rd.indexAddr (e := 90) (sz := 4) (b := b12) (off := o13) (n := (g6).length) (c := co8) (k := k) (by kernel_rfl) (by kernel_rfl) (by first | omega | (simp; done) | (simp; omega)) (fun _ => by kernel_rfl) (fun _ => by kernel_rfl)) ?_; clear hA ac; intro ac hA
           refine sr_pure (i := 3) (v := Value.pointer (some ⟨b12, o13 + k * 4, none⟩)) hR (by kernel_rfl) rfl (by kernel_rfl) (by kernel_rfl) (fun _ _ _ h => h.elim) hA (by kernel_rfl) (by kernel_rfl) (by kernel_rfl) (Rd.pure fun _ => by kernel_rfl) ?_; clear hA ac; intro ac hA
           refine sr_take (i := 4) (v := Value.int .i64 y11.id) hR (by kernel_rfl) rfl (by kernel_rfl) (by kernel_rfl) (by kernel_rfl) (fun _ _ _ h => h.elim) hA (by kernel_rfl) (by kernel_rfl) (by kernel_rfl) hC (Rd.loadRow (b := b12) (i := o13 + k * 4) (xs := [Value.int .i64 y11.id]) (by kernel_rfl) (fun _ hw => row_ld ((hw).getG 0 rfl) hy11 (Fr.refl No _) (fun h => h) 0 1 (by kernel_rfl)) (by kernel_rfl)) ?_; clear hA ac; intro ac hA
           refine sr_pure (i := 5) (v := Value.slice (some ⟨b12, o13, none⟩) (g6).length co8) hR (by kernel_rfl) rfl (by kernel_rfl) (by kernel_rfl) (fun _ _ _ h => h.elim) hA (by kernel_rfl) (by kernel_rfl) (by kernel_rfl) (Rd.pure fun _ => by kernel_rfl) ?_; clear hA ac; intro ac hA
           refine sr_pure (i := 6) (v := Value.int .i64 ((k : Nat) : Int)) hR (by kernel_rfl) rfl (by kernel_rfl) (by kernel_rfl) (fun _ _ _ h => h.elim) hA (by kernel_rfl) (by kernel_rfl) (by kernel_rfl) (Rd.pure fun _ => by kernel_rfl) ?_; clear hA ac; intro ac hA
           refine sr_pure (i := 7) (v := Value.pointer (some ⟨b12, o13 + k * 4, none⟩)) hR (by kernel_rfl) rfl (by kernel_rfl) (by kernel_rfl) (fun _ _ _ h => h.elim) hA (by kernel_rfl) (by kernel_rfl) (by kernel_rfl) (Rd.indexAddr (e := 90) (sz := 4) (b := b12) (off := o13) (n := (g6).length) (c := co8) (k := k) (by kernel_rfl) (by kernel_rfl) (by first | omega | (simp; done) | (simp; omega)) (fun _ => by kernel_rfl) (fun _ => by kernel_rfl)) ?_; clear hA ac; intro ac hA
           refine sr_pure (i := 8) (v := Value.pointer (some ⟨b12, o13 + k * 4 + 1, none⟩)) hR (by kernel_rfl) rfl (by kernel_rfl) (by kernel_rfl) (fun _ _ _ h => h.elim) hA (by kernel_rfl) (by kernel_rfl) (by kernel_rfl) (Rd.pure fun _ => by kernel_rfl) ?_; clear hA ac; intro ac hA
           refine sr_take (i := 9) (v := Value.agg #[Value.int .u64 y11.m.clock, Value.int .i64 y11.m.site.f, Value.int .i64 y11.m.site.pc]) hR (by kernel_rfl) rfl (by kernel_rfl) (by kernel_rfl) (by kernel_rfl) (fun _ _ _ h => h.elim) hA (by kernel_rfl) (by kernel_rfl) (by kernel_rfl) hC (Rd.loadRow (b := b12) (i := o13 + k * 4 + 1) (xs := [Value.int .u64 y11.m.clock, Value.int .i64 y11.m.site.f, Value.int .i64 y11.m.site.pc]) (by kernel_rfl) (fun _ hw => row_ld ((hw).getG 0 rfl) hy11 (Fr.refl No _) (fun h => h) 1 3 (by kernel_rfl)) (by kernel_rfl)) ?_; clear hA ac; intro ac hA
           refine sr_pure (i := 10) (v := Value.int .i64 y11.id) hR (by kernel_rfl) rfl (by kernel_rfl) (by kernel_rfl) (fun _ _ _ h => h.elim) hA (by kernel_rfl) (by kernel_rfl) (by kernel_rfl) (Rd.pure fun _ => by kernel_rfl) ?_; clear hA ac; intro ac hA
           refine sr_one (i := 11) (by kernel_rfl) (sr_do rfl hA (by kernel_rfl) (by kernel_rfl) (by kernel_rfl) (Runs.store (v := Value.agg #[Value.int .u64 y11.m.clock, Value.int .i64 y11.m.site.f, Value.int .i64 y11.m.site.pc]) (b := b3) (j := 0) (n := 3) (cs' := #[Value.int .u64 y11.m.clock, Value.int .i64 y11.m.site.f, Value.int .i64 y11.m.site.pc]) (H' := [Cel b3 #[Value.int .u64 y11.m.clock, Value.int .i64 y11.m.site.f, Value.int .i64 y11.m.site.pc] 32, Cel b1 #[Value.slice A_V V.length c_V] 51]) (by kernel_rfl) (by kernel_rfl) (by kernel_rfl) (by kernel_rfl) (by kernel_rfl) hW 0 (by rfl) (Nat.le_of_ble_eq_true (by kernel_rfl)) (by kernel_rfl) (by rfl) ?_)); clear hA ac hW; intro w17 hW ac hA
           refine ⟨⟨fun h => absurd h (by decide), fun h => absurd h (by decide)⟩, ?_⟩
           refine sr_pure (i := 12) (v := Value.bool true) hR (by kernel_rfl) rfl (by kernel_rfl) (by kernel_rfl) (fun _ _ _ h => h.elim) hA (by kernel_rfl) (by kernel_rfl) (by kernel_rfl) (Rd.pure fun _ => by kernel_rfl) ?_; clear hA ac; intro ac hA
           refine sr_done (by kernel_rfl) ?_ _
           exact ⟨hA.sub ⟨⟨by kernel_rfl, by kernel_rfl⟩, ⟨by kernel_rfl, by kernel_rfl⟩, ⟨by kernel_rfl, by kernel_rfl⟩, ⟨by kernel_rfl, by kernel_rfl⟩, ⟨by kernel_rfl, by kernel_rfl⟩, ⟨by kernel_rfl, by kernel_rfl⟩, ⟨by kernel_rfl, by kernel_rfl⟩, ⟨by kernel_rfl, by kernel_rfl⟩, ⟨by kernel_rfl, by kernel_rfl⟩, ⟨by kernel_rfl, by kernel_rfl⟩, ⟨by kernel_rfl, by kernel_rfl⟩, ⟨by kernel_rfl, by kernel_rfl⟩, ⟨by kernel_rfl, by kernel_rfl⟩, ⟨by kernel_rfl, by kernel_rfl⟩, ⟨by kernel_rfl, by kernel_rfl⟩, ⟨by kernel_rfl, by kernel_rfl⟩, ⟨by kernel_rfl, by kernel_rfl⟩, ⟨by kernel_rfl, by kernel_rfl⟩, ⟨by kernel_rfl, by kernel_rfl⟩, ⟨by kernel_rfl, by kernel_rfl⟩, ⟨by kernel_rfl, by kernel_rfl⟩, ⟨by kernel_rfl, by kernel_rfl⟩, ⟨by kernel_rfl, by kernel_rfl⟩, ⟨by kernel_rfl, by kernel_rfl⟩, ⟨by kernel_rfl, by kernel_rfl⟩, trivial⟩, (hW.pick [0, 1] (by decide) rfl).pickG [0, 1, 2, 3] rfl⟩
         clear hA ac hW; rintro ac w18 ⟨hA, hW⟩
         refine thenN ?_
         refine wp_ret ?_
         refine blkR ?_
         refine thenR ?_
         refine thenR ?_
         refine blkR ?_
         refine thenR ?_
         refine ret3 (v1 := Value.int .i64 y11.id) (v2 := Value.agg #[Value.int .u64 y11.m.clock, Value.int .i64 y11.m.site.f, Value.int .i64 y11.m.site.pc]) (v3 := Value.bool true) (by rfl) hA (Got.tmp hA (by kernel_rfl) (by kernel_rfl)) (Got.cell (b := b3) (i := 0) hA (by kernel_rfl) (by kernel_rfl) (hW.cel 0 rfl) (by kernel_rfl)) (Got.tmp hA (by kernel_rfl) (by kernel_rfl)) ?_
         clear hA
         exact ⟨y11.id, y11.m, true, by first | rfl | (simp; done), by unfold beyP2; rw [← hw5_hA, find_some hn hy11 (decide_eq_true h15)]; exact ⟨rfl, rfl, rfl⟩, hW.fr⟩)
     · skip
       have h15 := of_decide_eq_false h15
       first
       | (exfalso; clear hA hW; omega)
       | (
         refine wp_skip ?_
         refine blkN ?_
         refine thenN ?_
         refine wp_region_lit ?_
         refine st_rd (v := Value.int .i64 ((k : Nat) : Int)) hA (by kernel_rfl) (by kernel_rfl) (by kernel_rfl) hW.cls (Rd.pure fun _ => by kernel_rfl) ?_; clear hA ac; intro ac hA
         refine st_rd (v := Value.int .i64 ((k + 1 : Nat) : Int)) hA (by kernel_rfl) (by kernel_rfl) (by kernel_rfl) hW.cls (Rd.pureE (v0 := Value.int .i64 (IntKind.i64.wrap ((((k : Nat) : Int) : Int) + 1))) (fun _ => by kernel_rfl) (congrArg (Value.int .i64) ((w_i64 (x := (((k : Nat) : Int) : Int) + 1) (by omega) (by omega)).trans (by omega)))) ?_; clear hA ac; intro ac hA
         refine st_rd (v := Value.int .i64 ((k + 1 : Nat) : Int)) hA (by kernel_rfl) (by kernel_rfl) (by kernel_rfl) hW.cls (Rd.pure fun _ => by kernel_rfl) ?_; clear hA ac; intro ac hA
         refine wpList_nil ?_
         refine thenN ?_
         exact ⟨g6.length - (k + 1), by omega, k + 1, rfl, by omega, by intro x hx; rw [tk_snoc hy11] at hx; rcases List.mem_append.1 hx with hx | hx; exact hn x hx; (simp only [List.mem_singleton] at hx; subst hx; exact decide_eq_false (by first | assumption | omega)), hA.sub ⟨⟨by kernel_rfl, by kernel_rfl⟩, ⟨by kernel_rfl, by kernel_rfl⟩, ⟨by kernel_rfl, by kernel_rfl⟩, ⟨by kernel_rfl, by kernel_rfl⟩, ⟨by kernel_rfl, by kernel_rfl⟩, trivial⟩, (hW.pick [0, 1] (by decide) rfl).pickG [0, 1, 2, 3] rfl⟩))
 · skip
   have h10 := of_decide_eq_false h10
   first
   | (exfalso; clear hA hW; omega)
   | (
     refine wp_exit ?_
     refine thenX ?_
     refine thenX ?_
     refine blkX ?_
     refine thenN ?_
     refine wp_seq ?_
     refine wp_region_lit ?_
     refine st_rd (v := Value.agg #[Value.int .u64 0, Value.int .i64 0, Value.int .i64 0]) hA (by kernel_rfl) (by kernel_rfl) (by kernel_rfl) hW.cls (Rd.pure fun _ => by kernel_rfl) ?_; clear hA ac; intro ac hA
     refine st_rd (v := Value.int .i64 0) hA (by kernel_rfl) (by kernel_rfl) (by kernel_rfl) hW.cls (Rd.pure fun _ => by kernel_rfl) ?_; clear hA ac; intro ac hA
     refine st hA (by kernel_rfl) (by kernel_rfl) (by kernel_rfl) (Runs.store (v := Value.agg #[Value.int .u64 0, Value.int .i64 0, Value.int .i64 0]) (b := b3) (j := 0) (n := 3) (cs' := #[Value.int .u64 0, Value.int .i64 0, Value.int .i64 0]) (H' := [Cel b3 #[Value.int .u64 0, Value.int .i64 0, Value.int .i64 0] 32, Cel b1 #[Value.slice A_V V.length c_V] 51]) (by kernel_rfl) (by kernel_rfl) (by kernel_rfl) (by kernel_rfl) (by kernel_rfl) hW 0 (by rfl) (Nat.le_of_ble_eq_true (by kernel_rfl)) (by kernel_rfl) (by rfl) ?_); clear hA ac hW; intro w19 hW ac hA
     refine st_rd (v := Value.bool false) hA (by kernel_rfl) (by kernel_rfl) (by kernel_rfl) hW.cls (Rd.pure fun _ => by kernel_rfl) ?_; clear hA ac; intro ac hA
     refine wpList_nil ?_
     refine thenN ?_
     refine wp_ret ?_
     refine ret3 (v1 := Value.int .i64 0) (v2 := Value.agg #[Value.int .u64 0, Value.int .i64 0, Value.int .i64 0]) (v3 := Value.bool false) (by rfl) hA (Got.tmp hA (by kernel_rfl) (by kernel_rfl)) (Got.cell (b := b3) (i := 0) hA (by kernel_rfl) (by kernel_rfl) (hW.cel 0 rfl) (by kernel_rfl)) (Got.tmp hA (by kernel_rfl) (by kernel_rfl)) ?_
     clear hA
     exact ⟨0, (⟨0, (⟨0, 0⟩ : Site)⟩ : Mark), false, by first | rfl | (simp; done), by unfold beyP2; rw [← hw5_hA, find_no hn (by omega)]; exact ⟨rfl, rfl, rfl⟩, hW.fr⟩)

set_option maxRecDepth 100000 in
theorem e_rlive (A_V : Option Addr) (c_V : Nat) (V : List VecE) (w : World) (hr_V : RowAt w A_V 2 enVecE V) (hc_V : V.length ≤ c_V) (hn_V : (nestR innerVecE V).p w) (hk_V : ∀ x_ ∈ V, capVecE x_) (hl : V.length ≤ 1000) : Calls Try.prog 40 #[Value.agg #[Value.slice A_V V.length c_V]] w (fun e w' => ∃ ks : List Int, ∃ (A_o : Option Addr) (c_o : Nat), e = .returned (Value.slice A_o (ks).length c_o) ∧ (ks = liveN (pv V) V.length) ∧ (ks).length ≤ c_o ∧ Made (rowR 3 1 enI (.slice A_o (ks).length c_o) ks) w w') := by
 have _hu := hc_V; have _hv := hr_V; clear _hu _hv
 have _hu := hk_V; have _hv := hn_V; clear _hu _hv
 have _hu := hl; clear _hu
 refine enter_E 20 Try.func40 rfl rfl (by kernel_rfl) (L := [(0, Value.agg #[Value.slice A_V V.length c_V])]) (by kernel_rfl) ?_
 intro ac hA
 have hW := Ws.start w No
 have hW := hW.arg hr_V
 have hW := hW.addG _ hn_V (nest_ltVecE hn_V) (by simp)
 refine wp_seq ?_
 refine wp_region_lit ?_
 refine st hA (by kernel_rfl) (by kernel_rfl) (by kernel_rfl) (Runs.cells (fun b => Value.pointer (some ⟨b, 0, none⟩)) #[Value.slice A_V V.length c_V] 51 (fun _ => by kernel_rfl) hW ?_); clear hA ac hW; intro b1 w2 hW hb1 hfw2 ac hA
 refine st_rd (v := Value.slice none 0 0) hA (by kernel_rfl) (by kernel_rfl) (by kernel_rfl) hW.cls (Rd.pure fun _ => by kernel_rfl) ?_; clear hA ac; intro ac hA
 refine wpList_nil ?_
 refine thenN ?_
 refine wp_seq ?_
 refine wp_region_lit ?_
 refine st_rd (v := Value.slice none 0 0) hA (by kernel_rfl) (by kernel_rfl) (by kernel_rfl) hW.cls (Rd.pure fun _ => by kernel_rfl) ?_; clear hA ac; intro ac hA
 refine wpList_nil ?_
 refine thenN ?_
 refine wp_seq ?_
 refine wp_seq ?_
 refine wp_region_lit ?_
 refine st_rd (v := Value.int .i64 1) hA (by kernel_rfl) (by kernel_rfl) (by kernel_rfl) hW.cls (Rd.pure fun _ => by kernel_rfl) ?_; clear hA ac; intro ac hA
 refine wpList_nil ?_
 refine thenN ?_
 refine wp_block ?_
 have hW := hW.addNil 3 1 enI
 refine wp_loop_m (fun m_ ac_ wl_ => ∃ n : Nat, ∃ O : List Int, ∃ A : Option Addr, ∃ c : Nat, m_ = V.length - n ∧ (n ≤ V.length) ∧ (O = liveN (pv V) n) ∧ (O.length ≤ n) ∧ (O.length ≤ c) ∧ Fm 20 [] [(1, Value.pointer (some ⟨b1, 0, none⟩)), (3, Value.slice A O.length c), (4, Value.int .i64 ((n : Int) + 1))] ac_ ∧ Ws w No [rowR 3 1 enI (Value.slice A O.length c) O, Cel b1 #[Value.slice A_V V.length c_V] 51] [nestR innerVecE V, roR A_V 2 enVecE V] wl_) _ ⟨0, [], none, 0, rfl, by omega, by rfl, by simp, by simp, hA.sub ⟨⟨by kernel_rfl, by kernel_rfl⟩, ⟨by kernel_rfl, by kernel_rfl⟩, ⟨by kernel_rfl, by kernel_rfl⟩, trivial⟩, (hW.pick [0, 1] (by decide) rfl).pickG [0, 1] rfl⟩ ?_
 clear hA ac hW; rintro m_ ac w3 ⟨n, O, A, c, rfl, hk, hO, hOl, hcO, hA, hW⟩
 refine wp_seq ?_
 refine wp_seq ?_
 refine wp_region_lit ?_
 refine st_rd (v := Value.int .i64 ((n : Int) + 1)) hA (by kernel_rfl) (by kernel_rfl) (by kernel_rfl) hW.cls (Rd.pure fun _ => by kernel_rfl) ?_; clear hA ac; intro ac hA
 refine st_rd (v := Value.pointer (some ⟨b1, 0, none⟩)) hA (by kernel_rfl) (by kernel_rfl) (by kernel_rfl) hW.cls (Rd.pure fun _ => by kernel_rfl) ?_; clear hA ac; intro ac hA
 refine st_rd (v := Value.slice A_V V.length c_V) hA (by kernel_rfl) (by kernel_rfl) (by kernel_rfl) hW.cls (Rd.load (b := b1) (i := 0) (by kernel_rfl) (fun _ hw => (hw.1).cel 1 rfl) (by kernel_rfl)) ?_; clear hA ac; intro ac hA
 refine st_rd (v := Value.int .i64 ((V.length : Nat) : Int)) hA (by kernel_rfl) (by kernel_rfl) (by kernel_rfl) hW.cls (Rd.pure fun _ => by kernel_rfl) ?_; clear hA ac; intro ac hA
 refine st_rd (v := Value.bool (decide ((((n : Int) + 1) : Int) ≤ (((V.length : Nat) : Int) : Int)))) hA (by kernel_rfl) (by kernel_rfl) (by kernel_rfl) hW.cls (Rd.pure fun _ => by kernel_rfl) ?_; clear hA ac; intro ac hA
 refine wpList_nil ?_
 refine thenN ?_
 refine wp_cond_split (t := decide ((((n : Int) + 1) : Int) ≤ (((V.length : Nat) : Int) : Int))) (hA.eval (by kernel_rfl)) (fun h4 => ?_) (fun h4 => ?_)
 · skip
   have h4 := of_decide_eq_true h4
   first
   | (exfalso; clear hA hW; omega)
   | (
     refine wp_skip ?_
     refine thenN ?_
     refine wp_seq ?_
     refine wp_block ?_
     refine wp_seq ?_
     refine wp_region_lit ?_
     refine st_rd (v := Value.agg #[Value.slice A_V V.length c_V]) hA (by kernel_rfl) (by kernel_rfl) (by kernel_rfl) hW.cls (Rd.load (b := b1) (i := 0) (by kernel_rfl) (fun _ hw => (hw.1).cel 1 rfl) (by kernel_rfl)) ?_; clear hA ac; intro ac hA
     refine st_rd (v := Value.int .i64 ((n : Int) + 1)) hA (by kernel_rfl) (by kernel_rfl) (by kernel_rfl) hW.cls (Rd.pure fun _ => by kernel_rfl) ?_; clear hA ac; intro ac hA
     refine st hA (by kernel_rfl) (by kernel_rfl) (by kernel_rfl) (Runs.callN (v := Value.bool (thereP (pv V) (((n : Int) + 1)))) (fun _ => by kernel_rfl) hW (e_rthere A_V c_V V (((n : Int) + 1)) w3 ((hW).getG 1 rfl) (by first | assumption | omega | (simp; omega) | simp) ((hW).getG 0 rfl) hk_V (by first | omega | (simp; done))) ?_); clear hA ac hW; intro w5 hW hfw5 ac hA
     refine wpList_nil ?_
     refine thenN ?_
     refine wp_cond_split (t := thereP (pv V) (((n : Int) + 1))) (hA.eval (by kernel_rfl)) (fun h6 => ?_) (fun h6 => ?_)
     · skip
       first
       | (exfalso; clear hA hW; omega)
       | (
         refine wp_region_lit ?_
         refine st_rd (v := Value.slice A O.length c) hA (by kernel_rfl) (by kernel_rfl) (by kernel_rfl) hW.cls (Rd.pure fun _ => by kernel_rfl) ?_; clear hA ac; intro ac hA
         refine st_rd (v := Value.int .i64 ((n : Int) + 1)) hA (by kernel_rfl) (by kernel_rfl) (by kernel_rfl) hW.cls (Rd.pure fun _ => by kernel_rfl) ?_; clear hA ac; intro ac hA
         refine st hA (by kernel_rfl) (by kernel_rfl) (by kernel_rfl) (Runs.cells (fun b => Value.slice (some ⟨b, 0, none⟩) 1 1) #[Value.int .i64 ((n : Int) + 1)] 3 (fun _ => by kernel_rfl) hW ?_); clear hA ac hW; intro b7 w8 hW hb7 hfw8 ac hA
         refine st hA (by kernel_rfl) (by kernel_rfl) (by kernel_rfl) (Runs.appOwn (B := (some ⟨b7, 0, none⟩)) (k := 1) (E := 3) (sz := 1) (en := enI) (l := O) (m := ([((n : Int) + 1)] : List Int)) (i := 1) (by kernel_rfl) (by kernel_rfl) elt_I (by kernel_rfl) hW rfl (rowAt_cel ((hW).cel 0 rfl) ([((n : Int) + 1)] : List Int) (by rfl) elt_I.len) (by first | omega | (simp; done) | (simp; omega)) (by first | omega | (simp; done) | (simp; omega)) ?_); clear hA ac hW; intro A9 c10 w11 hW hcc10 ac hA
         refine st_rd (v := Value.slice A9 (O ++ ([((n : Int) + 1)] : List Int)).length c10) hA (by kernel_rfl) (by kernel_rfl) (by kernel_rfl) hW.cls (Rd.pure fun _ => by kernel_rfl) ?_; clear hA ac; intro ac hA
         refine wpList_nil ?_
         refine blkN ?_
         refine thenN ?_
         refine wp_region_lit ?_
         refine st_rd (v := Value.int .i64 ((n : Int) + 1)) hA (by kernel_rfl) (by kernel_rfl) (by kernel_rfl) hW.cls (Rd.pure fun _ => by kernel_rfl) ?_; clear hA ac; intro ac hA
         refine st_rd (v := Value.int .i64 ((((n : Int) + 1) : Int) + 1)) hA (by kernel_rfl) (by kernel_rfl) (by kernel_rfl) hW.cls (Rd.pureE (v0 := Value.int .i64 (IntKind.i64.wrap ((((n : Int) + 1) : Int) + 1))) (fun _ => by kernel_rfl) (congrArg (Value.int .i64) ((w_i64 (x := (((n : Int) + 1) : Int) + 1) (by omega) (by omega)).trans (by omega)))) ?_; clear hA ac; intro ac hA
         refine st_rd (v := Value.int .i64 ((((n : Int) + 1) : Int) + 1)) hA (by kernel_rfl) (by kernel_rfl) (by kernel_rfl) hW.cls (Rd.pure fun _ => by kernel_rfl) ?_; clear hA ac; intro ac hA
         refine wpList_nil ?_
         refine thenN ?_
         exact ⟨V.length - (n + 1), by omega, n + 1, O ++ ([((n : Int) + 1)] : List Int), A9, c10, rfl, by omega, by rw [liveN_yes h6, hO], by first | omega | (simp; omega), by exact hcc10, hA.sub ⟨⟨by kernel_rfl, by kernel_rfl⟩, ⟨by kernel_rfl, by kernel_rfl⟩, ⟨by kernel_rfl, by kernel_rfl⟩, trivial⟩, (hW.pick [1, 2] (by decide) rfl).pickG [0, 1] rfl⟩)
     · skip
       first
       | (exfalso; clear hA hW; omega)
       | (
         refine wp_skip ?_
         refine blkN ?_
         refine thenN ?_
         refine wp_region_lit ?_
         refine st_rd (v := Value.int .i64 ((n : Int) + 1)) hA (by kernel_rfl) (by kernel_rfl) (by kernel_rfl) hW.cls (Rd.pure fun _ => by kernel_rfl) ?_; clear hA ac; intro ac hA
         refine st_rd (v := Value.int .i64 ((((n : Int) + 1) : Int) + 1)) hA (by kernel_rfl) (by kernel_rfl) (by kernel_rfl) hW.cls (Rd.pureE (v0 := Value.int .i64 (IntKind.i64.wrap ((((n : Int) + 1) : Int) + 1))) (fun _ => by kernel_rfl) (congrArg (Value.int .i64) ((w_i64 (x := (((n : Int) + 1) : Int) + 1) (by omega) (by omega)).trans (by omega)))) ?_; clear hA ac; intro ac hA
         refine st_rd (v := Value.int .i64 ((((n : Int) + 1) : Int) + 1)) hA (by kernel_rfl) (by kernel_rfl) (by kernel_rfl) hW.cls (Rd.pure fun _ => by kernel_rfl) ?_; clear hA ac; intro ac hA
         refine wpList_nil ?_
         refine thenN ?_
         exact ⟨V.length - (n + 1), by omega, n + 1, O, A, c, rfl, by omega, by rw [liveN_no h6, hO], by first | omega | (simp; omega), by exact hcO, hA.sub ⟨⟨by kernel_rfl, by kernel_rfl⟩, ⟨by kernel_rfl, by kernel_rfl⟩, ⟨by kernel_rfl, by kernel_rfl⟩, trivial⟩, (hW.pick [0, 1] (by decide) rfl).pickG [0, 1] rfl⟩))
 · skip
   have h4 := of_decide_eq_false h4
   first
   | (exfalso; clear hA hW; omega)
   | (
     refine wp_exit ?_
     refine thenX ?_
     refine thenX ?_
     refine blkX ?_
     refine thenN ?_
     refine wp_seq ?_
     refine wp_region_lit ?_
     refine st_rd (v := Value.slice A O.length c) hA (by kernel_rfl) (by kernel_rfl) (by kernel_rfl) hW.cls (Rd.pure fun _ => by kernel_rfl) ?_; clear hA ac; intro ac hA
     refine st_rd (v := Value.slice A O.length c) hA (by kernel_rfl) (by kernel_rfl) (by kernel_rfl) hW.cls (Rd.pure fun _ => by kernel_rfl) ?_; clear hA ac; intro ac hA
     refine wpList_nil ?_
     refine thenN ?_
     refine wp_ret ?_
     refine ret1 (v := Value.slice A O.length c) (by rfl) hA (Got.tmp hA (by kernel_rfl) (by kernel_rfl)) ?_
     clear hA
     exact ⟨O, A, c, by first | rfl | (simp; done), by rw [hO]; congr 1; omega, (own_cap ((hW).get 0 rfl)), hW.madeRow 0 rfl⟩)

set_option maxRecDepth 100000 in
theorem e_ones (A_l : Option Addr) (c_l : Nat) (l : List One) (A_r : Option Addr) (c_r : Nat) (r : List One) (w : World) (hr_l : RowAt w A_l 4 enOne l) (hc_l : l.length ≤ c_l) (hr_r : RowAt w A_r 4 enOne r) (hc_r : r.length ≤ c_r) (hl : l.length ≤ 100000 ∧ r.length ≤ 100000) : Calls Try.prog 42 #[Value.slice A_l l.length c_l, Value.slice A_r r.length c_r] w (fun e w' => e = .returned (Value.bool (decide (l = r))) ∧ Fr No w w') := by
 have _hu := hc_l; have _hv := hr_l; clear _hu _hv
 have _hu := hc_r; have _hv := hr_r; clear _hu _hv
 have _hu := hl; clear _hu
 refine enter_E 26 Try.func42 rfl rfl (by kernel_rfl) (L := [(0, Value.slice A_l l.length c_l), (1, Value.slice A_r r.length c_r)]) (by kernel_rfl) ?_
 intro ac hA
 have hW := Ws.start w No
 have hW := hW.arg hr_l
 have hW := hW.arg hr_r
 refine wp_seq ?_
 refine wp_region_lit ?_
 refine st_rd (v := Value.bool false) hA (by kernel_rfl) (by kernel_rfl) (by kernel_rfl) hW.cls (Rd.pure fun _ => by kernel_rfl) ?_; clear hA ac; intro ac hA
 refine wpList_nil ?_
 refine thenN ?_
 refine wp_seq ?_
 refine wp_seq ?_
 refine wp_region_lit ?_
 refine st_rd (v := Value.slice A_l l.length c_l) hA (by kernel_rfl) (by kernel_rfl) (by kernel_rfl) hW.cls (Rd.pure fun _ => by kernel_rfl) ?_; clear hA ac; intro ac hA
 refine st_rd (v := Value.int .i64 ((l.length : Nat) : Int)) hA (by kernel_rfl) (by kernel_rfl) (by kernel_rfl) hW.cls (Rd.pure fun _ => by kernel_rfl) ?_; clear hA ac; intro ac hA
 refine st_rd (v := Value.slice A_r r.length c_r) hA (by kernel_rfl) (by kernel_rfl) (by kernel_rfl) hW.cls (Rd.pure fun _ => by kernel_rfl) ?_; clear hA ac; intro ac hA
 refine st_rd (v := Value.int .i64 ((r.length : Nat) : Int)) hA (by kernel_rfl) (by kernel_rfl) (by kernel_rfl) hW.cls (Rd.pure fun _ => by kernel_rfl) ?_; clear hA ac; intro ac hA
 refine st_rd (v := Value.bool ((((l.length : Nat) : Int) : Int) != (((r.length : Nat) : Int) : Int))) hA (by kernel_rfl) (by kernel_rfl) (by kernel_rfl) hW.cls (Rd.pure fun _ => by kernel_rfl) ?_; clear hA ac; intro ac hA
 refine wpList_nil ?_
 refine thenN ?_
 refine wp_cond_split (t := (((l.length : Nat) : Int) : Int) != (((r.length : Nat) : Int) : Int)) (hA.eval (by kernel_rfl)) (fun h1 => ?_) (fun h1 => ?_)
 · skip
   have h1 := bne_iff_ne.1 h1
   first
   | (exfalso; clear hA hW; omega)
   | (
     refine wp_seq ?_
     refine wp_region_lit ?_
     refine st_rd (v := Value.bool false) hA (by kernel_rfl) (by kernel_rfl) (by kernel_rfl) hW.cls (Rd.pure fun _ => by kernel_rfl) ?_; clear hA ac; intro ac hA
     refine wpList_nil ?_
     refine thenN ?_
     refine wp_ret ?_
     refine thenR ?_
     refine ret1 (v := Value.bool false) (by rfl) hA (Got.tmp hA (by kernel_rfl) (by kernel_rfl)) ?_
     clear hA
     refine ⟨retv (congrArg Value.bool (decide_eq_false ?_).symm), hW.fr⟩; intro e; subst e; exact absurd rfl (by omega))
 · skip
   have h1 := of_bne_f h1
   first
   | (exfalso; clear hA hW; omega)
   | (
     refine wp_skip ?_
     refine thenN ?_
     refine wp_seq ?_
     refine wp_seq ?_
     refine wp_region_lit ?_
     refine st_rd (v := Value.int .i64 0) hA (by kernel_rfl) (by kernel_rfl) (by kernel_rfl) hW.cls (Rd.pure fun _ => by kernel_rfl) ?_; clear hA ac; intro ac hA
     refine wpList_nil ?_
     refine thenN ?_
     refine wp_block ?_
     refine wp_loop_m (fun m_ ac_ wl_ => ∃ k : Nat, m_ = l.length - k ∧ (k ≤ l.length) ∧ (l.take k = r.take k) ∧ Fm 26 [] [(0, Value.slice A_l l.length c_l), (1, Value.slice A_r r.length c_r), (5, Value.int .i64 ((k : Nat) : Int))] ac_ ∧ Ws w No [] [roR A_r 4 enOne r, roR A_l 4 enOne l] wl_) _ ⟨0, rfl, by omega, by rfl, hA.sub ⟨⟨by kernel_rfl, by kernel_rfl⟩, ⟨by kernel_rfl, by kernel_rfl⟩, ⟨by kernel_rfl, by kernel_rfl⟩, trivial⟩, (hW.pick [] (by decide) rfl).pickG [0, 1] rfl⟩ ?_
     clear hA ac hW; rintro m_ ac w2 ⟨k, rfl, hk, hn, hA, hW⟩
     refine wp_seq ?_
     refine wp_seq ?_
     refine wp_region_lit ?_
     refine st_rd (v := Value.int .i64 ((k : Nat) : Int)) hA (by kernel_rfl) (by kernel_rfl) (by kernel_rfl) hW.cls (Rd.pure fun _ => by kernel_rfl) ?_; clear hA ac; intro ac hA
     refine st_rd (v := Value.slice A_l l.length c_l) hA (by kernel_rfl) (by kernel_rfl) (by kernel_rfl) hW.cls (Rd.pure fun _ => by kernel_rfl) ?_; clear hA ac; intro ac hA
     refine st_rd (v := Value.int .i64 ((l.length : Nat) : Int)) hA (by kernel_rfl) (by kernel_rfl) (by kernel_rfl) hW.cls (Rd.pure fun _ => by kernel_rfl) ?_; clear hA ac; intro ac hA
     refine st_rd (v := Value.bool (decide ((((k : Nat) : Int) : Int) < (((l.length : Nat) : Int) : Int)))) hA (by kernel_rfl) (by kernel_rfl) (by kernel_rfl) hW.cls (Rd.pure fun _ => by kernel_rfl) ?_; clear hA ac; intro ac hA
     refine wpList_nil ?_
     refine thenN ?_
     refine wp_cond_split (t := decide ((((k : Nat) : Int) : Int) < (((l.length : Nat) : Int) : Int))) (hA.eval (by kernel_rfl)) (fun h3 => ?_) (fun h3 => ?_)
     · skip
       have h3 := of_decide_eq_true h3
       first
       | (exfalso; clear hA hW; omega)
       | (
         refine wp_skip ?_
         refine thenN ?_
         refine wp_seq ?_
         refine wp_block ?_
         refine wp_seq ?_
         refine q_region (by kernel_rfl) (by kernel_rfl) hW ?_
         refine sq_rd (v := Value.slice A_l l.length c_l) hA (by kernel_rfl) (by kernel_rfl) (by kernel_rfl) (Rd.pure fun _ => by kernel_rfl) ?_; clear hA ac; intro ac hA
         refine sq_rd (v := Value.int .i64 ((k : Nat) : Int)) hA (by kernel_rfl) (by kernel_rfl) (by kernel_rfl) (Rd.pure fun _ => by kernel_rfl) ?_; clear hA ac; intro ac hA
         obtain ⟨y4, hy4⟩ : ∃ y, l[k]? = some y := ⟨_, List.getElem?_eq_getElem (by first | omega | (simp; done) | (simp; omega))⟩
         obtain ⟨b5, o6, rfl, hbb5⟩ := row_some ((hW).getG 1 rfl) hy4
         refine sq_rd (v := Value.pointer (some ⟨b5, o6 + k * 4, none⟩)) hA (by kernel_rfl) (by kernel_rfl) (by kernel_rfl) (Rd.indexAddr (e := 90) (sz := 4) (b := b5) (off := o6) (n := l.length) (c := c_l) (k := k) (by kernel_rfl) (by kernel_rfl) (by first | omega | (simp; done) | (simp; omega)) (fun _ => by kernel_rfl) (fun _ => by kernel_rfl)) ?_; clear hA ac; intro ac hA
         refine sq_rd (v := Value.agg #[Value.int .i64 y4.id, Value.int .u64 y4.m.clock, Value.int .i64 y4.m.site.f, Value.int .i64 y4.m.site.pc]) hA (by kernel_rfl) (by kernel_rfl) (by kernel_rfl) (Rd.loadRow (b := b5) (i := o6 + k * 4) (xs := [Value.int .i64 y4.id, Value.int .u64 y4.m.clock, Value.int .i64 y4.m.site.f, Value.int .i64 y4.m.site.pc]) (by kernel_rfl) (fun _ hw => row_ld ((hw.1).getG 1 rfl) hy4 (Fr.refl No _) (fun h => h) 0 4 (by kernel_rfl)) (by kernel_rfl)) ?_; clear hA ac; intro ac hA
         refine sq_rd (v := Value.slice A_r r.length c_r) hA (by kernel_rfl) (by kernel_rfl) (by kernel_rfl) (Rd.pure fun _ => by kernel_rfl) ?_; clear hA ac; intro ac hA
         refine sq_rd (v := Value.int .i64 ((k : Nat) : Int)) hA (by kernel_rfl) (by kernel_rfl) (by kernel_rfl) (Rd.pure fun _ => by kernel_rfl) ?_; clear hA ac; intro ac hA
         obtain ⟨y7, hy7⟩ : ∃ y, r[k]? = some y := ⟨_, List.getElem?_eq_getElem (by first | omega | (simp; done) | (simp; omega))⟩
         obtain ⟨b8, o9, rfl, hbb8⟩ := row_some ((hW).getG 0 rfl) hy7
         refine sq_rd (v := Value.pointer (some ⟨b8, o9 + k * 4, none⟩)) hA (by kernel_rfl) (by kernel_rfl) (by kernel_rfl) (Rd.indexAddr (e := 90) (sz := 4) (b := b8) (off := o9) (n := r.length) (c := c_r) (k := k) (by kernel_rfl) (by kernel_rfl) (by first | omega | (simp; done) | (simp; omega)) (fun _ => by kernel_rfl) (fun _ => by kernel_rfl)) ?_; clear hA ac; intro ac hA
         refine sq_rd (v := Value.agg #[Value.int .i64 y7.id, Value.int .u64 y7.m.clock, Value.int .i64 y7.m.site.f, Value.int .i64 y7.m.site.pc]) hA (by kernel_rfl) (by kernel_rfl) (by kernel_rfl) (Rd.loadRow (b := b8) (i := o9 + k * 4) (xs := [Value.int .i64 y7.id, Value.int .u64 y7.m.clock, Value.int .i64 y7.m.site.f, Value.int .i64 y7.m.site.pc]) (by kernel_rfl) (fun _ hw => row_ld ((hw.1).getG 0 rfl) hy7 (Fr.refl No _) (fun h => h) 0 4 (by kernel_rfl)) (by kernel_rfl)) ?_; clear hA ac; intro ac hA
         refine sq_rd (v := Value.bool (!decide (y4 = y7))) hA (by kernel_rfl) (by kernel_rfl) (by kernel_rfl) (Rd.neS (u := y4.v) (v := y7.v) (by kernel_rfl) (by kernel_rfl) rfl rfl (by kernel_rfl) (fun w => eq_One w y4 y7)) ?_; clear hA ac; intro ac hA
         refine sq_nil ?_; intro w10 hww10; have hW := hww10.1; have hfw10 := hww10.2; clear hww10
         refine thenN ?_
         refine wp_cond_split (t := !decide (y4 = y7)) (hA.eval (by kernel_rfl)) (fun h11 => ?_) (fun h11 => ?_)
         · skip
           have h11 := not_t h11
           have h11 := of_decide_eq_false h11
           have h11e := fun e => h11 ((One.eqi _ _).2 e)
           first
           | (exfalso; clear hA hW; omega)
           | (
             refine wp_seq ?_
             refine wp_region_lit ?_
             refine st_rd (v := Value.bool false) hA (by kernel_rfl) (by kernel_rfl) (by kernel_rfl) hW.cls (Rd.pure fun _ => by kernel_rfl) ?_; clear hA ac; intro ac hA
             refine wpList_nil ?_
             refine thenN ?_
             refine wp_ret ?_
             refine blkR ?_
             refine thenR ?_
             refine thenR ?_
             refine blkR ?_
             refine thenR ?_
             refine ret1 (v := Value.bool false) (by rfl) hA (Got.tmp hA (by kernel_rfl) (by kernel_rfl)) ?_
             clear hA
             refine ⟨retv (congrArg Value.bool (decide_eq_false ?_).symm), hW.fr⟩; intro e; subst e; rw [hy4] at hy7; exact h11 (Option.some.inj hy7))
         · skip
           have h11 := not_f h11
           have h11 := of_decide_eq_true h11
           have h11e := (One.eqi _ _).1 h11
           first
           | (exfalso; clear hA hW; omega)
           | (
             refine wp_skip ?_
             refine blkN ?_
             refine thenN ?_
             refine wp_region_lit ?_
             refine st_rd (v := Value.int .i64 ((k : Nat) : Int)) hA (by kernel_rfl) (by kernel_rfl) (by kernel_rfl) hW.cls (Rd.pure fun _ => by kernel_rfl) ?_; clear hA ac; intro ac hA
             refine st_rd (v := Value.int .i64 ((k + 1 : Nat) : Int)) hA (by kernel_rfl) (by kernel_rfl) (by kernel_rfl) hW.cls (Rd.pureE (v0 := Value.int .i64 (IntKind.i64.wrap ((((k : Nat) : Int) : Int) + 1))) (fun _ => by kernel_rfl) (congrArg (Value.int .i64) ((w_i64 (x := (((k : Nat) : Int) : Int) + 1) (by omega) (by omega)).trans (by omega)))) ?_; clear hA ac; intro ac hA
             refine st_rd (v := Value.int .i64 ((k + 1 : Nat) : Int)) hA (by kernel_rfl) (by kernel_rfl) (by kernel_rfl) hW.cls (Rd.pure fun _ => by kernel_rfl) ?_; clear hA ac; intro ac hA
             refine wpList_nil ?_
             refine thenN ?_
             exact ⟨l.length - (k + 1), by omega, k + 1, rfl, by omega, by rw [tk_snoc hy4, tk_snoc hy7, hn, h11], hA.sub ⟨⟨by kernel_rfl, by kernel_rfl⟩, ⟨by kernel_rfl, by kernel_rfl⟩, ⟨by kernel_rfl, by kernel_rfl⟩, trivial⟩, (hW.pick [] (by decide) rfl).pickG [0, 1] rfl⟩))
     · skip
       have h3 := of_decide_eq_false h3
       first
       | (exfalso; clear hA hW; omega)
       | (
         refine wp_exit ?_
         refine thenX ?_
         refine thenX ?_
         refine blkX ?_
         refine thenN ?_
         refine wp_seq ?_
         refine wp_region_lit ?_
         refine st_rd (v := Value.bool true) hA (by kernel_rfl) (by kernel_rfl) (by kernel_rfl) hW.cls (Rd.pure fun _ => by kernel_rfl) ?_; clear hA ac; intro ac hA
         refine wpList_nil ?_
         refine thenN ?_
         refine wp_ret ?_
         refine ret1 (v := Value.bool true) (by rfl) hA (Got.tmp hA (by kernel_rfl) (by kernel_rfl)) ?_
         clear hA
         refine ⟨retv (congrArg Value.bool (decide_eq_true ?_).symm), hW.fr⟩; rw [List.take_of_length_le (by omega), List.take_of_length_le (by omega)] at hn; exact hn))

set_option maxRecDepth 100000 in
theorem e_rsame (A_V : Option Addr) (c_V : Nat) (V : List VecE) (A_W : Option Addr) (c_W : Nat) (W : List VecE) (w : World) (hr_V : RowAt w A_V 2 enVecE V) (hc_V : V.length ≤ c_V) (hn_V : (nestR innerVecE V).p w) (hk_V : ∀ x_ ∈ V, capVecE x_) (hr_W : RowAt w A_W 2 enVecE W) (hc_W : W.length ≤ c_W) (hn_W : (nestR innerVecE W).p w) (hk_W : ∀ x_ ∈ W, capVecE x_) (hl : V.length ≤ 1000 ∧ W.length ≤ 1000) (hL : ∀ y ∈ V, y.l.length ≤ 1000) (hLW : ∀ y ∈ W, y.l.length ≤ 1000) : Calls Try.prog 19 #[Value.agg #[Value.slice A_V V.length c_V], Value.agg #[Value.slice A_W W.length c_W]] w (fun e w' => e = .returned (Value.bool (sameB (pv V) (pv W))) ∧ Fr No w w') := by
 have _hu := hc_V; have _hv := hr_V; clear _hu _hv
 have _hu := hk_V; have _hv := hn_V; clear _hu _hv
 have _hu := hc_W; have _hv := hr_W; clear _hu _hv
 have _hu := hk_W; have _hv := hn_W; clear _hu _hv
 have _hu := hl; clear _hu
 have _hu := hL; clear _hu
 have _hu := hLW; clear _hu
 refine enter_E 34 Try.func19 rfl rfl (by kernel_rfl) (L := [(0, Value.agg #[Value.slice A_V V.length c_V]), (1, Value.agg #[Value.slice A_W W.length c_W])]) (by kernel_rfl) ?_
 intro ac hA
 have hW := Ws.start w No
 have hW := hW.arg hr_V
 have hW := hW.addG _ hn_V (nest_ltVecE hn_V) (by simp)
 have hW := hW.arg hr_W
 have hW := hW.addG _ hn_W (nest_ltVecE hn_W) (by simp)
 refine wp_seq ?_
 refine wp_region_lit ?_
 refine st hA (by kernel_rfl) (by kernel_rfl) (by kernel_rfl) (Runs.cells (fun b => Value.pointer (some ⟨b, 0, none⟩)) #[Value.slice A_V V.length c_V] 51 (fun _ => by kernel_rfl) hW ?_); clear hA ac hW; intro b1 w2 hW hb1 hfw2 ac hA
 refine st hA (by kernel_rfl) (by kernel_rfl) (by kernel_rfl) (Runs.cells (fun b => Value.pointer (some ⟨b, 0, none⟩)) #[Value.slice A_W W.length c_W] 51 (fun _ => by kernel_rfl) hW ?_); clear hA ac hW; intro b3 w4 hW hb3 hfw4 ac hA
 refine st_rd (v := Value.bool false) hA (by kernel_rfl) (by kernel_rfl) (by kernel_rfl) hW.cls (Rd.pure fun _ => by kernel_rfl) ?_; clear hA ac; intro ac hA
 refine wpList_nil ?_
 refine thenN ?_
 refine wp_seq ?_
 refine wp_seq ?_
 refine wp_region_lit ?_
 refine st_rd (v := Value.int .i64 1) hA (by kernel_rfl) (by kernel_rfl) (by kernel_rfl) hW.cls (Rd.pure fun _ => by kernel_rfl) ?_; clear hA ac; intro ac hA
 refine wpList_nil ?_
 refine thenN ?_
 refine wp_block ?_
 refine wp_loop_m (fun m_ ac_ wl_ => ∃ n : Nat, m_ = max V.length W.length - n ∧ (∀ i : Nat, i < n → sameQ (pv V) (pv W) i = true) ∧ Fm 34 [] [(2, Value.pointer (some ⟨b1, 0, none⟩)), (3, Value.pointer (some ⟨b3, 0, none⟩)), (5, Value.int .i64 ((n : Int) + 1))] ac_ ∧ Ws w No [Cel b3 #[Value.slice A_W W.length c_W] 51, Cel b1 #[Value.slice A_V V.length c_V] 51] [nestR innerVecE W, roR A_W 2 enVecE W, nestR innerVecE V, roR A_V 2 enVecE V] wl_) _ ⟨0, rfl, by omega, hA.sub ⟨⟨by kernel_rfl, by kernel_rfl⟩, ⟨by kernel_rfl, by kernel_rfl⟩, ⟨by kernel_rfl, by kernel_rfl⟩, trivial⟩, (hW.pick [0, 1] (by decide) rfl).pickG [0, 1, 2, 3] rfl⟩ ?_
 clear hA ac hW; rintro m_ ac w5 ⟨n, rfl, hn, hA, hW⟩
 refine wp_seq ?_
 refine wp_seq ?_
 refine wp_region_lit ?_
 refine st_rd (v := Value.int .i64 ((n : Int) + 1)) hA (by kernel_rfl) (by kernel_rfl) (by kernel_rfl) hW.cls (Rd.pure fun _ => by kernel_rfl) ?_; clear hA ac; intro ac hA
 refine st_rd (v := Value.pointer (some ⟨b1, 0, none⟩)) hA (by kernel_rfl) (by kernel_rfl) (by kernel_rfl) hW.cls (Rd.pure fun _ => by kernel_rfl) ?_; clear hA ac; intro ac hA
 refine st_rd (v := Value.slice A_V V.length c_V) hA (by kernel_rfl) (by kernel_rfl) (by kernel_rfl) hW.cls (Rd.load (b := b1) (i := 0) (by kernel_rfl) (fun _ hw => (hw.1).cel 1 rfl) (by kernel_rfl)) ?_; clear hA ac; intro ac hA
 refine st_rd (v := Value.int .i64 ((V.length : Nat) : Int)) hA (by kernel_rfl) (by kernel_rfl) (by kernel_rfl) hW.cls (Rd.pure fun _ => by kernel_rfl) ?_; clear hA ac; intro ac hA
 refine st_rd (v := Value.pointer (some ⟨b3, 0, none⟩)) hA (by kernel_rfl) (by kernel_rfl) (by kernel_rfl) hW.cls (Rd.pure fun _ => by kernel_rfl) ?_; clear hA ac; intro ac hA
 refine st_rd (v := Value.slice A_W W.length c_W) hA (by kernel_rfl) (by kernel_rfl) (by kernel_rfl) hW.cls (Rd.load (b := b3) (i := 0) (by kernel_rfl) (fun _ hw => (hw.1).cel 0 rfl) (by kernel_rfl)) ?_; clear hA ac; intro ac hA
 refine st_rd (v := Value.int .i64 ((W.length : Nat) : Int)) hA (by kernel_rfl) (by kernel_rfl) (by kernel_rfl) hW.cls (Rd.pure fun _ => by kernel_rfl) ?_; clear hA ac; intro ac hA
 refine st_rd (v := Value.int .i64 (max (((V.length : Nat) : Int) : Int) (((W.length : Nat) : Int) : Int))) hA (by kernel_rfl) (by kernel_rfl) (by kernel_rfl) hW.cls (Rd.pureE (v0 := Value.int .i64 (if (((W.length : Nat) : Int) : Int) > (((V.length : Nat) : Int) : Int) then (((W.length : Nat) : Int) : Int) else (((V.length : Nat) : Int) : Int))) (fun _ => by kernel_rfl) (congrArg (Value.int .i64) (max_ _ _))) ?_; clear hA ac; intro ac hA
 refine st_rd (v := Value.bool (decide ((((n : Int) + 1) : Int) ≤ (max (((V.length : Nat) : Int) : Int) (((W.length : Nat) : Int) : Int) : Int)))) hA (by kernel_rfl) (by kernel_rfl) (by kernel_rfl) hW.cls (Rd.pure fun _ => by kernel_rfl) ?_; clear hA ac; intro ac hA
 refine wpList_nil ?_
 refine thenN ?_
 refine wp_cond_split (t := decide ((((n : Int) + 1) : Int) ≤ (max (((V.length : Nat) : Int) : Int) (((W.length : Nat) : Int) : Int) : Int))) (hA.eval (by kernel_rfl)) (fun h6 => ?_) (fun h6 => ?_)
 · skip
   have h6 := of_decide_eq_true h6
   first
   | (exfalso; clear hA hW; omega)
   | (
     refine wp_skip ?_
     refine thenN ?_
     refine wp_seq ?_
     refine wp_block ?_
     refine wp_seq ?_
     rcases Bool.eq_false_or_eq_true (!(thereP (pv V) ((n : Int) + 1) == thereP (pv W) ((n : Int) + 1))) with h7 | h7
     · skip
       have h7 := bbne_t h7
       first
       | (exfalso; clear hA hW; omega)
       | (
         refine wp_cut (fun ac_ wl_ => Fm 34 [] [(2, Value.pointer (some ⟨b1, 0, none⟩)), (3, Value.pointer (some ⟨b3, 0, none⟩)), (5, Value.int .i64 ((n : Int) + 1)), (6, Value.int .i64 ((n : Int) + 1)), (7, Value.pointer (some ⟨b1, 0, none⟩)), (8, Value.slice A_V V.length c_V), (9, Value.int .i64 ((V.length : Nat) : Int)), (10, Value.pointer (some ⟨b3, 0, none⟩)), (11, Value.slice A_W W.length c_W), (12, Value.int .i64 ((W.length : Nat) : Int)), (13, Value.int .i64 (max (((V.length : Nat) : Int) : Int) (((W.length : Nat) : Int) : Int))), (14, Value.bool (decide ((((n : Int) + 1) : Int) ≤ (max (((V.length : Nat) : Int) : Int) (((W.length : Nat) : Int) : Int) : Int)))), (33, Value.bool true)] ac_ ∧ Ws w No [Cel b3 #[Value.slice A_W W.length c_W] 51, Cel b1 #[Value.slice A_V V.length c_V] 51] [nestR innerVecE W, roR A_W 2 enVecE W, nestR innerVecE V, roR A_V 2 enVecE V] wl_) ?_ ?_
         · refine sr_region (m := 17) (C := Ws w No [Cel b3 #[Value.slice A_W W.length c_W] 51, Cel b1 #[Value.slice A_V V.length c_V] 51] [nestR innerVecE W, roR A_W 2 enVecE W, nestR innerVecE V, roR A_V 2 enVecE V]) (fun i => [0, 3].contains i) (fun i => [0, 2, 3].contains i) (fun i => [1, 4, 6, 7, 9, 12, 15, 16].contains i) (by kernel_rfl) (by kernel_rfl) (by kernel_rfl) (by kernel_rfl) hW ?_; clear hW; intro w8 hW hfw8 hR; have hC : Ws w No [Cel b3 #[Value.slice A_W W.length c_W] 51, Cel b1 #[Value.slice A_V V.length c_V] 51] [nestR innerVecE W, roR A_W 2 enVecE W, nestR innerVecE V, roR A_V 2 enVecE V] w8 := hW.pick [0, 1] (by decide) rfl
           refine sr_take (i := 0) (v := Value.agg #[Value.slice A_V V.length c_V]) hR (by kernel_rfl) rfl (by kernel_rfl) (by kernel_rfl) (by kernel_rfl) (fun _ _ _ h => h.elim) hA (by kernel_rfl) (by kernel_rfl) (by kernel_rfl) hC (Rd.load (b := b1) (i := 0) (by kernel_rfl) (fun _ hw => (hw).cel 1 rfl) (by kernel_rfl)) ?_; clear hA ac; intro ac hA
           refine sr_pure (i := 1) (v := Value.int .i64 ((n : Int) + 1)) hR (by kernel_rfl) rfl (by kernel_rfl) (by kernel_rfl) (fun _ _ _ h => h.elim) hA (by kernel_rfl) (by kernel_rfl) (by kernel_rfl) (Rd.pure fun _ => by kernel_rfl) ?_; clear hA ac; intro ac hA
           refine sr_take (i := 3) (v := Value.agg #[Value.slice A_W W.length c_W]) hR (by kernel_rfl) rfl (by kernel_rfl) (by kernel_rfl) (by kernel_rfl) (fun _ _ _ h => h.elim) hA (by kernel_rfl) (by kernel_rfl) (by kernel_rfl) hC (Rd.load (b := b3) (i := 0) (by kernel_rfl) (fun _ hw => (hw).cel 0 rfl) (by kernel_rfl)) ?_; clear hA ac; intro ac hA
           refine sr_pure (i := 4) (v := Value.int .i64 ((n : Int) + 1)) hR (by kernel_rfl) rfl (by kernel_rfl) (by kernel_rfl) (fun _ _ _ h => h.elim) hA (by kernel_rfl) (by kernel_rfl) (by kernel_rfl) (Rd.pure fun _ => by kernel_rfl) ?_; clear hA ac; intro ac hA
           refine sr_one (i := 2) (by kernel_rfl) (sr_do rfl hA (by kernel_rfl) (by kernel_rfl) (by kernel_rfl) (Runs.callN (v := Value.bool (thereP (pv V) (((n : Int) + 1)))) (fun _ => by kernel_rfl) hW (e_rthere A_V c_V V (((n : Int) + 1)) w8 ((hW).getG 3 rfl) (by first | assumption | omega | (simp; omega) | simp) ((hW).getG 2 rfl) hk_V (by first | omega | (subst_vars; exact ⟨by have := allP_len hL ((n : Int) + 1); omega, by have := allP_len hLW ((n : Int) + 1); omega⟩))) ?_)); clear hA ac hW; intro w9 hW hfw9 ac hA
           refine ⟨⟨fun _ => (hW.pick [0, 1] (by decide) rfl).pickG [0, 1, 2, 3] rfl, fun h => absurd h (by decide)⟩, ?_⟩; have hC : Ws w No [Cel b3 #[Value.slice A_W W.length c_W] 51, Cel b1 #[Value.slice A_V V.length c_V] 51] [nestR innerVecE W, roR A_W 2 enVecE W, nestR innerVecE V, roR A_V 2 enVecE V] w9 := (hW.pick [0, 1] (by decide) rfl).pickG [0, 1, 2, 3] rfl
           refine sr_one (i := 5) (by kernel_rfl) (sr_do rfl hA (by kernel_rfl) (by kernel_rfl) (by kernel_rfl) (Runs.callN (v := Value.bool (thereP (pv W) (((n : Int) + 1)))) (fun _ => by kernel_rfl) hW (e_rthere A_W c_W W (((n : Int) + 1)) w9 ((hW).getG 1 rfl) (by first | assumption | omega | (simp; omega) | simp) ((hW).getG 0 rfl) hk_W (by first | omega | (subst_vars; exact ⟨by have := allP_len hL ((n : Int) + 1); omega, by have := allP_len hLW ((n : Int) + 1); omega⟩))) ?_)); clear hA ac hW; intro w10 hW hfw10 ac hA
           refine ⟨⟨fun h => absurd h (by decide), fun h => absurd h (by decide)⟩, ?_⟩
           refine sr_pure (i := 6) (v := Value.bool (!((thereP (pv V) (((n : Int) + 1))) == (thereP (pv W) (((n : Int) + 1)))))) hR (by kernel_rfl) rfl (by kernel_rfl) (by kernel_rfl) (fun _ _ _ h => h.elim) hA (by kernel_rfl) (by kernel_rfl) (by kernel_rfl) (Rd.pure fun _ => by kernel_rfl) ?_; clear hA ac; intro ac hA
           refine sr_pure (i := 7) (v := Value.bool (!((thereP (pv V) (((n : Int) + 1))) == (thereP (pv W) (((n : Int) + 1)))))) hR (by kernel_rfl) rfl (by kernel_rfl) (by kernel_rfl) (fun _ _ _ h => h.elim) hA (by kernel_rfl) (by kernel_rfl) (by kernel_rfl) (Rd.pure fun _ => by kernel_rfl) ?_; clear hA ac; intro ac hA
           rw [show (!((thereP (pv V) (((n : Int) + 1))) == (thereP (pv W) (((n : Int) + 1))))) = true from (by simp [h7])] at hA
           refine sr_skipP (i := 9) hR (by kernel_rfl) rfl (by kernel_rfl) (by kernel_rfl) (fun _ _ _ h => h.elim) hA (by kernel_rfl) (by kernel_rfl) ?_; clear hA ac; intro ac hA
           refine sr_skipP (i := 12) hR (by kernel_rfl) rfl (by kernel_rfl) (by kernel_rfl) (fun _ _ _ h => h.elim) hA (by kernel_rfl) (by kernel_rfl) ?_; clear hA ac; intro ac hA
           refine sr_two (i := 8) (j := 11) (by kernel_rfl) ?_ ?_
           · skip
             refine (sr_pass rfl hA (by kernel_rfl) (by kernel_rfl) ?_); clear hA ac; intro ac hA
             refine ⟨⟨fun h => absurd h (by decide), fun h => absurd h (by decide)⟩, ?_⟩
             refine sr_two (i := 10) (j := 11) (by kernel_rfl) ?_ ?_
             · skip
               refine (sr_pass rfl hA (by kernel_rfl) (by kernel_rfl) ?_); clear hA ac; intro ac hA
               refine ⟨⟨fun h => absurd h (by decide), fun h => absurd h (by decide)⟩, ?_⟩
               refine sr_one (i := 11) (by kernel_rfl) (sr_pass rfl hA (by kernel_rfl) (by kernel_rfl) ?_); clear hA ac; intro ac hA
               refine ⟨⟨fun h => absurd h (by decide), fun h => absurd h (by decide)⟩, ?_⟩
               refine sr_one (i := 13) (by kernel_rfl) (sr_pass rfl hA (by kernel_rfl) (by kernel_rfl) ?_); clear hA ac; intro ac hA
               refine ⟨⟨fun h => absurd h (by decide), fun h => absurd h (by decide)⟩, ?_⟩
               refine sr_one (i := 14) (by kernel_rfl) (sr_pass rfl hA (by kernel_rfl) (by kernel_rfl) ?_); clear hA ac; intro ac hA
               refine ⟨⟨fun h => absurd h (by decide), fun h => absurd h (by decide)⟩, ?_⟩
               refine sr_skipP (i := 15) hR (by kernel_rfl) rfl (by kernel_rfl) (by kernel_rfl) (fun _ _ _ h => h.elim) hA (by kernel_rfl) (by kernel_rfl) ?_; clear hA ac; intro ac hA
               refine sr_pure (i := 16) (v := Value.bool true) hR (by kernel_rfl) rfl (by kernel_rfl) (by kernel_rfl) (fun _ _ _ h => h.elim) hA (by kernel_rfl) (by kernel_rfl) (by kernel_rfl) (Rd.pure fun _ => by kernel_rfl) ?_; clear hA ac; intro ac hA
               refine sr_done (by kernel_rfl) ?_ _
               exact ⟨hA.sub ⟨⟨by kernel_rfl, by kernel_rfl⟩, ⟨by kernel_rfl, by kernel_rfl⟩, ⟨by kernel_rfl, by kernel_rfl⟩, ⟨by kernel_rfl, by kernel_rfl⟩, ⟨by kernel_rfl, by kernel_rfl⟩, ⟨by kernel_rfl, by kernel_rfl⟩, ⟨by kernel_rfl, by kernel_rfl⟩, ⟨by kernel_rfl, by kernel_rfl⟩, ⟨by kernel_rfl, by kernel_rfl⟩, ⟨by kernel_rfl, by kernel_rfl⟩, ⟨by kernel_rfl, by kernel_rfl⟩, ⟨by kernel_rfl, by kernel_rfl⟩, ⟨by kernel_rfl, by kernel_rfl⟩, trivial⟩, (hW.pick [0, 1] (by decide) rfl).pickG [0, 1, 2, 3] rfl⟩
             · skip
               refine (sr_pass rfl hA (by kernel_rfl) (by kernel_rfl) ?_); clear hA ac; intro ac hA
               refine ⟨⟨fun h => absurd h (by decide), fun h => absurd h (by decide)⟩, ?_⟩
               refine sr_one (i := 10) (by kernel_rfl) (sr_pass rfl hA (by kernel_rfl) (by kernel_rfl) ?_); clear hA ac; intro ac hA
               refine ⟨⟨fun h => absurd h (by decide), fun h => absurd h (by decide)⟩, ?_⟩
               refine sr_one (i := 13) (by kernel_rfl) (sr_pass rfl hA (by kernel_rfl) (by kernel_rfl) ?_); clear hA ac; intro ac hA
               refine ⟨⟨fun h => absurd h (by decide), fun h => absurd h (by decide)⟩, ?_⟩
               refine sr_one (i := 14) (by kernel_rfl) (sr_pass rfl hA (by kernel_rfl) (by kernel_rfl) ?_); clear hA ac; intro ac hA
               refine ⟨⟨fun h => absurd h (by decide), fun h => absurd h (by decide)⟩, ?_⟩
               refine sr_skipP (i := 15) hR (by kernel_rfl) rfl (by kernel_rfl) (by kernel_rfl) (fun _ _ _ h => h.elim) hA (by kernel_rfl) (by kernel_rfl) ?_; clear hA ac; intro ac hA
               refine sr_pure (i := 16) (v := Value.bool true) hR (by kernel_rfl) rfl (by kernel_rfl) (by kernel_rfl) (fun _ _ _ h => h.elim) hA (by kernel_rfl) (by kernel_rfl) (by kernel_rfl) (Rd.pure fun _ => by kernel_rfl) ?_; clear hA ac; intro ac hA
               refine sr_done (by kernel_rfl) ?_ _
               exact ⟨hA.sub ⟨⟨by kernel_rfl, by kernel_rfl⟩, ⟨by kernel_rfl, by kernel_rfl⟩, ⟨by kernel_rfl, by kernel_rfl⟩, ⟨by kernel_rfl, by kernel_rfl⟩, ⟨by kernel_rfl, by kernel_rfl⟩, ⟨by kernel_rfl, by kernel_rfl⟩, ⟨by kernel_rfl, by kernel_rfl⟩, ⟨by kernel_rfl, by kernel_rfl⟩, ⟨by kernel_rfl, by kernel_rfl⟩, ⟨by kernel_rfl, by kernel_rfl⟩, ⟨by kernel_rfl, by kernel_rfl⟩, ⟨by kernel_rfl, by kernel_rfl⟩, ⟨by kernel_rfl, by kernel_rfl⟩, trivial⟩, (hW.pick [0, 1] (by decide) rfl).pickG [0, 1, 2, 3] rfl⟩
           · skip
             refine (sr_pass rfl hA (by kernel_rfl) (by kernel_rfl) ?_); clear hA ac; intro ac hA
             refine ⟨⟨fun h => absurd h (by decide), fun h => absurd h (by decide)⟩, ?_⟩
             refine sr_one (i := 8) (by kernel_rfl) (sr_pass rfl hA (by kernel_rfl) (by kernel_rfl) ?_); clear hA ac; intro ac hA
             refine ⟨⟨fun h => absurd h (by decide), fun h => absurd h (by decide)⟩, ?_⟩
             refine sr_one (i := 10) (by kernel_rfl) (sr_pass rfl hA (by kernel_rfl) (by kernel_rfl) ?_); clear hA ac; intro ac hA
             refine ⟨⟨fun h => absurd h (by decide), fun h => absurd h (by decide)⟩, ?_⟩
             refine sr_one (i := 13) (by kernel_rfl) (sr_pass rfl hA (by kernel_rfl) (by kernel_rfl) ?_); clear hA ac; intro ac hA
             refine ⟨⟨fun h => absurd h (by decide), fun h => absurd h (by decide)⟩, ?_⟩
             refine sr_one (i := 14) (by kernel_rfl) (sr_pass rfl hA (by kernel_rfl) (by kernel_rfl) ?_); clear hA ac; intro ac hA
             refine ⟨⟨fun h => absurd h (by decide), fun h => absurd h (by decide)⟩, ?_⟩
             refine sr_skipP (i := 15) hR (by kernel_rfl) rfl (by kernel_rfl) (by kernel_rfl) (fun _ _ _ h => h.elim) hA (by kernel_rfl) (by kernel_rfl) ?_; clear hA ac; intro ac hA
             refine sr_pure (i := 16) (v := Value.bool true) hR (by kernel_rfl) rfl (by kernel_rfl) (by kernel_rfl) (fun _ _ _ h => h.elim) hA (by kernel_rfl) (by kernel_rfl) (by kernel_rfl) (Rd.pure fun _ => by kernel_rfl) ?_; clear hA ac; intro ac hA
             refine sr_done (by kernel_rfl) ?_ _
             exact ⟨hA.sub ⟨⟨by kernel_rfl, by kernel_rfl⟩, ⟨by kernel_rfl, by kernel_rfl⟩, ⟨by kernel_rfl, by kernel_rfl⟩, ⟨by kernel_rfl, by kernel_rfl⟩, ⟨by kernel_rfl, by kernel_rfl⟩, ⟨by kernel_rfl, by kernel_rfl⟩, ⟨by kernel_rfl, by kernel_rfl⟩, ⟨by kernel_rfl, by kernel_rfl⟩, ⟨by kernel_rfl, by kernel_rfl⟩, ⟨by kernel_rfl, by kernel_rfl⟩, ⟨by kernel_rfl, by kernel_rfl⟩, ⟨by kernel_rfl, by kernel_rfl⟩, ⟨by kernel_rfl, by kernel_rfl⟩, trivial⟩, (hW.pick [0, 1] (by decide) rfl).pickG [0, 1, 2, 3] rfl⟩
         clear hA ac hW; rintro ac w11 ⟨hA, hW⟩
         refine thenN ?_
         refine wp_cond_true (hA.eval (by kernel_rfl)) ?_
         refine wp_seq ?_
         refine wp_region_lit ?_
         refine st_rd (v := Value.bool false) hA (by kernel_rfl) (by kernel_rfl) (by kernel_rfl) hW.cls (Rd.pure fun _ => by kernel_rfl) ?_; clear hA ac; intro ac hA
         refine wpList_nil ?_
         refine thenN ?_
         refine wp_ret ?_
         refine blkR ?_
         refine thenR ?_
         refine thenR ?_
         refine blkR ?_
         refine thenR ?_
         refine ret1 (v := Value.bool false) (by rfl) hA (Got.tmp hA (by kernel_rfl) (by kernel_rfl)) ?_
         clear hA
         exact ⟨retv (congrArg Value.bool (sameB_no (i := n) (by rw [pv_len, pv_len]; omega) (by unfold sameQ; simp [h7])).symm), hW.fr⟩)
     · skip
       have h7 := bbne_f h7
       first
       | (exfalso; clear hA hW; omega)
       | (
         refine wp_cut (fun ac_ wl_ => ∃ Aor4_10 : Option Addr, ∃ Aor4_13 : Option Addr, ∃ cor4_10 : Nat, ∃ cor4_13 : Nat, ∃ g0r4_10 : List One, ∃ g0r4_13 : List One, ((g0r4_10).length ≤ cor4_10) ∧ ((g0r4_13).length ≤ cor4_13) ∧ (g0r4_10 = allP (pv V) (((n : Int) + 1))) ∧ (g0r4_13 = allP (pv W) (((n : Int) + 1))) ∧ Fm 34 [] [(2, Value.pointer (some ⟨b1, 0, none⟩)), (3, Value.pointer (some ⟨b3, 0, none⟩)), (5, Value.int .i64 ((n : Int) + 1)), (6, Value.int .i64 ((n : Int) + 1)), (7, Value.pointer (some ⟨b1, 0, none⟩)), (8, Value.slice A_V V.length c_V), (9, Value.int .i64 ((V.length : Nat) : Int)), (10, Value.pointer (some ⟨b3, 0, none⟩)), (11, Value.slice A_W W.length c_W), (12, Value.int .i64 ((W.length : Nat) : Int)), (13, Value.int .i64 (max (((V.length : Nat) : Int) : Int) (((W.length : Nat) : Int) : Int))), (14, Value.bool (decide ((((n : Int) + 1) : Int) ≤ (max (((V.length : Nat) : Int) : Int) (((W.length : Nat) : Int) : Int) : Int)))), (33, Value.bool (!(decide (g0r4_10 = g0r4_13))))] ac_ ∧ Ws w No [Cel b3 #[Value.slice A_W W.length c_W] 51, Cel b1 #[Value.slice A_V V.length c_V] 51] [roR Aor4_13 4 enOne g0r4_13, roR Aor4_10 4 enOne g0r4_10, nestR innerVecE W, roR A_W 2 enVecE W, nestR innerVecE V, roR A_V 2 enVecE V] wl_) ?_ ?_
         · refine sr_region (m := 17) (C := Ws w No [Cel b3 #[Value.slice A_W W.length c_W] 51, Cel b1 #[Value.slice A_V V.length c_V] 51] [nestR innerVecE W, roR A_W 2 enVecE W, nestR innerVecE V, roR A_V 2 enVecE V]) (fun i => [0, 3].contains i) (fun i => [0, 2, 3].contains i) (fun i => [1, 4, 6, 7, 9, 12, 15, 16].contains i) (by kernel_rfl) (by kernel_rfl) (by kernel_rfl) (by kernel_rfl) hW ?_; clear hW; intro w12 hW hfw12 hR; have hC : Ws w No [Cel b3 #[Value.slice A_W W.length c_W] 51, Cel b1 #[Value.slice A_V V.length c_V] 51] [nestR innerVecE W, roR A_W 2 enVecE W, nestR innerVecE V, roR A_V 2 enVecE V] w12 := hW.pick [0, 1] (by decide) rfl
           refine sr_take (i := 0) (v := Value.agg #[Value.slice A_V V.length c_V]) hR (by kernel_rfl) rfl (by kernel_rfl) (by kernel_rfl) (by kernel_rfl) (fun _ _ _ h => h.elim) hA (by kernel_rfl) (by kernel_rfl) (by kernel_rfl) hC (Rd.load (b := b1) (i := 0) (by kernel_rfl) (fun _ hw => (hw).cel 1 rfl) (by kernel_rfl)) ?_; clear hA ac; intro ac hA
           refine sr_pure (i := 1) (v := Value.int .i64 ((n : Int) + 1)) hR (by kernel_rfl) rfl (by kernel_rfl) (by kernel_rfl) (fun _ _ _ h => h.elim) hA (by kernel_rfl) (by kernel_rfl) (by kernel_rfl) (Rd.pure fun _ => by kernel_rfl) ?_; clear hA ac; intro ac hA
           refine sr_take (i := 3) (v := Value.agg #[Value.slice A_W W.length c_W]) hR (by kernel_rfl) rfl (by kernel_rfl) (by kernel_rfl) (by kernel_rfl) (fun _ _ _ h => h.elim) hA (by kernel_rfl) (by kernel_rfl) (by kernel_rfl) hC (Rd.load (b := b3) (i := 0) (by kernel_rfl) (fun _ hw => (hw).cel 0 rfl) (by kernel_rfl)) ?_; clear hA ac; intro ac hA
           refine sr_pure (i := 4) (v := Value.int .i64 ((n : Int) + 1)) hR (by kernel_rfl) rfl (by kernel_rfl) (by kernel_rfl) (fun _ _ _ h => h.elim) hA (by kernel_rfl) (by kernel_rfl) (by kernel_rfl) (Rd.pure fun _ => by kernel_rfl) ?_; clear hA ac; intro ac hA
           refine sr_one (i := 2) (by kernel_rfl) (sr_do rfl hA (by kernel_rfl) (by kernel_rfl) (by kernel_rfl) (Runs.callN (v := Value.bool (thereP (pv V) (((n : Int) + 1)))) (fun _ => by kernel_rfl) hW (e_rthere A_V c_V V (((n : Int) + 1)) w12 ((hW).getG 3 rfl) (by first | assumption | omega | (simp; omega) | simp) ((hW).getG 2 rfl) hk_V (by first | omega | (subst_vars; exact ⟨by have := allP_len hL ((n : Int) + 1); omega, by have := allP_len hLW ((n : Int) + 1); omega⟩))) ?_)); clear hA ac hW; intro w13 hW hfw13 ac hA
           refine ⟨⟨fun _ => (hW.pick [0, 1] (by decide) rfl).pickG [0, 1, 2, 3] rfl, fun h => absurd h (by decide)⟩, ?_⟩; have hC : Ws w No [Cel b3 #[Value.slice A_W W.length c_W] 51, Cel b1 #[Value.slice A_V V.length c_V] 51] [nestR innerVecE W, roR A_W 2 enVecE W, nestR innerVecE V, roR A_V 2 enVecE V] w13 := (hW.pick [0, 1] (by decide) rfl).pickG [0, 1, 2, 3] rfl
           refine sr_one (i := 5) (by kernel_rfl) (sr_do rfl hA (by kernel_rfl) (by kernel_rfl) (by kernel_rfl) (Runs.callN (v := Value.bool (thereP (pv W) (((n : Int) + 1)))) (fun _ => by kernel_rfl) hW (e_rthere A_W c_W W (((n : Int) + 1)) w13 ((hW).getG 1 rfl) (by first | assumption | omega | (simp; omega) | simp) ((hW).getG 0 rfl) hk_W (by first | omega | (subst_vars; exact ⟨by have := allP_len hL ((n : Int) + 1); omega, by have := allP_len hLW ((n : Int) + 1); omega⟩))) ?_)); clear hA ac hW; intro w14 hW hfw14 ac hA
           refine ⟨⟨fun h => absurd h (by decide), fun h => absurd h (by decide)⟩, ?_⟩
           refine sr_pure (i := 6) (v := Value.bool (!((thereP (pv V) (((n : Int) + 1))) == (thereP (pv W) (((n : Int) + 1)))))) hR (by kernel_rfl) rfl (by kernel_rfl) (by kernel_rfl) (fun _ _ _ h => h.elim) hA (by kernel_rfl) (by kernel_rfl) (by kernel_rfl) (Rd.pure fun _ => by kernel_rfl) ?_; clear hA ac; intro ac hA
           refine sr_pure (i := 7) (v := Value.bool (!((thereP (pv V) (((n : Int) + 1))) == (thereP (pv W) (((n : Int) + 1)))))) hR (by kernel_rfl) rfl (by kernel_rfl) (by kernel_rfl) (fun _ _ _ h => h.elim) hA (by kernel_rfl) (by kernel_rfl) (by kernel_rfl) (Rd.pure fun _ => by kernel_rfl) ?_; clear hA ac; intro ac hA
           rw [show (!((thereP (pv V) (((n : Int) + 1))) == (thereP (pv W) (((n : Int) + 1))))) = false from (by rw [h7]; simp)] at hA
           refine sr_pure (i := 9) (v := Value.int .i64 ((n : Int) + 1)) hR (by kernel_rfl) rfl (by kernel_rfl) (by kernel_rfl) (fun _ _ _ h => h.elim) hA (by kernel_rfl) (by kernel_rfl) (by kernel_rfl) (Rd.pure fun _ => by kernel_rfl) ?_; clear hA ac; intro ac hA
           refine sr_pure (i := 12) (v := Value.int .i64 ((n : Int) + 1)) hR (by kernel_rfl) rfl (by kernel_rfl) (by kernel_rfl) (fun _ _ _ h => h.elim) hA (by kernel_rfl) (by kernel_rfl) (by kernel_rfl) (Rd.pure fun _ => by kernel_rfl) ?_; clear hA ac; intro ac hA
           refine sr_two (i := 8) (j := 11) (by kernel_rfl) ?_ ?_
           · skip
             refine (sr_do rfl hA (by kernel_rfl) (by kernel_rfl) (by kernel_rfl) (Runs.ofRd (v := Value.agg #[Value.slice A_V V.length c_V]) (C' := Ws w No [Cel b3 #[Value.slice A_W W.length c_W] 51, Cel b1 #[Value.slice A_V V.length c_V] 51] [nestR innerVecE W, roR A_W 2 enVecE W, nestR innerVecE V, roR A_V 2 enVecE V]) hW (Rd.load (b := b1) (i := 0) (by kernel_rfl) (fun _ hw => (hw).cel 1 rfl) (by kernel_rfl)) ?_)); clear hA ac; intro  ac hA
             refine ⟨⟨fun h => absurd h (by decide), fun h => absurd h (by decide)⟩, ?_⟩
             refine sr_two (i := 10) (j := 11) (by kernel_rfl) ?_ ?_
             · skip
               refine (sr_do rfl hA (by kernel_rfl) (by kernel_rfl) (by kernel_rfl) (Runs.call (fun _ => by kernel_rfl) (e_rall A_V c_V V (((n : Int) + 1)) w14 ((hW).getG 3 rfl) (by first | assumption | omega | (simp; omega) | simp) ((hW).getG 2 rfl) hk_V (by first | omega | (subst_vars; exact ⟨by have := allP_len hL ((n : Int) + 1); omega, by have := allP_len hLW ((n : Int) + 1); omega⟩))) ?_))
               rintro _ w15 ⟨g0r4_10, Aor4_10, cor4_10, rfl, hr4_10_hA, hccor4_10, hfcor4_10, hfw15⟩; refine ⟨_, rfl, ?_⟩; have hW0 := hW; have hW := hW0.call hfw15
               have hW := hW0.addFromAt hW hfcor4_10 (in_cons (in_at 3 rfl) (in_cons (in_at 2 rfl) in_nil))
               clear hW0 hA ac; intro ac hA
               refine ⟨⟨fun h => absurd h (by decide), fun h => absurd h (by decide)⟩, ?_⟩
               refine sr_one (i := 11) (by kernel_rfl) (sr_do rfl hA (by kernel_rfl) (by kernel_rfl) (by kernel_rfl) (Runs.ofRd (v := Value.agg #[Value.slice A_W W.length c_W]) (C' := Ws w No [Cel b3 #[Value.slice A_W W.length c_W] 51, Cel b1 #[Value.slice A_V V.length c_V] 51] [roR Aor4_10 4 enOne g0r4_10, nestR innerVecE W, roR A_W 2 enVecE W, nestR innerVecE V, roR A_V 2 enVecE V]) hW (Rd.load (b := b3) (i := 0) (by kernel_rfl) (fun _ hw => (hw).cel 0 rfl) (by kernel_rfl)) ?_)); clear hA ac; intro  ac hA
               refine ⟨⟨fun h => absurd h (by decide), fun h => absurd h (by decide)⟩, ?_⟩
               refine sr_one (i := 13) (by kernel_rfl) (sr_do rfl hA (by kernel_rfl) (by kernel_rfl) (by kernel_rfl) (Runs.call (fun _ => by kernel_rfl) (e_rall A_W c_W W (((n : Int) + 1)) w15 ((hW).getG 2 rfl) (by first | assumption | omega | (simp; omega) | simp) ((hW).getG 1 rfl) hk_W (by first | omega | (subst_vars; exact ⟨by have := allP_len hL ((n : Int) + 1); omega, by have := allP_len hLW ((n : Int) + 1); omega⟩))) ?_))
               rintro _ w16 ⟨g0r4_13, Aor4_13, cor4_13, rfl, hr4_13_hA, hccor4_13, hfcor4_13, hfw16⟩; refine ⟨_, rfl, ?_⟩; have hW0 := hW; have hW := hW0.call hfw16
               have hW := hW0.addFromAt hW hfcor4_13 (in_cons (in_at 2 rfl) (in_cons (in_at 1 rfl) in_nil))
               clear hW0 hA ac; intro ac hA
               refine ⟨⟨fun h => absurd h (by decide), fun h => absurd h (by decide)⟩, ?_⟩
               refine sr_one (i := 14) (by kernel_rfl) (sr_do rfl hA (by kernel_rfl) (by kernel_rfl) (by kernel_rfl) (Runs.callN (v := Value.bool (decide (g0r4_10 = g0r4_13))) (fun _ => by kernel_rfl) hW (e_ones Aor4_10 cor4_10 g0r4_10 Aor4_13 cor4_13 g0r4_13 w16 ((hW).getG 1 rfl) (by first | assumption | omega | (simp; omega) | simp) ((hW).getG 0 rfl) (by first | assumption | omega | (simp; omega) | simp) (by first | omega | (subst_vars; exact ⟨by have := allP_len hL ((n : Int) + 1); omega, by have := allP_len hLW ((n : Int) + 1); omega⟩))) ?_)); clear hA ac hW; intro w17 hW hfw17 ac hA
               refine ⟨⟨fun h => absurd h (by decide), fun h => absurd h (by decide)⟩, ?_⟩
               refine sr_pure (i := 15) (v := Value.bool (!(decide (g0r4_10 = g0r4_13)))) hR (by kernel_rfl) rfl (by kernel_rfl) (by kernel_rfl) (fun _ _ _ h => h.elim) hA (by kernel_rfl) (by kernel_rfl) (by kernel_rfl) (Rd.pure fun _ => by kernel_rfl) ?_; clear hA ac; intro ac hA
               refine sr_pure (i := 16) (v := Value.bool (!(decide (g0r4_10 = g0r4_13)))) hR (by kernel_rfl) rfl (by kernel_rfl) (by kernel_rfl) (fun _ _ _ h => h.elim) hA (by kernel_rfl) (by kernel_rfl) (by kernel_rfl) (Rd.pure fun _ => by kernel_rfl) ?_; clear hA ac; intro ac hA
               refine sr_done (by kernel_rfl) ?_ _
               exact ⟨Aor4_10, Aor4_13, cor4_10, cor4_13, g0r4_10, g0r4_13, hccor4_10, hccor4_13, hr4_10_hA, hr4_13_hA, hA.sub ⟨⟨by kernel_rfl, by kernel_rfl⟩, ⟨by kernel_rfl, by kernel_rfl⟩, ⟨by kernel_rfl, by kernel_rfl⟩, ⟨by kernel_rfl, by kernel_rfl⟩, ⟨by kernel_rfl, by kernel_rfl⟩, ⟨by kernel_rfl, by kernel_rfl⟩, ⟨by kernel_rfl, by kernel_rfl⟩, ⟨by kernel_rfl, by kernel_rfl⟩, ⟨by kernel_rfl, by kernel_rfl⟩, ⟨by kernel_rfl, by kernel_rfl⟩, ⟨by kernel_rfl, by kernel_rfl⟩, ⟨by kernel_rfl, by kernel_rfl⟩, ⟨by kernel_rfl, by kernel_rfl⟩, trivial⟩, (hW.pick [0, 1] (by decide) rfl).pickG [0, 1, 2, 3, 4, 5] rfl⟩
             · skip
               refine (sr_do rfl hA (by kernel_rfl) (by kernel_rfl) (by kernel_rfl) (Runs.ofRd (v := Value.agg #[Value.slice A_W W.length c_W]) (C' := Ws w No [Cel b3 #[Value.slice A_W W.length c_W] 51, Cel b1 #[Value.slice A_V V.length c_V] 51] [nestR innerVecE W, roR A_W 2 enVecE W, nestR innerVecE V, roR A_V 2 enVecE V]) hW (Rd.load (b := b3) (i := 0) (by kernel_rfl) (fun _ hw => (hw).cel 0 rfl) (by kernel_rfl)) ?_)); clear hA ac; intro  ac hA
               refine ⟨⟨fun h => absurd h (by decide), fun h => absurd h (by decide)⟩, ?_⟩
               refine sr_one (i := 10) (by kernel_rfl) (sr_do rfl hA (by kernel_rfl) (by kernel_rfl) (by kernel_rfl) (Runs.call (fun _ => by kernel_rfl) (e_rall A_V c_V V (((n : Int) + 1)) w14 ((hW).getG 3 rfl) (by first | assumption | omega | (simp; omega) | simp) ((hW).getG 2 rfl) hk_V (by first | omega | (subst_vars; exact ⟨by have := allP_len hL ((n : Int) + 1); omega, by have := allP_len hLW ((n : Int) + 1); omega⟩))) ?_))
               rintro _ w18 ⟨g0r4_10, Aor4_10, cor4_10, rfl, hr4_10_hA, hccor4_10, hfcor4_10, hfw18⟩; refine ⟨_, rfl, ?_⟩; have hW0 := hW; have hW := hW0.call hfw18
               have hW := hW0.addFromAt hW hfcor4_10 (in_cons (in_at 3 rfl) (in_cons (in_at 2 rfl) in_nil))
               clear hW0 hA ac; intro ac hA
               refine ⟨⟨fun h => absurd h (by decide), fun h => absurd h (by decide)⟩, ?_⟩
               refine sr_one (i := 13) (by kernel_rfl) (sr_do rfl hA (by kernel_rfl) (by kernel_rfl) (by kernel_rfl) (Runs.call (fun _ => by kernel_rfl) (e_rall A_W c_W W (((n : Int) + 1)) w18 ((hW).getG 2 rfl) (by first | assumption | omega | (simp; omega) | simp) ((hW).getG 1 rfl) hk_W (by first | omega | (subst_vars; exact ⟨by have := allP_len hL ((n : Int) + 1); omega, by have := allP_len hLW ((n : Int) + 1); omega⟩))) ?_))
               rintro _ w19 ⟨g0r4_13, Aor4_13, cor4_13, rfl, hr4_13_hA, hccor4_13, hfcor4_13, hfw19⟩; refine ⟨_, rfl, ?_⟩; have hW0 := hW; have hW := hW0.call hfw19
               have hW := hW0.addFromAt hW hfcor4_13 (in_cons (in_at 2 rfl) (in_cons (in_at 1 rfl) in_nil))
               clear hW0 hA ac; intro ac hA
               refine ⟨⟨fun h => absurd h (by decide), fun h => absurd h (by decide)⟩, ?_⟩
               refine sr_one (i := 14) (by kernel_rfl) (sr_do rfl hA (by kernel_rfl) (by kernel_rfl) (by kernel_rfl) (Runs.callN (v := Value.bool (decide (g0r4_10 = g0r4_13))) (fun _ => by kernel_rfl) hW (e_ones Aor4_10 cor4_10 g0r4_10 Aor4_13 cor4_13 g0r4_13 w19 ((hW).getG 1 rfl) (by first | assumption | omega | (simp; omega) | simp) ((hW).getG 0 rfl) (by first | assumption | omega | (simp; omega) | simp) (by first | omega | (subst_vars; exact ⟨by have := allP_len hL ((n : Int) + 1); omega, by have := allP_len hLW ((n : Int) + 1); omega⟩))) ?_)); clear hA ac hW; intro w20 hW hfw20 ac hA
               refine ⟨⟨fun h => absurd h (by decide), fun h => absurd h (by decide)⟩, ?_⟩
               refine sr_pure (i := 15) (v := Value.bool (!(decide (g0r4_10 = g0r4_13)))) hR (by kernel_rfl) rfl (by kernel_rfl) (by kernel_rfl) (fun _ _ _ h => h.elim) hA (by kernel_rfl) (by kernel_rfl) (by kernel_rfl) (Rd.pure fun _ => by kernel_rfl) ?_; clear hA ac; intro ac hA
               refine sr_pure (i := 16) (v := Value.bool (!(decide (g0r4_10 = g0r4_13)))) hR (by kernel_rfl) rfl (by kernel_rfl) (by kernel_rfl) (fun _ _ _ h => h.elim) hA (by kernel_rfl) (by kernel_rfl) (by kernel_rfl) (Rd.pure fun _ => by kernel_rfl) ?_; clear hA ac; intro ac hA
               refine sr_done (by kernel_rfl) ?_ _
               exact ⟨Aor4_10, Aor4_13, cor4_10, cor4_13, g0r4_10, g0r4_13, hccor4_10, hccor4_13, hr4_10_hA, hr4_13_hA, hA.sub ⟨⟨by kernel_rfl, by kernel_rfl⟩, ⟨by kernel_rfl, by kernel_rfl⟩, ⟨by kernel_rfl, by kernel_rfl⟩, ⟨by kernel_rfl, by kernel_rfl⟩, ⟨by kernel_rfl, by kernel_rfl⟩, ⟨by kernel_rfl, by kernel_rfl⟩, ⟨by kernel_rfl, by kernel_rfl⟩, ⟨by kernel_rfl, by kernel_rfl⟩, ⟨by kernel_rfl, by kernel_rfl⟩, ⟨by kernel_rfl, by kernel_rfl⟩, ⟨by kernel_rfl, by kernel_rfl⟩, ⟨by kernel_rfl, by kernel_rfl⟩, ⟨by kernel_rfl, by kernel_rfl⟩, trivial⟩, (hW.pick [0, 1] (by decide) rfl).pickG [0, 1, 2, 3, 4, 5] rfl⟩
           · skip
             refine (sr_do rfl hA (by kernel_rfl) (by kernel_rfl) (by kernel_rfl) (Runs.ofRd (v := Value.agg #[Value.slice A_W W.length c_W]) (C' := Ws w No [Cel b3 #[Value.slice A_W W.length c_W] 51, Cel b1 #[Value.slice A_V V.length c_V] 51] [nestR innerVecE W, roR A_W 2 enVecE W, nestR innerVecE V, roR A_V 2 enVecE V]) hW (Rd.load (b := b3) (i := 0) (by kernel_rfl) (fun _ hw => (hw).cel 0 rfl) (by kernel_rfl)) ?_)); clear hA ac; intro  ac hA
             refine ⟨⟨fun h => absurd h (by decide), fun h => absurd h (by decide)⟩, ?_⟩
             refine sr_one (i := 8) (by kernel_rfl) (sr_do rfl hA (by kernel_rfl) (by kernel_rfl) (by kernel_rfl) (Runs.ofRd (v := Value.agg #[Value.slice A_V V.length c_V]) (C' := Ws w No [Cel b3 #[Value.slice A_W W.length c_W] 51, Cel b1 #[Value.slice A_V V.length c_V] 51] [nestR innerVecE W, roR A_W 2 enVecE W, nestR innerVecE V, roR A_V 2 enVecE V]) hW (Rd.load (b := b1) (i := 0) (by kernel_rfl) (fun _ hw => (hw).cel 1 rfl) (by kernel_rfl)) ?_)); clear hA ac; intro  ac hA
             refine ⟨⟨fun h => absurd h (by decide), fun h => absurd h (by decide)⟩, ?_⟩
             refine sr_one (i := 10) (by kernel_rfl) (sr_do rfl hA (by kernel_rfl) (by kernel_rfl) (by kernel_rfl) (Runs.call (fun _ => by kernel_rfl) (e_rall A_V c_V V (((n : Int) + 1)) w14 ((hW).getG 3 rfl) (by first | assumption | omega | (simp; omega) | simp) ((hW).getG 2 rfl) hk_V (by first | omega | (subst_vars; exact ⟨by have := allP_len hL ((n : Int) + 1); omega, by have := allP_len hLW ((n : Int) + 1); omega⟩))) ?_))
             rintro _ w21 ⟨g0r4_10, Aor4_10, cor4_10, rfl, hr4_10_hA, hccor4_10, hfcor4_10, hfw21⟩; refine ⟨_, rfl, ?_⟩; have hW0 := hW; have hW := hW0.call hfw21
             have hW := hW0.addFromAt hW hfcor4_10 (in_cons (in_at 3 rfl) (in_cons (in_at 2 rfl) in_nil))
             clear hW0 hA ac; intro ac hA
             refine ⟨⟨fun h => absurd h (by decide), fun h => absurd h (by decide)⟩, ?_⟩
             refine sr_one (i := 13) (by kernel_rfl) (sr_do rfl hA (by kernel_rfl) (by kernel_rfl) (by kernel_rfl) (Runs.call (fun _ => by kernel_rfl) (e_rall A_W c_W W (((n : Int) + 1)) w21 ((hW).getG 2 rfl) (by first | assumption | omega | (simp; omega) | simp) ((hW).getG 1 rfl) hk_W (by first | omega | (subst_vars; exact ⟨by have := allP_len hL ((n : Int) + 1); omega, by have := allP_len hLW ((n : Int) + 1); omega⟩))) ?_))
             rintro _ w22 ⟨g0r4_13, Aor4_13, cor4_13, rfl, hr4_13_hA, hccor4_13, hfcor4_13, hfw22⟩; refine ⟨_, rfl, ?_⟩; have hW0 := hW; have hW := hW0.call hfw22
             have hW := hW0.addFromAt hW hfcor4_13 (in_cons (in_at 2 rfl) (in_cons (in_at 1 rfl) in_nil))
             clear hW0 hA ac; intro ac hA
             refine ⟨⟨fun h => absurd h (by decide), fun h => absurd h (by decide)⟩, ?_⟩
             refine sr_one (i := 14) (by kernel_rfl) (sr_do rfl hA (by kernel_rfl) (by kernel_rfl) (by kernel_rfl) (Runs.callN (v := Value.bool (decide (g0r4_10 = g0r4_13))) (fun _ => by kernel_rfl) hW (e_ones Aor4_10 cor4_10 g0r4_10 Aor4_13 cor4_13 g0r4_13 w22 ((hW).getG 1 rfl) (by first | assumption | omega | (simp; omega) | simp) ((hW).getG 0 rfl) (by first | assumption | omega | (simp; omega) | simp) (by first | omega | (subst_vars; exact ⟨by have := allP_len hL ((n : Int) + 1); omega, by have := allP_len hLW ((n : Int) + 1); omega⟩))) ?_)); clear hA ac hW; intro w23 hW hfw23 ac hA
             refine ⟨⟨fun h => absurd h (by decide), fun h => absurd h (by decide)⟩, ?_⟩
             refine sr_pure (i := 15) (v := Value.bool (!(decide (g0r4_10 = g0r4_13)))) hR (by kernel_rfl) rfl (by kernel_rfl) (by kernel_rfl) (fun _ _ _ h => h.elim) hA (by kernel_rfl) (by kernel_rfl) (by kernel_rfl) (Rd.pure fun _ => by kernel_rfl) ?_; clear hA ac; intro ac hA
             refine sr_pure (i := 16) (v := Value.bool (!(decide (g0r4_10 = g0r4_13)))) hR (by kernel_rfl) rfl (by kernel_rfl) (by kernel_rfl) (fun _ _ _ h => h.elim) hA (by kernel_rfl) (by kernel_rfl) (by kernel_rfl) (Rd.pure fun _ => by kernel_rfl) ?_; clear hA ac; intro ac hA
             refine sr_done (by kernel_rfl) ?_ _
             exact ⟨Aor4_10, Aor4_13, cor4_10, cor4_13, g0r4_10, g0r4_13, hccor4_10, hccor4_13, hr4_10_hA, hr4_13_hA, hA.sub ⟨⟨by kernel_rfl, by kernel_rfl⟩, ⟨by kernel_rfl, by kernel_rfl⟩, ⟨by kernel_rfl, by kernel_rfl⟩, ⟨by kernel_rfl, by kernel_rfl⟩, ⟨by kernel_rfl, by kernel_rfl⟩, ⟨by kernel_rfl, by kernel_rfl⟩, ⟨by kernel_rfl, by kernel_rfl⟩, ⟨by kernel_rfl, by kernel_rfl⟩, ⟨by kernel_rfl, by kernel_rfl⟩, ⟨by kernel_rfl, by kernel_rfl⟩, ⟨by kernel_rfl, by kernel_rfl⟩, ⟨by kernel_rfl, by kernel_rfl⟩, ⟨by kernel_rfl, by kernel_rfl⟩, trivial⟩, (hW.pick [0, 1] (by decide) rfl).pickG [0, 1, 2, 3, 4, 5] rfl⟩
         clear hA ac hW; rintro ac w24 ⟨Aor4_10, Aor4_13, cor4_10, cor4_13, g0r4_10, g0r4_13, hccor4_10, hccor4_13, hr4_10_hA, hr4_13_hA, hA, hW⟩
         refine thenN ?_
         refine wp_cond_split (t := !(decide (g0r4_10 = g0r4_13))) (hA.eval (by kernel_rfl)) (fun h25 => ?_) (fun h25 => ?_)
         · skip
           have h25 := not_t h25
           first
           | (exfalso; clear hA hW; omega)
           | (
             refine wp_seq ?_
             refine wp_region_lit ?_
             refine st_rd (v := Value.bool false) hA (by kernel_rfl) (by kernel_rfl) (by kernel_rfl) hW.cls (Rd.pure fun _ => by kernel_rfl) ?_; clear hA ac; intro ac hA
             refine wpList_nil ?_
             refine thenN ?_
             refine wp_ret ?_
             refine blkR ?_
             refine thenR ?_
             refine thenR ?_
             refine blkR ?_
             refine thenR ?_
             refine ret1 (v := Value.bool false) (by rfl) hA (Got.tmp hA (by kernel_rfl) (by kernel_rfl)) ?_
             clear hA
             exact ⟨retv (congrArg Value.bool (sameB_no (i := n) (by rw [pv_len, pv_len]; omega) (by unfold sameQ; rw [← hr4_10_hA, ← hr4_13_hA]; simp [h25])).symm), hW.fr⟩)
         · skip
           have h25 := not_f h25
           first
           | (exfalso; clear hA hW; omega)
           | (
             refine wp_skip ?_
             refine blkN ?_
             refine thenN ?_
             refine wp_region_lit ?_
             refine st_rd (v := Value.int .i64 ((n : Int) + 1)) hA (by kernel_rfl) (by kernel_rfl) (by kernel_rfl) hW.cls (Rd.pure fun _ => by kernel_rfl) ?_; clear hA ac; intro ac hA
             refine st_rd (v := Value.int .i64 ((((n : Int) + 1) : Int) + 1)) hA (by kernel_rfl) (by kernel_rfl) (by kernel_rfl) hW.cls (Rd.pureE (v0 := Value.int .i64 (IntKind.i64.wrap ((((n : Int) + 1) : Int) + 1))) (fun _ => by kernel_rfl) (congrArg (Value.int .i64) ((w_i64 (x := (((n : Int) + 1) : Int) + 1) (by omega) (by omega)).trans (by omega)))) ?_; clear hA ac; intro ac hA
             refine st_rd (v := Value.int .i64 ((((n : Int) + 1) : Int) + 1)) hA (by kernel_rfl) (by kernel_rfl) (by kernel_rfl) hW.cls (Rd.pure fun _ => by kernel_rfl) ?_; clear hA ac; intro ac hA
             refine wpList_nil ?_
             refine thenN ?_
             exact ⟨max V.length W.length - (n + 1), by omega, n + 1, rfl, by intro i hi; by_cases q_ : i = n; (subst q_; unfold sameQ; rw [h7, ← hr4_10_hA, ← hr4_13_hA]; simp [h25]); exact hn i (by omega), hA.sub ⟨⟨by kernel_rfl, by kernel_rfl⟩, ⟨by kernel_rfl, by kernel_rfl⟩, ⟨by kernel_rfl, by kernel_rfl⟩, trivial⟩, (hW.pick [0, 1] (by decide) rfl).pickG [2, 3, 4, 5] rfl⟩)))
 · skip
   have h6 := of_decide_eq_false h6
   first
   | (exfalso; clear hA hW; omega)
   | (
     refine wp_exit ?_
     refine thenX ?_
     refine thenX ?_
     refine blkX ?_
     refine thenN ?_
     refine wp_seq ?_
     refine wp_region_lit ?_
     refine st_rd (v := Value.bool true) hA (by kernel_rfl) (by kernel_rfl) (by kernel_rfl) hW.cls (Rd.pure fun _ => by kernel_rfl) ?_; clear hA ac; intro ac hA
     refine wpList_nil ?_
     refine thenN ?_
     refine wp_ret ?_
     refine ret1 (v := Value.bool true) (by rfl) hA (Got.tmp hA (by kernel_rfl) (by kernel_rfl)) ?_
     clear hA
     exact ⟨retv (congrArg Value.bool (sameB_yes (by rw [pv_len, pv_len]; intro i hi; exact hn i (by omega))).symm), hW.fr⟩)

end Go.Proofs.Ytobbocpacacnhaa.L
