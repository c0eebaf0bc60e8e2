/- Contracts, walked by program over the engine's laws. -/
import Derived.Test.YtobbocpacacnhaaProg
import Derived.Test.YtobbocpacacnhaaT9
namespace Go.Proofs.Ytobbocpacacnhaa.L
open Go.RowKit

theorem each_id {o : Option MarkM} {pre : List (Int × Mark)} {x : Int × Mark} (hb : ∀ m, o = some m → ∀ y ∈ m, 0 ≤ y.1 ∧ y.1 ≤ 65536) (hc : Comes (EachR o) pre x) : 0 ≤ x.1 ∧ x.1 ≤ 65536 := by
  obtain ⟨xs, ⟨ks, hp, -, rfl⟩, t, ht⟩ := hc
  have hx : x ∈ ks.map fun i => (i, markAt (o.getD []) i) := by rw [← ht]; simp
  obtain ⟨i, hi, rfl⟩ := List.mem_map.1 hx
  have hi' := (hp.mem_iff (a := i)).1 hi
  cases o with
  | none => simp [keys] at hi'
  | some m =>
    obtain ⟨y, hy, rfl⟩ := List.mem_map.1 hi'
    exact hb m rfl y hy
def deU : List Value → Int
  | [.int _ a] => a
  | _ => 0
def wfU (_ : Int) : Prop := True
theorem deU_ok (cs : List Value) (h : cksOk [.int .u64] cs) : enU (deU cs) = cs ∧ wfU (deU cs) := by
  have hl := cksOk_length h
  match cs, hl, h with
  | [c0], _, ⟨⟨_, h0, _⟩, _⟩ => subst h0; exact ⟨rfl, trivial⟩
set_option maxRecDepth 100000 in
theorem e_poolHolds (A_l : Option Addr) (c_l : Nat) (l : List Act23) (A_c : Option Addr) (c_c : Nat) (c : List Int) (w : World) (hr_l : RowAt w A_l 6 enAct23 l) (hc_l : l.length ≤ c_l) (hr_c : RowAt w A_c 1 enU c) (hc_c : c.length ≤ c_c) (hwf : ∀ x ∈ l, wfAct23 x) : Calls Try.prog 3 #[Value.slice A_l l.length c_l, Value.slice A_c c.length c_c] w (fun e w' => e = .returned (Value.bool true) ∧ Fr No w w') := by
 have _hu := hc_l; have _hv := hr_l; clear _hu _hv
 have _hu := hc_c; have _hv := hr_c; clear _hu _hv
 have _hu := hwf; clear _hu
 refine enter_F 133 Try.func3 rfl rfl (by kernel_rfl) (L := [(0, Value.slice A_l l.length c_l), (1, Value.slice A_c c.length c_c)]) (by kernel_rfl) ?_
 intro ac hA
 have hW := Ws.start w No
 have hW := hW.arg hr_l
 have hW := hW.arg hr_c
 refine wpIn_seq ?_
 refine wpIn_region_lit ?_
 refine stF hA (by kernel_rfl) (by kernel_rfl) (by kernel_rfl) (by kernel_rfl) (RunsF.of (Runs.cells (fun b => Value.pointer (some ⟨b, 0, none⟩)) #[Value.slice A_c c.length c_c] 24 (fun _ => by kernel_rfl) hW ?_)); clear hA ac hW; intro b1 w2 hW hb1 hfw2 ac hA
 refine st_rdF (v := Value.bool false) hA (by kernel_rfl) (by kernel_rfl) (by kernel_rfl) (by kernel_rfl) hW.cls (Rd.pure fun _ => by kernel_rfl) ?_; clear hA ac; intro ac hA
 refine wpListIn_nil ?_
 refine thenN ?_
 refine wpIn_seq ?_
 refine wpIn_seq ?_
 refine wpIn_region_lit ?_
 refine st_rdF (v := Value.slice A_l l.length c_l) hA (by kernel_rfl) (by kernel_rfl) (by kernel_rfl) (by kernel_rfl) hW.cls (Rd.pure fun _ => by kernel_rfl) ?_; clear hA ac; intro ac hA
 refine st_rdF (v := Value.int .i64 ((l.length : Nat) : Int)) hA (by kernel_rfl) (by kernel_rfl) (by kernel_rfl) (by kernel_rfl) hW.cls (Rd.pure fun _ => by kernel_rfl) ?_; clear hA ac; intro ac hA
 refine st_rdF (v := Value.bool (decide ((((l.length : Nat) : Int) : Int) > (60 : Int)))) hA (by kernel_rfl) (by kernel_rfl) (by kernel_rfl) (by kernel_rfl) hW.cls (Rd.pure fun _ => by kernel_rfl) ?_; clear hA ac; intro ac hA
 refine st_rdF (v := Value.bool (decide ((((l.length : Nat) : Int) : Int) > (60 : Int)))) hA (by kernel_rfl) (by kernel_rfl) (by kernel_rfl) (by kernel_rfl) hW.cls (Rd.pure fun _ => by kernel_rfl) ?_; clear hA ac; intro ac hA
 rcases Bool.eq_false_or_eq_true (decide ((((l.length : Nat) : Int) : Int) > (60 : Int))) with h3 | h3
 · skip
   rw [h3] at hA
   have h3 := of_decide_eq_true h3
   first
   | (exfalso; clear hA hW; omega)
   | (
     refine st_skipF hA (by kernel_rfl) (by kernel_rfl) ?_; clear hA ac; intro ac hA
     refine st_skipF hA (by kernel_rfl) (by kernel_rfl) ?_; clear hA ac; intro ac hA
     refine st_skipF hA (by kernel_rfl) (by kernel_rfl) ?_; clear hA ac; intro ac hA
     refine st_rdF (v := Value.bool true) hA (by kernel_rfl) (by kernel_rfl) (by kernel_rfl) (by kernel_rfl) hW.cls (Rd.pure fun _ => by kernel_rfl) ?_; clear hA ac; intro ac hA
     refine wpListIn_nil ?_
     refine thenN ?_
     refine wpIn_cond_true (hA.eval (by kernel_rfl)) ?_
     refine wpIn_seq ?_
     refine wpIn_region_lit ?_
     refine stF hA (by kernel_rfl) (by kernel_rfl) (by kernel_rfl) (by kernel_rfl) (RunsF.of (Runs.callN (v := Value.bool true) (fun _ => by kernel_rfl) hW (e_works23 w2) ?_)); clear hA ac hW; intro w4 hW hfw4 ac hA
     refine st_rdF (v := Value.bool true) hA (by kernel_rfl) (by kernel_rfl) (by kernel_rfl) (by kernel_rfl) hW.cls (Rd.pure fun _ => by kernel_rfl) ?_; clear hA ac; intro ac hA
     refine wpListIn_nil ?_
     refine thenN ?_
     refine wpIn_ret ?_
     refine thenR ?_
     refine retF (.inl rfl) hA ?_
     refine leave1 (v := Value.bool true) (by rfl) (GotF.tmp hA (by kernel_rfl) (by kernel_rfl)) ?_
     clear hA
     exact ⟨retv (by rfl), hW.fr⟩)
 · skip
   rw [h3] at hA
   have h3 := of_decide_eq_false h3
   first
   | (exfalso; clear hA hW; omega)
   | (
     refine st_rdF (v := Value.slice A_c c.length c_c) hA (by kernel_rfl) (by kernel_rfl) (by kernel_rfl) (by kernel_rfl) hW.cls (Rd.load (b := b1) (i := 0) (by kernel_rfl) (fun _ hw => (hw.1).cel 0 rfl) (by kernel_rfl)) ?_; clear hA ac; intro ac hA
     refine st_rdF (v := Value.int .i64 ((c.length : Nat) : Int)) hA (by kernel_rfl) (by kernel_rfl) (by kernel_rfl) (by kernel_rfl) hW.cls (Rd.pure fun _ => by kernel_rfl) ?_; clear hA ac; intro ac hA
     refine st_rdF (v := Value.bool (decide ((((c.length : Nat) : Int) : Int) > (40 : Int)))) hA (by kernel_rfl) (by kernel_rfl) (by kernel_rfl) (by kernel_rfl) hW.cls (Rd.pure fun _ => by kernel_rfl) ?_; clear hA ac; intro ac hA
     refine st_rdF (v := Value.bool (decide ((((c.length : Nat) : Int) : Int) > (40 : Int)))) hA (by kernel_rfl) (by kernel_rfl) (by kernel_rfl) (by kernel_rfl) hW.cls (Rd.pure fun _ => by kernel_rfl) ?_; clear hA ac; intro ac hA
     refine wpListIn_nil ?_
     refine thenN ?_
     refine wpIn_cond_split (t := decide ((((c.length : Nat) : Int) : Int) > (40 : Int))) (hA.eval (by kernel_rfl)) (fun h5 => ?_) (fun h5 => ?_)
     · skip
       have h5 := of_decide_eq_true h5
       first
       | (exfalso; clear hA hW; omega)
       | (
         refine wpIn_seq ?_
         refine wpIn_region_lit ?_
         refine stF hA (by kernel_rfl) (by kernel_rfl) (by kernel_rfl) (by kernel_rfl) (RunsF.of (Runs.callN (v := Value.bool true) (fun _ => by kernel_rfl) hW (e_works23 w2) ?_)); clear hA ac hW; intro w6 hW hfw6 ac hA
         refine st_rdF (v := Value.bool true) hA (by kernel_rfl) (by kernel_rfl) (by kernel_rfl) (by kernel_rfl) hW.cls (Rd.pure fun _ => by kernel_rfl) ?_; clear hA ac; intro ac hA
         refine wpListIn_nil ?_
         refine thenN ?_
         refine wpIn_ret ?_
         refine thenR ?_
         refine retF (.inl rfl) hA ?_
         refine leave1 (v := Value.bool true) (by rfl) (GotF.tmp hA (by kernel_rfl) (by kernel_rfl)) ?_
         clear hA
         exact ⟨retv (by rfl), hW.fr⟩)
     · skip
       have h5 := of_decide_eq_false h5
       first
       | (exfalso; clear hA hW; omega)
       | (
         refine wpIn_skip ?_
         refine thenN ?_
         refine wpIn_seq ?_
         refine wpIn_region_lit ?_
         refine stF hA (by kernel_rfl) (by kernel_rfl) (by kernel_rfl) (by kernel_rfl) (RunsF.of (Runs.call (fun _ => by kernel_rfl) (e_pNew w2) ?_))
         rintro _ w7 ⟨n8, n9, rfl, hu_⟩; refine ⟨_, rfl, ?_⟩; replace hW := hW.made hu_; clear hA ac; intro ac hA
         refine st_rdF (v := Value.pointer (some ⟨n8, 0, none⟩)) hA (by kernel_rfl) (by kernel_rfl) (by kernel_rfl) (by kernel_rfl) hW.cls (Rd.pure fun _ => by kernel_rfl) ?_; clear hA ac; intro ac hA
         refine wpListIn_nil ?_
         refine thenN ?_
         refine wpIn_seq ?_
         refine wpIn_region_lit ?_
         refine st_rdF (v := Value.int .i64 0) hA (by kernel_rfl) (by kernel_rfl) (by kernel_rfl) (by kernel_rfl) hW.cls (Rd.pure fun _ => by kernel_rfl) ?_; clear hA ac; intro ac hA
         refine wpListIn_nil ?_
         refine thenN ?_
         refine wpIn_seq ?_
         refine wpIn_seq ?_
         refine wpIn_region_lit ?_
         refine st_rdF (v := Value.int .i64 0) hA (by kernel_rfl) (by kernel_rfl) (by kernel_rfl) (by kernel_rfl) hW.cls (Rd.pure fun _ => by kernel_rfl) ?_; clear hA ac; intro ac hA
         refine wpListIn_nil ?_
         refine thenN ?_
         refine wpIn_block ?_
         have hW := hW.share 1 rfl (H' := [PoolR n8 n9 ([] : List (Int × Nat × List (Int × Mark)))]) rfl
         have hW := Ws.defs0 hW
         refine wpIn_loop_m (fun m_ ac_ wl_ => ∃ k : Nat, ∃ V : VT23, ∃ made : Int, ∃ dl_ : List Nat, m_ = l.length - k ∧ (k ≤ l.length) ∧ (PoolOk k V) ∧ (made = (V.length : Nat)) ∧ Fm 133 (List.map mk_ dl_) [(0, Value.slice A_l l.length c_l), (3, Value.pointer (some ⟨b1, 0, none⟩)), (4, Value.bool false), (5, Value.pointer (some ⟨n8, 0, none⟩)), (6, Value.int .i64 made), (7, Value.int .i64 ((k : Nat) : Int))] ac_ ∧ Ws w No [allR (List.map DefR dl_), PoolR n8 n9 V] [Cel b1 #[Value.slice A_c c.length c_c] 24, roR A_c 1 enU c, roR A_l 6 enAct23 l] wl_) _ ⟨0, ([] : List (Int × Nat × List (Int × Mark))), 0, [], rfl, by omega, by exact PoolOk.start, by rfl, hA.sub ⟨⟨by kernel_rfl, by kernel_rfl⟩, ⟨by kernel_rfl, by kernel_rfl⟩, ⟨by kernel_rfl, by kernel_rfl⟩, ⟨by kernel_rfl, by kernel_rfl⟩, ⟨by kernel_rfl, by kernel_rfl⟩, ⟨by kernel_rfl, by kernel_rfl⟩, trivial⟩, (hW.pick [0, 1] (by decide) rfl).pickG [0, 1, 2] rfl⟩ ?_
         clear hA ac hW; rintro m_ ac w10 ⟨k, V, made, dl_, rfl, hk, hK, hm, hA, hW⟩
         have hK1 := hK.len; have hK3 := hK.hn; have hK4 := fun g => hK.look (by omega) (g := g)
         refine wpIn_seq ?_
         refine wpIn_seq ?_
         refine wpIn_region_lit ?_
         refine st_rdF (v := Value.int .i64 ((k : Nat) : Int)) hA (by kernel_rfl) (by kernel_rfl) (by kernel_rfl) (by kernel_rfl) hW.cls (Rd.pure fun _ => by kernel_rfl) ?_; clear hA ac; intro ac hA
         refine st_rdF (v := Value.slice A_l l.length c_l) hA (by kernel_rfl) (by kernel_rfl) (by kernel_rfl) (by kernel_rfl) hW.cls (Rd.pure fun _ => by kernel_rfl) ?_; clear hA ac; intro ac hA
         refine st_rdF (v := Value.int .i64 ((l.length : Nat) : Int)) hA (by kernel_rfl) (by kernel_rfl) (by kernel_rfl) (by kernel_rfl) hW.cls (Rd.pure fun _ => by kernel_rfl) ?_; clear hA ac; intro ac hA
         refine st_rdF (v := Value.bool (decide ((((k : Nat) : Int) : Int) < (((l.length : Nat) : Int) : Int)))) hA (by kernel_rfl) (by kernel_rfl) (by kernel_rfl) (by kernel_rfl) hW.cls (Rd.pure fun _ => by kernel_rfl) ?_; clear hA ac; intro ac hA
         refine wpListIn_nil ?_
         refine thenN ?_
         refine wpIn_cond_split (t := decide ((((k : Nat) : Int) : Int) < (((l.length : Nat) : Int) : Int))) (hA.eval (by kernel_rfl)) (fun h11 => ?_) (fun h11 => ?_)
         · skip
           have h11 := of_decide_eq_true h11
           first
           | (exfalso; clear hA hW; omega)
           | (
             refine wpIn_skip ?_
             refine thenN ?_
             refine wpIn_seq ?_
             refine wpIn_block ?_
             refine wpIn_seq ?_
             refine wpIn_region_lit ?_
             refine st_rdF (v := Value.slice A_l l.length c_l) hA (by kernel_rfl) (by kernel_rfl) (by kernel_rfl) (by kernel_rfl) hW.cls (Rd.pure fun _ => by kernel_rfl) ?_; clear hA ac; intro ac hA
             refine st_rdF (v := Value.int .i64 ((k : Nat) : Int)) hA (by kernel_rfl) (by kernel_rfl) (by kernel_rfl) (by kernel_rfl) hW.cls (Rd.pure fun _ => by kernel_rfl) ?_; clear hA ac; intro ac hA
             obtain ⟨y12, hy12⟩ : ∃ y, l[k]? = some y := ⟨_, List.getElem?_eq_getElem (by first | omega | (simp; done) | (simp; omega))⟩
             obtain ⟨b13, o14, rfl, hbb13⟩ := row_some ((hW).getG 2 rfl) hy12
             refine st_rdF (v := Value.pointer (some ⟨b13, o14 + k * 6, none⟩)) hA (by kernel_rfl) (by kernel_rfl) (by kernel_rfl) (by kernel_rfl) hW.cls (Rd.indexAddr (e := 34) (sz := 6) (b := b13) (off := o14) (n := l.length) (c := c_l) (k := k) (by kernel_rfl) (by kernel_rfl) (by first | omega | (simp; done) | (simp; omega)) (fun _ => by kernel_rfl) (fun _ => by kernel_rfl)) ?_; clear hA ac; intro ac hA
             refine st_rdF (v := Value.agg #[Value.int .i64 y12.what, Value.int .i64 y12.h, Value.int .i64 y12.id, Value.int .u64 y12.m.clock, Value.int .i64 y12.m.site.f, Value.int .i64 y12.m.site.pc]) hA (by kernel_rfl) (by kernel_rfl) (by kernel_rfl) (by kernel_rfl) hW.cls (Rd.loadRow (b := b13) (i := o14 + k * 6) (xs := [Value.int .i64 y12.what, Value.int .i64 y12.h, Value.int .i64 y12.id, Value.int .u64 y12.m.clock, Value.int .i64 y12.m.site.f, Value.int .i64 y12.m.site.pc]) (by kernel_rfl) (fun _ hw => row_ld ((hw.1).getG 2 rfl) hy12 (Fr.refl No _) (fun h => h) 0 6 (by kernel_rfl)) (by kernel_rfl)) ?_; clear hA ac; intro ac hA
             refine stF hA (by kernel_rfl) (by kernel_rfl) (by kernel_rfl) (by kernel_rfl) (RunsF.of (Runs.cells (fun b => Value.pointer (some ⟨b, 0, none⟩)) #[Value.int .i64 0, Value.int .i64 0, Value.int .i64 0, Value.int .u64 0, Value.int .i64 0, Value.int .i64 0] 34 (fun _ => by kernel_rfl) hW ?_)); clear hA ac hW; intro b15 w16 hW hb15 hfw16 ac hA
             refine stF hA (by kernel_rfl) (by kernel_rfl) (by kernel_rfl) (by kernel_rfl) (RunsF.of (Runs.store (v := Value.agg #[Value.int .i64 y12.what, Value.int .i64 y12.h, Value.int .i64 y12.id, Value.int .u64 y12.m.clock, Value.int .i64 y12.m.site.f, Value.int .i64 y12.m.site.pc]) (b := b15) (j := 0) (n := 6) (cs' := #[Value.int .i64 y12.what, Value.int .i64 y12.h, Value.int .i64 y12.id, Value.int .u64 y12.m.clock, Value.int .i64 y12.m.site.f, Value.int .i64 y12.m.site.pc]) (H' := [Cel b15 #[Value.int .i64 y12.what, Value.int .i64 y12.h, Value.int .i64 y12.id, Value.int .u64 y12.m.clock, Value.int .i64 y12.m.site.f, Value.int .i64 y12.m.site.pc] 34, allR (List.map DefR dl_), PoolR n8 n9 V]) (by kernel_rfl) (by kernel_rfl) (by kernel_rfl) (by kernel_rfl) (by kernel_rfl) hW 0 (by rfl) (Nat.le_of_ble_eq_true (by kernel_rfl)) (by kernel_rfl) (by rfl) ?_)); clear hA ac hW; intro w17 hW ac hA
             refine wpListIn_nil ?_
             refine thenN ?_
             refine wpIn_seq ?_
             refine wpIn_region_lit ?_
             refine st_rdF (v := Value.pointer (some ⟨n8, 0, none⟩)) hA (by kernel_rfl) (by kernel_rfl) (by kernel_rfl) (by kernel_rfl) hW.cls (Rd.pure fun _ => by kernel_rfl) ?_; clear hA ac; intro ac hA
             refine stF hA (by kernel_rfl) (by kernel_rfl) (by kernel_rfl) (by kernel_rfl) (RunsF.of (Runs.call (fun _ => by kernel_rfl) (e_live n8 n9 V w17 ((hW).get 2 rfl) ((hW).lt _ (List.mem_of_getElem? (i := 2) rfl)) (by first | omega | exact (fun e he => by have := hK3 e he; omega) | exact (fun e he => by have := hK3' e he; omega) | exact hK4' _ | exact (Act23.bounds (hwf _ (List.mem_of_getElem? ‹_›))).1 | exact (Act23.bounds (hwf _ (List.mem_of_getElem? ‹_›))).2 | assumption) (by first | omega | exact (fun e he => by have := hK3 e he; omega) | exact (fun e he => by have := hK3' e he; omega) | exact hK4' _ | exact (Act23.bounds (hwf _ (List.mem_of_getElem? ‹_›))).1 | exact (Act23.bounds (hwf _ (List.mem_of_getElem? ‹_›))).2 | assumption)) ?_))
             rintro _ w18 ⟨g19, Ao20, co21, rfl, hw18_hp, hw18_hs, hcco21, hu_⟩; refine ⟨_, rfl, ?_⟩; replace hW := hW.made hu_; clear hA ac; intro ac hA
             have hkl_g19 := hw18_hp.length_eq; rw [keys_len, vals_len] at hkl_g19
             refine st_rdF (v := Value.slice Ao20 (g19).length co21) hA (by kernel_rfl) (by kernel_rfl) (by kernel_rfl) (by kernel_rfl) hW.cls (Rd.pure fun _ => by kernel_rfl) ?_; clear hA ac; intro ac hA
             refine wpListIn_nil ?_
             refine thenN ?_
             refine wpIn_seq ?_
             refine wpIn_seq ?_
             refine wpIn_region_lit ?_
             refine st_rdF (v := Value.pointer (some ⟨b15, 0, none⟩)) hA (by kernel_rfl) (by kernel_rfl) (by kernel_rfl) (by kernel_rfl) hW.cls (Rd.pure fun _ => by kernel_rfl) ?_; clear hA ac; intro ac hA
             refine st_rdF (v := Value.int .i64 y12.what) hA (by kernel_rfl) (by kernel_rfl) (by kernel_rfl) (by kernel_rfl) hW.cls (Rd.load (b := b15) (i := 0) (by kernel_rfl) (fun _ hw => (hw.1).cel 1 rfl) (by kernel_rfl)) ?_; clear hA ac; intro ac hA
             refine wpListIn_nil ?_
             refine thenN ?_
             refine wpIn_block ?_
             refine wpIn_seq ?_
             refine wpIn_region_lit ?_
             refine st_rdF (v := Value.bool ((y12.what : Int) == (0 : Int))) hA (by kernel_rfl) (by kernel_rfl) (by kernel_rfl) (by kernel_rfl) hW.cls (Rd.pure fun _ => by kernel_rfl) ?_; clear hA ac; intro ac hA
             refine st_rdF (v := Value.bool ((y12.what : Int) == (0 : Int))) hA (by kernel_rfl) (by kernel_rfl) (by kernel_rfl) (by kernel_rfl) hW.cls (Rd.pure fun _ => by kernel_rfl) ?_; clear hA ac; intro ac hA
             refine wpListIn_nil ?_
             refine thenN ?_
             refine wpIn_cond_split (t := (y12.what : Int) == (0 : Int)) (hA.eval (by kernel_rfl)) (fun h23 => ?_) (fun h23 => ?_)
             · skip
               have h23 := eq_of_beq h23
               first
               | (exfalso; clear hA hW; omega)
               | (
                 refine wpIn_seq ?_
                 refine wpIn_region_lit ?_
                 refine st_rdF (v := Value.pointer (some ⟨n8, 0, none⟩)) hA (by kernel_rfl) (by kernel_rfl) (by kernel_rfl) (by kernel_rfl) hW.cls (Rd.pure fun _ => by kernel_rfl) ?_; clear hA ac; intro ac hA
                 refine stF hA (by kernel_rfl) (by kernel_rfl) (by kernel_rfl) (by kernel_rfl) (RunsF.of (Runs.call (fun _ => by kernel_rfl) (e_make n8 n9 V w18 ((hW).get 3 rfl) ((hW).lt _ (List.mem_of_getElem? (i := 3) rfl)) (by first | omega | exact (fun e he => by have := hK3 e he; omega) | exact (fun e he => by have := hK3' e he; omega) | exact hK4' _ | exact (Act23.bounds (hwf _ (List.mem_of_getElem? ‹_›))).1 | exact (Act23.bounds (hwf _ (List.mem_of_getElem? ‹_›))).2 | assumption)) ?_))
                 rintro _ w24 ⟨u25, u26, rfl, hw24_hM, hu_⟩; refine ⟨_, rfl, ?_⟩; replace hW := hW.upd (H' := [rowR 3 1 enI (Value.slice Ao20 (g19).length co21) g19, Cel b15 #[Value.int .i64 y12.what, Value.int .i64 y12.h, Value.int .i64 y12.id, Value.int .u64 y12.m.clock, Value.int .i64 y12.m.site.f, Value.int .i64 y12.m.site.pc] 34, allR (List.map DefR dl_), PoolR n8 n9 u26]) 3 rfl hu_ rfl; clear hA ac; intro ac hA
                 obtain ⟨hK2, hL2⟩ := PoolOk.make hK hw24_hM
                 have hmq_ := hw24_hM; have hm1_ := hmq_.1
                 refine st_rdF (v := Value.tuple #[Value.int .i64 u25, Value.int .i64 0]) hA (by kernel_rfl) (by kernel_rfl) (by kernel_rfl) (by kernel_rfl) hW.cls (Rd.pure fun _ => by kernel_rfl) ?_; clear hA ac; intro ac hA
                 refine st_rdF (v := Value.int .i64 u25) hA (by kernel_rfl) (by kernel_rfl) (by kernel_rfl) (by kernel_rfl) hW.cls (Rd.pure fun _ => by kernel_rfl) ?_; clear hA ac; intro ac hA
                 refine st_rdF (v := Value.int .i64 0) hA (by kernel_rfl) (by kernel_rfl) (by kernel_rfl) (by kernel_rfl) hW.cls (Rd.pure fun _ => by kernel_rfl) ?_; clear hA ac; intro ac hA
                 refine st_rdF (v := Value.int .i64 u25) hA (by kernel_rfl) (by kernel_rfl) (by kernel_rfl) (by kernel_rfl) hW.cls (Rd.pure fun _ => by kernel_rfl) ?_; clear hA ac; intro ac hA
                 refine st_rdF (v := Value.int .i64 0) hA (by kernel_rfl) (by kernel_rfl) (by kernel_rfl) (by kernel_rfl) hW.cls (Rd.pure fun _ => by kernel_rfl) ?_; clear hA ac; intro ac hA
                 refine wpListIn_nil ?_
                 refine thenN ?_
                 refine wpIn_seq ?_
                 refine wpIn_seq ?_
                 refine wpIn_region_lit ?_
                 refine st_rdF (v := Value.int .i64 0) hA (by kernel_rfl) (by kernel_rfl) (by kernel_rfl) (by kernel_rfl) hW.cls (Rd.pure fun _ => by kernel_rfl) ?_; clear hA ac; intro ac hA
                 refine wpListIn_nil ?_
                 refine thenN ?_
                 refine wpIn_block ?_
                 refine wpIn_loop_m (fun m_ ac_ wl_ => ∃ k2 : Nat, m_ = g19.length - k2 ∧ (k2 ≤ g19.length) ∧ Fm 133 (List.map mk_ dl_) [(0, Value.slice (some ⟨b13, o14, none⟩) l.length c_l), (3, Value.pointer (some ⟨b1, 0, none⟩)), (4, Value.bool false), (5, Value.pointer (some ⟨n8, 0, none⟩)), (6, Value.int .i64 made), (7, Value.int .i64 ((k : Nat) : Int)), (8, Value.pointer (some ⟨b15, 0, none⟩)), (9, Value.slice Ao20 (g19).length co21), (10, Value.int .i64 u25), (11, Value.int .i64 0), (12, Value.int .i64 ((k2 : Nat) : Int))] ac_ ∧ Ws w No [rowR 3 1 enI (Value.slice Ao20 (g19).length co21) g19, Cel b15 #[Value.int .i64 y12.what, Value.int .i64 y12.h, Value.int .i64 y12.id, Value.int .u64 y12.m.clock, Value.int .i64 y12.m.site.f, Value.int .i64 y12.m.site.pc] 34, allR (List.map DefR dl_), PoolR n8 n9 u26] [Cel b1 #[Value.slice A_c c.length c_c] 24, roR A_c 1 enU c, roR (some ⟨b13, o14, none⟩) 6 enAct23 l] wl_) _ ⟨0, rfl, by omega, hA.sub ⟨⟨by kernel_rfl, by kernel_rfl⟩, ⟨by kernel_rfl, by kernel_rfl⟩, ⟨by kernel_rfl, by kernel_rfl⟩, ⟨by kernel_rfl, by kernel_rfl⟩, ⟨by kernel_rfl, by kernel_rfl⟩, ⟨by kernel_rfl, by kernel_rfl⟩, ⟨by kernel_rfl, by kernel_rfl⟩, ⟨by kernel_rfl, by kernel_rfl⟩, ⟨by kernel_rfl, by kernel_rfl⟩, ⟨by kernel_rfl, by kernel_rfl⟩, ⟨by kernel_rfl, by kernel_rfl⟩, trivial⟩, (hW.pick [0, 1, 2, 3] (by decide) rfl).pickG [0, 1, 2] rfl⟩ ?_
                 clear hA ac hW; rintro m_ ac w27 ⟨k2, rfl, hk2, hA, hW⟩
                 refine wpIn_seq ?_
                 refine wpIn_seq ?_
                 refine wpIn_region_lit ?_
                 refine st_rdF (v := Value.int .i64 ((k2 : Nat) : Int)) hA (by kernel_rfl) (by kernel_rfl) (by kernel_rfl) (by kernel_rfl) hW.cls (Rd.pure fun _ => by kernel_rfl) ?_; clear hA ac; intro ac hA
                 refine st_rdF (v := Value.slice Ao20 (g19).length co21) hA (by kernel_rfl) (by kernel_rfl) (by kernel_rfl) (by kernel_rfl) hW.cls (Rd.pure fun _ => by kernel_rfl) ?_; clear hA ac; intro ac hA
                 refine st_rdF (v := Value.int .i64 (((g19).length : Nat) : Int)) hA (by kernel_rfl) (by kernel_rfl) (by kernel_rfl) (by kernel_rfl) hW.cls (Rd.pure fun _ => by kernel_rfl) ?_; clear hA ac; intro ac hA
                 refine st_rdF (v := Value.bool (decide ((((k2 : Nat) : Int) : Int) < ((((g19).length : Nat) : Int) : Int)))) hA (by kernel_rfl) (by kernel_rfl) (by kernel_rfl) (by kernel_rfl) hW.cls (Rd.pure fun _ => by kernel_rfl) ?_; clear hA ac; intro ac hA
                 refine wpListIn_nil ?_
                 refine thenN ?_
                 refine wpIn_cond_split (t := decide ((((k2 : Nat) : Int) : Int) < ((((g19).length : Nat) : Int) : Int))) (hA.eval (by kernel_rfl)) (fun h28 => ?_) (fun h28 => ?_)
                 · skip
                   have h28 := of_decide_eq_true h28
                   first
                   | (exfalso; clear hA hW; omega)
                   | (
                     refine wpIn_skip ?_
                     refine thenN ?_
                     refine wpIn_seq ?_
                     refine wpIn_block ?_
                     refine wpIn_seq ?_
                     refine wpIn_region_lit ?_
                     refine st_rdF (v := Value.slice Ao20 (g19).length co21) hA (by kernel_rfl) (by kernel_rfl) (by kernel_rfl) (by kernel_rfl) hW.cls (Rd.pure fun _ => by kernel_rfl) ?_; clear hA ac; intro ac hA
                     refine st_rdF (v := Value.int .i64 ((k2 : Nat) : Int)) hA (by kernel_rfl) (by kernel_rfl) (by kernel_rfl) (by kernel_rfl) hW.cls (Rd.pure fun _ => by kernel_rfl) ?_; clear hA ac; intro ac hA
                     obtain ⟨y29, hy29⟩ : ∃ y, g19[k2]? = some y := ⟨_, List.getElem?_eq_getElem (by first | omega | (simp; done) | (simp; omega))⟩
                     obtain ⟨b30, o31, rfl, hbb30⟩ := row_some (rowR_at ((hW).get 0 rfl) elt_I.len) hy29
                     refine st_rdF (v := Value.pointer (some ⟨b30, o31 + k2 * 1, none⟩)) hA (by kernel_rfl) (by kernel_rfl) (by kernel_rfl) (by kernel_rfl) hW.cls (Rd.indexAddr (e := 3) (sz := 1) (b := b30) (off := o31) (n := (g19).length) (c := co21) (k := k2) (by kernel_rfl) (by kernel_rfl) (by first | omega | (simp; done) | (simp; omega)) (fun _ => by kernel_rfl) (fun _ => by kernel_rfl)) ?_; clear hA ac; intro ac hA
                     refine st_rdF (v := Value.int .i64 y29) hA (by kernel_rfl) (by kernel_rfl) (by kernel_rfl) (by kernel_rfl) hW.cls (Rd.loadRow (b := b30) (i := o31 + k2 * 1) (xs := [Value.int .i64 y29]) (by kernel_rfl) (fun _ hw => row_ld (rowR_at ((hw.1).get 0 rfl) elt_I.len) hy29 (Fr.refl No _) (fun h => h) 0 1 (by kernel_rfl)) (by kernel_rfl)) ?_; clear hA ac; intro ac hA
                     refine st_rdF (v := Value.int .i64 u25) hA (by kernel_rfl) (by kernel_rfl) (by kernel_rfl) (by kernel_rfl) hW.cls (Rd.pure fun _ => by kernel_rfl) ?_; clear hA ac; intro ac hA
                     refine st_rdF (v := Value.bool ((y29 : Int) == (u25 : Int))) hA (by kernel_rfl) (by kernel_rfl) (by kernel_rfl) (by kernel_rfl) hW.cls (Rd.pure fun _ => by kernel_rfl) ?_; clear hA ac; intro ac hA
                     refine wpListIn_nil ?_
                     refine thenN ?_
                     refine wpIn_cond_split (t := (y29 : Int) == (u25 : Int)) (hA.eval (by kernel_rfl)) (fun h32 => ?_) (fun h32 => ?_)
                     · skip
                       have h32 := eq_of_beq h32
                       first
                       | (exfalso; clear hA hW; omega)
                       | (exfalso; clear hA hW; exact look_none.1 hmq_.2.2.1 (by rw [← h32]; exact (hw18_hp.mem_iff).1 (List.mem_of_getElem? hy29)); done)
                       | (
                         refine wpIn_seq ?_
                         refine wpIn_region_lit ?_
                         refine st_rdF (v := Value.bool false) hA (by kernel_rfl) (by kernel_rfl) (by kernel_rfl) (by kernel_rfl) hW.cls (Rd.pure fun _ => by kernel_rfl) ?_; clear hA ac; intro ac hA
                         refine wpListIn_nil ?_
                         refine thenN ?_
                         refine wpIn_ret ?_
                         refine blkR ?_
                         refine thenR ?_
                         refine thenR ?_
                         refine blkR ?_
                         refine thenR ?_
                         refine blkR ?_
                         refine thenR ?_
                         refine blkR ?_
                         refine thenR ?_
                         refine thenR ?_
                         refine blkR ?_
                         refine thenR ?_
                         refine retF (.inl rfl) hA ?_
                         refine leaveDs (hW.pick [2, 0, 1, 3] (by decide) rfl) ?_; clear hW; intro w33 hW
                         refine leave1 (v := Value.bool false) (by rfl) (GotF.tmp hA (by kernel_rfl) (by kernel_rfl)) ?_
                         clear hA
                         exact ⟨retv (by rfl), hW.fr⟩)
                     · skip
                       have h32 := ne_of_beq_false h32
                       first
                       | (exfalso; clear hA hW; omega)
                       | (exfalso; clear hA hW; exact look_none.1 hmq_.2.2.1 (by rw [← h32]; exact (hw18_hp.mem_iff).1 (List.mem_of_getElem? hy29)); done)
                       | (
                         refine wpIn_skip ?_
                         refine blkN ?_
                         refine thenN ?_
                         refine wpIn_region_lit ?_
                         refine st_rdF (v := Value.int .i64 ((k2 : Nat) : Int)) hA (by kernel_rfl) (by kernel_rfl) (by kernel_rfl) (by kernel_rfl) hW.cls (Rd.pure fun _ => by kernel_rfl) ?_; clear hA ac; intro ac hA
                         refine st_rdF (v := Value.int .i64 ((k2 + 1 : Nat) : Int)) hA (by kernel_rfl) (by kernel_rfl) (by kernel_rfl) (by kernel_rfl) hW.cls (Rd.pureE (v0 := Value.int .i64 (IntKind.i64.wrap ((((k2 : Nat) : Int) : Int) + 1))) (fun _ => by kernel_rfl) (congrArg (Value.int .i64) ((w_i64 (x := (((k2 : Nat) : Int) : Int) + 1) (by omega) (by omega)).trans (by omega)))) ?_; clear hA ac; intro ac hA
                         refine st_rdF (v := Value.int .i64 ((k2 + 1 : Nat) : Int)) hA (by kernel_rfl) (by kernel_rfl) (by kernel_rfl) (by kernel_rfl) hW.cls (Rd.pure fun _ => by kernel_rfl) ?_; clear hA ac; intro ac hA
                         refine wpListIn_nil ?_
                         refine thenN ?_
                         exact ⟨g19.length - (k2 + 1), by omega, k2 + 1, rfl, by omega, hA.sub ⟨⟨by kernel_rfl, by kernel_rfl⟩, ⟨by kernel_rfl, by kernel_rfl⟩, ⟨by kernel_rfl, by kernel_rfl⟩, ⟨by kernel_rfl, by kernel_rfl⟩, ⟨by kernel_rfl, by kernel_rfl⟩, ⟨by kernel_rfl, by kernel_rfl⟩, ⟨by kernel_rfl, by kernel_rfl⟩, ⟨by kernel_rfl, by kernel_rfl⟩, ⟨by kernel_rfl, by kernel_rfl⟩, ⟨by kernel_rfl, by kernel_rfl⟩, ⟨by kernel_rfl, by kernel_rfl⟩, trivial⟩, (hW.pick [0, 1, 2, 3] (by decide) rfl).pickG [0, 1, 2] rfl⟩))
                 · skip
                   have h28 := of_decide_eq_false h28
                   first
                   | (exfalso; clear hA hW; omega)
                   | (
                     refine wpIn_exit ?_
                     refine thenX ?_
                     refine thenX ?_
                     refine blkX ?_
                     refine thenN ?_
                     refine wpIn_seq ?_
                     refine wpIn_seq ?_
                     refine wpIn_region_lit ?_
                     refine st_rdF (v := Value.int .i64 0) hA (by kernel_rfl) (by kernel_rfl) (by kernel_rfl) (by kernel_rfl) hW.cls (Rd.pure fun _ => by kernel_rfl) ?_; clear hA ac; intro ac hA
                     refine stF hA (by kernel_rfl) (by kernel_rfl) (by kernel_rfl) (by kernel_rfl) (RunsF.of (Runs.callS (v := Value.int .i64 (0)) (fun _ => by kernel_rfl) (e_num23 (0) w27) ?_)); clear hA ac; intro  ac hA
                     refine st_rdF (v := Value.bool (((0) : Int) != (0 : Int))) hA (by kernel_rfl) (by kernel_rfl) (by kernel_rfl) (by kernel_rfl) hW.cls (Rd.pure fun _ => by kernel_rfl) ?_; clear hA ac; intro ac hA
                     refine st_rdF (v := Value.bool (((0) : Int) != (0 : Int))) hA (by kernel_rfl) (by kernel_rfl) (by kernel_rfl) (by kernel_rfl) hW.cls (Rd.pure fun _ => by kernel_rfl) ?_; clear hA ac; intro ac hA
                     rcases Bool.eq_false_or_eq_true (((0) : Int) != (0 : Int)) with h34 | h34
                     · skip
                       rw [h34] at hA
                       have h34 := bne_iff_ne.1 h34
                       first
                       | (exfalso; clear hA hW; omega)
                       | (
                         refine st_skipF hA (by kernel_rfl) (by kernel_rfl) ?_; clear hA ac; intro ac hA
                         refine st_skipF hA (by kernel_rfl) (by kernel_rfl) ?_; clear hA ac; intro ac hA
                         refine st_rdF (v := Value.bool true) hA (by kernel_rfl) (by kernel_rfl) (by kernel_rfl) (by kernel_rfl) hW.cls (Rd.pure fun _ => by kernel_rfl) ?_; clear hA ac; intro ac hA
                         refine wpListIn_nil ?_
                         refine thenN ?_
                         refine wpIn_cond_true (hA.eval (by kernel_rfl)) ?_
                         refine wpIn_seq ?_
                         refine wpIn_region_lit ?_
                         refine st_rdF (v := Value.bool false) hA (by kernel_rfl) (by kernel_rfl) (by kernel_rfl) (by kernel_rfl) hW.cls (Rd.pure fun _ => by kernel_rfl) ?_; clear hA ac; intro ac hA
                         refine wpListIn_nil ?_
                         refine thenN ?_
                         refine wpIn_ret ?_
                         refine thenR ?_
                         refine blkR ?_
                         refine thenR ?_
                         refine blkR ?_
                         refine thenR ?_
                         refine thenR ?_
                         refine blkR ?_
                         refine thenR ?_
                         refine retF (.inl rfl) hA ?_
                         refine leaveDs (hW.pick [2, 0, 1, 3] (by decide) rfl) ?_; clear hW; intro w35 hW
                         refine leave1 (v := Value.bool false) (by rfl) (GotF.tmp hA (by kernel_rfl) (by kernel_rfl)) ?_
                         clear hA
                         exact ⟨retv (by rfl), hW.fr⟩)
                     · skip
                       rw [h34] at hA
                       have h34 := of_bne_f h34
                       first
                       | (exfalso; clear hA hW; omega)
                       | (
                         refine st_rdF (v := Value.int .i64 u25) hA (by kernel_rfl) (by kernel_rfl) (by kernel_rfl) (by kernel_rfl) hW.cls (Rd.pure fun _ => by kernel_rfl) ?_; clear hA ac; intro ac hA
                         refine st_rdF (v := Value.bool (decide ((u25 : Int) < (1 : Int)))) hA (by kernel_rfl) (by kernel_rfl) (by kernel_rfl) (by kernel_rfl) hW.cls (Rd.pure fun _ => by kernel_rfl) ?_; clear hA ac; intro ac hA
                         refine st_rdF (v := Value.bool (decide ((u25 : Int) < (1 : Int)))) hA (by kernel_rfl) (by kernel_rfl) (by kernel_rfl) (by kernel_rfl) hW.cls (Rd.pure fun _ => by kernel_rfl) ?_; clear hA ac; intro ac hA
                         refine wpListIn_nil ?_
                         refine thenN ?_
                         refine wpIn_cond_split (t := decide ((u25 : Int) < (1 : Int))) (hA.eval (by kernel_rfl)) (fun h36 => ?_) (fun h36 => ?_)
                         · skip
                           have h36 := of_decide_eq_true h36
                           first
                           | (exfalso; clear hA hW; omega)
                           | (
                             refine wpIn_seq ?_
                             refine wpIn_region_lit ?_
                             refine st_rdF (v := Value.bool false) hA (by kernel_rfl) (by kernel_rfl) (by kernel_rfl) (by kernel_rfl) hW.cls (Rd.pure fun _ => by kernel_rfl) ?_; clear hA ac; intro ac hA
                             refine wpListIn_nil ?_
                             refine thenN ?_
                             refine wpIn_ret ?_
                             refine thenR ?_
                             refine blkR ?_
                             refine thenR ?_
                             refine blkR ?_
                             refine thenR ?_
                             refine thenR ?_
                             refine blkR ?_
                             refine thenR ?_
                             refine retF (.inl rfl) hA ?_
                             refine leaveDs (hW.pick [2, 0, 1, 3] (by decide) rfl) ?_; clear hW; intro w37 hW
                             refine leave1 (v := Value.bool false) (by rfl) (GotF.tmp hA (by kernel_rfl) (by kernel_rfl)) ?_
                             clear hA
                             exact ⟨retv (by rfl), hW.fr⟩)
                         · skip
                           have h36 := of_decide_eq_false h36
                           first
                           | (exfalso; clear hA hW; omega)
                           | (
                             refine wpIn_skip ?_
                             refine thenN ?_
                             refine wpIn_region_lit ?_
                             refine st_rdF (v := Value.int .i64 made) hA (by kernel_rfl) (by kernel_rfl) (by kernel_rfl) (by kernel_rfl) hW.cls (Rd.pure fun _ => by kernel_rfl) ?_; clear hA ac; intro ac hA
                             refine st_rdF (v := Value.int .i64 ((made : Int) + 1)) hA (by kernel_rfl) (by kernel_rfl) (by kernel_rfl) (by kernel_rfl) hW.cls (Rd.pureE (v0 := Value.int .i64 (IntKind.i64.wrap ((made : Int) + 1))) (fun _ => by kernel_rfl) (congrArg (Value.int .i64) ((w_i64 (x := (made : Int) + 1) (by omega) (by omega)).trans (by omega)))) ?_; clear hA ac; intro ac hA
                             refine st_rdF (v := Value.int .i64 ((made : Int) + 1)) hA (by kernel_rfl) (by kernel_rfl) (by kernel_rfl) (by kernel_rfl) hW.cls (Rd.pure fun _ => by kernel_rfl) ?_; clear hA ac; intro ac hA
                             refine wpListIn_nil ?_
                             refine blkN ?_
                             refine thenN ?_
                             refine wpIn_seq ?_
                             refine wpIn_seq ?_
                             have hK1' := hK2.len; have hK3' := hK2.hn; have hK4' := fun g => hK2.look (by omega) (g := g)
                             refine wpIn_region_lit ?_
                             refine st_rdF (v := Value.pointer (some ⟨n8, 0, none⟩)) hA (by kernel_rfl) (by kernel_rfl) (by kernel_rfl) (by kernel_rfl) hW.cls (Rd.pure fun _ => by kernel_rfl) ?_; clear hA ac; intro ac hA
                             refine stF hA (by kernel_rfl) (by kernel_rfl) (by kernel_rfl) (by kernel_rfl) (RunsF.of (Runs.call (fun _ => by kernel_rfl) (e_live n8 n9 u26 w27 ((hW).get 3 rfl) ((hW).lt _ (List.mem_of_getElem? (i := 3) rfl)) (by first | omega | exact (fun e he => by have := hK3 e he; omega) | exact (fun e he => by have := hK3' e he; omega) | exact hK4' _ | exact (Act23.bounds (hwf _ (List.mem_of_getElem? ‹_›))).1 | exact (Act23.bounds (hwf _ (List.mem_of_getElem? ‹_›))).2 | assumption) (by first | omega | exact (fun e he => by have := hK3 e he; omega) | exact (fun e he => by have := hK3' e he; omega) | exact hK4' _ | exact (Act23.bounds (hwf _ (List.mem_of_getElem? ‹_›))).1 | exact (Act23.bounds (hwf _ (List.mem_of_getElem? ‹_›))).2 | assumption)) ?_))
                             rintro _ w38 ⟨g39, Ao40, co41, rfl, hw38_hp, hw38_hs, hcco41, hu_⟩; refine ⟨_, rfl, ?_⟩; replace hW := hW.made hu_; clear hA ac; intro ac hA
                             have hkl_g39 := hw38_hp.length_eq; rw [keys_len, vals_len] at hkl_g39
                             refine st_rdF (v := Value.int .i64 (((g39).length : Nat) : Int)) hA (by kernel_rfl) (by kernel_rfl) (by kernel_rfl) (by kernel_rfl) hW.cls (Rd.pure fun _ => by kernel_rfl) ?_; clear hA ac; intro ac hA
                             refine st_rdF (v := Value.int .i64 ((made : Int) + 1)) hA (by kernel_rfl) (by kernel_rfl) (by kernel_rfl) (by kernel_rfl) hW.cls (Rd.pure fun _ => by kernel_rfl) ?_; clear hA ac; intro ac hA
                             refine st_rdF (v := Value.bool (((((g39).length : Nat) : Int) : Int) != ((made : Int) + 1 : Int))) hA (by kernel_rfl) (by kernel_rfl) (by kernel_rfl) (by kernel_rfl) hW.cls (Rd.pure fun _ => by kernel_rfl) ?_; clear hA ac; intro ac hA
                             refine wpListIn_nil ?_
                             refine thenN ?_
                             refine wpIn_cond_split (t := ((((g39).length : Nat) : Int) : Int) != ((made : Int) + 1 : Int)) (hA.eval (by kernel_rfl)) (fun h43 => ?_) (fun h43 => ?_)
                             · skip
                               have h43 := bne_iff_ne.1 h43
                               first
                               | (exfalso; clear hA hW; omega)
                               | (
                                 refine wpIn_seq ?_
                                 refine wpIn_region_lit ?_
                                 refine st_rdF (v := Value.bool false) hA (by kernel_rfl) (by kernel_rfl) (by kernel_rfl) (by kernel_rfl) hW.cls (Rd.pure fun _ => by kernel_rfl) ?_; clear hA ac; intro ac hA
                                 refine wpListIn_nil ?_
                                 refine thenN ?_
                                 refine wpIn_ret ?_
                                 refine thenR ?_
                                 refine blkR ?_
                                 refine thenR ?_
                                 refine thenR ?_
                                 refine blkR ?_
                                 refine thenR ?_
                                 refine retF (.inl rfl) hA ?_
                                 refine leaveDs (hW.pick [3, 0, 1, 2, 4] (by decide) rfl) ?_; clear hW; intro w44 hW
                                 refine leave1 (v := Value.bool false) (by rfl) (GotF.tmp hA (by kernel_rfl) (by kernel_rfl)) ?_
                                 clear hA
                                 exact ⟨retv (by rfl), hW.fr⟩)
                             · skip
                               have h43 := of_bne_f h43
                               first
                               | (exfalso; clear hA hW; omega)
                               | (
                                 refine wpIn_skip ?_
                                 refine thenN ?_
                                 refine wpIn_seq ?_
                                 refine wpIn_region_lit ?_
                                 refine st_rdF (v := Value.pointer (some ⟨n8, 0, none⟩)) hA (by kernel_rfl) (by kernel_rfl) (by kernel_rfl) (by kernel_rfl) hW.cls (Rd.pure fun _ => by kernel_rfl) ?_; clear hA ac; intro ac hA
                                 refine st_rdF (v := Value.pointer (some ⟨b15, 1, none⟩)) hA (by kernel_rfl) (by kernel_rfl) (by kernel_rfl) (by kernel_rfl) hW.cls (Rd.pure fun _ => by kernel_rfl) ?_; clear hA ac; intro ac hA
                                 refine st_rdF (v := Value.int .i64 y12.h) hA (by kernel_rfl) (by kernel_rfl) (by kernel_rfl) (by kernel_rfl) hW.cls (Rd.load (b := b15) (i := 1) (by kernel_rfl) (fun _ hw => (hw.1).cel 2 rfl) (by kernel_rfl)) ?_; clear hA ac; intro ac hA
                                 refine stF hA (by kernel_rfl) (by kernel_rfl) (by kernel_rfl) (by kernel_rfl) (RunsF.of (Runs.call (fun _ => by kernel_rfl) (e_each n8 n9 u26 (y12.h) w38 ((hW).get 4 rfl) ((hW).lt _ (List.mem_of_getElem? (i := 4) rfl)) (by first | omega | exact (fun e he => by have := hK3 e he; omega) | exact (fun e he => by have := hK3' e he; omega) | exact hK4' _ | exact (Act23.bounds (hwf _ (List.mem_of_getElem? ‹_›))).1 | exact (Act23.bounds (hwf _ (List.mem_of_getElem? ‹_›))).2 | assumption)) ?_))
                                 rintro _ w45 ⟨lb46, g47, rfl, hIg47, hfg47, hfw45⟩; refine ⟨_, rfl, ?_⟩; have hW0 := hW; have hW := hW0.call hfw45; have hW := hW0.addFromAt hW hfg47 in_nil; clear hW0 hA ac; intro ac hA
                                 refine st_rdF (v := Value.func (.func 31) #[] lb46) hA (by kernel_rfl) (by kernel_rfl) (by kernel_rfl) (by kernel_rfl) hW.cls (Rd.pure fun _ => by kernel_rfl) ?_; clear hA ac; intro ac hA
                                 refine wpListIn_nil ?_
                                 refine thenN ?_
                                 refine wpIn_seq ?_
                                 refine wpIn_seq ?_
                                 refine wpIn_region_lit ?_
                                 refine st_rdF (v := Value.func (.func 31) #[] lb46) hA (by kernel_rfl) (by kernel_rfl) (by kernel_rfl) (by kernel_rfl) hW.cls (Rd.pure fun _ => by kernel_rfl) ?_; clear hA ac; intro ac hA
                                 refine st_rdF (v := Value.bool false) hA (by kernel_rfl) (by kernel_rfl) (by kernel_rfl) (by kernel_rfl) hW.cls (Rd.pure fun _ => by kernel_rfl) ?_; clear hA ac; intro ac hA
                                 refine wpListIn_nil ?_
                                 refine thenN ?_
                                 refine wpIn_cond_false (hA.eval (by kernel_rfl)) ?_
                                 refine wpIn_skip ?_
                                 refine thenN ?_
                                 refine wpIn_seq ?_
                                 refine wpIn_region_lit ?_
                                 refine stF hA (by kernel_rfl) (by kernel_rfl) (by kernel_rfl) (by kernel_rfl) (RunsF.of (Runs.cells (fun b => Value.pointer (some ⟨b, 0, none⟩)) #[Value.bool false] 4 (fun _ => by kernel_rfl) hW ?_)); clear hA ac hW; intro b48 w49 hW hb48 hfw49 ac hA
                                 refine stF hA (by kernel_rfl) (by kernel_rfl) (by kernel_rfl) (by kernel_rfl) (RunsF.of (Runs.store (v := Value.bool false) (b := b48) (j := 0) (n := 1) (cs' := #[Value.bool false]) (H' := [Cel b48 #[Value.bool false] 4, rowR 3 1 enI (Value.slice Ao40 (g39).length co41) g39, rowR 3 1 enI (Value.slice Ao20 (g19).length co21) g19, Cel b15 #[Value.int .i64 y12.what, Value.int .i64 y12.h, Value.int .i64 y12.id, Value.int .u64 y12.m.clock, Value.int .i64 y12.m.site.f, Value.int .i64 y12.m.site.pc] 34, allR (List.map DefR dl_), PoolR n8 n9 u26]) (by kernel_rfl) (by kernel_rfl) (by kernel_rfl) (by kernel_rfl) (by kernel_rfl) hW 0 (by rfl) (Nat.le_of_ble_eq_true (by kernel_rfl)) (by kernel_rfl) (by rfl) ?_)); clear hA ac hW; intro w50 hW ac hA
                                 refine wpListIn_nil ?_
                                 refine thenN ?_
                                 refine wpIn_seq ?_
                                 refine wpIn_seq ?_
                                 refine wpIn_region_lit ?_
                                 refine st_rdF (v := Value.func (.func 31) #[] lb46) hA (by kernel_rfl) (by kernel_rfl) (by kernel_rfl) (by kernel_rfl) hW.cls (Rd.pure fun _ => by kernel_rfl) ?_; clear hA ac; intro ac hA
                                 refine wpListIn_nil ?_
                                 refine thenN ?_
                                 refine wpIn_block ?_
                                 refine wp_range (encs := (fun x_ : Int × Mark => #[Value.int .i64 x_.1, x_.2.v])) (Sx := (EachR (look (vals u26) (y12.h)))) hA (by kernel_rfl) (by kernel_rfl) (enters_of Try.func31 (by kernel_rfl) rfl) (by kernel_rfl) (fun _ => rfl) hIg47 (List.forall_mem_singleton.2 (List.mem_of_getElem? (i := 0) rfl)) (fun pre_ H_ => ∃ bd : Bool, True ∧ (bd = pre_.any fun x => decide (x.2.clock > getC c x.1)) ∧ H_ = [Cel b48 #[Value.bool bd] 4]) (fun _ _ _ => False) (H := [Cel b48 #[Value.bool false] 4]) (K := [rowR 3 1 enI (Value.slice Ao40 (g39).length co41) g39, rowR 3 1 enI (Value.slice Ao20 (g19).length co21) g19, Cel b15 #[Value.int .i64 y12.what, Value.int .i64 y12.h, Value.int .i64 y12.id, Value.int .u64 y12.m.clock, Value.int .i64 y12.m.site.f, Value.int .i64 y12.m.site.pc] 34, allR (List.map DefR dl_), PoolR n8 n9 u26]) (hW.pick [0, 1, 2, 3, 4, 5] (by decide) rfl) ⟨false, trivial, by rfl, rfl⟩ ?_ ?_ ?_
                                 · skip
                                   clear hA ac hW; intro l_51 rd_51 bs_51 pre_ x_ Hk_ w52 T_51 ac hrd_51 hbs_51 hbr_51 hok_ hJ_ hA hW hB_51 hT_51
                                   obtain ⟨bd, _, hbd, rfl⟩ := hJ_
                                   obtain ⟨y53, h_⟩ : ∃ y_, y_ = x_ := ⟨_, rfl⟩; subst h_
                                   replace hA : Fm 133 [] [(0, Value.slice (some ⟨b13, o14, none⟩) l.length c_l), (3, Value.pointer (some ⟨b1, 0, none⟩)), (4, Value.bool false), (5, Value.pointer (some ⟨n8, 0, none⟩)), (6, Value.int .i64 ((made : Int) + 1)), (7, Value.int .i64 ((k : Nat) : Int)), (8, Value.pointer (some ⟨b15, 0, none⟩)), (9, Value.slice Ao20 (g19).length co21), (10, Value.int .i64 u25), (11, Value.int .i64 0), (12, Value.int .i64 ((k2 : Nat) : Int)), (13, Value.func (.func 31) #[] lb46), (14, Value.pointer (some ⟨b48, 0, none⟩)), (60, Value.int .i64 ((k2 : Nat) : Int)), (61, Value.slice Ao20 (g19).length co21), (62, Value.int .i64 (((g19).length : Nat) : Int)), (63, Value.bool (decide ((((k2 : Nat) : Int) : Int) < ((((g19).length : Nat) : Int) : Int)))), (72, Value.int .i64 0), (73, Value.int .i64 (0)), (74, Value.bool false), (75, Value.bool false), (76, Value.int .i64 u25), (77, Value.bool (decide ((u25 : Int) < (1 : Int)))), (78, Value.bool (decide ((u25 : Int) < (1 : Int)))), (79, Value.int .i64 made), (80, Value.int .i64 ((made : Int) + 1)), (91, Value.pointer (some ⟨n8, 0, none⟩)), (92, Value.slice Ao40 (g39).length co41), (93, Value.int .i64 (((g39).length : Nat) : Int)), (94, Value.int .i64 ((made : Int) + 1)), (95, Value.bool (((((g39).length : Nat) : Int) : Int) != ((made : Int) + 1 : Int))), (96, Value.pointer (some ⟨n8, 0, none⟩)), (97, Value.pointer (some ⟨b15, 1, none⟩)), (98, Value.int .i64 y12.h), (99, Value.func (.func 31) #[] lb46), (100, Value.func (.func 31) #[] lb46), (101, Value.bool false), (102, Value.func (.func 31) #[] lb46), (103, Value.int .i64 y53.1), (104, y53.2.v)] ac := hA.sub ⟨⟨by kernel_rfl, by kernel_rfl⟩, ⟨by kernel_rfl, by kernel_rfl⟩, ⟨by kernel_rfl, by kernel_rfl⟩, ⟨by kernel_rfl, by kernel_rfl⟩, ⟨by kernel_rfl, by kernel_rfl⟩, ⟨by kernel_rfl, by kernel_rfl⟩, ⟨by kernel_rfl, by kernel_rfl⟩, ⟨by kernel_rfl, by kernel_rfl⟩, ⟨by kernel_rfl, by kernel_rfl⟩, ⟨by kernel_rfl, by kernel_rfl⟩, ⟨by kernel_rfl, by kernel_rfl⟩, ⟨by kernel_rfl, by kernel_rfl⟩, ⟨by kernel_rfl, by kernel_rfl⟩, ⟨by kernel_rfl, by kernel_rfl⟩, ⟨by kernel_rfl, by kernel_rfl⟩, ⟨by kernel_rfl, by kernel_rfl⟩, ⟨by kernel_rfl, by kernel_rfl⟩, ⟨by kernel_rfl, by kernel_rfl⟩, ⟨by kernel_rfl, by kernel_rfl⟩, ⟨by kernel_rfl, by kernel_rfl⟩, ⟨by kernel_rfl, by kernel_rfl⟩, ⟨by kernel_rfl, by kernel_rfl⟩, ⟨by kernel_rfl, by kernel_rfl⟩, ⟨by kernel_rfl, by kernel_rfl⟩, ⟨by kernel_rfl, by kernel_rfl⟩, ⟨by kernel_rfl, by kernel_rfl⟩, ⟨by kernel_rfl, by kernel_rfl⟩, ⟨by kernel_rfl, by kernel_rfl⟩, ⟨by kernel_rfl, by kernel_rfl⟩, ⟨by kernel_rfl, by kernel_rfl⟩, ⟨by kernel_rfl, by kernel_rfl⟩, ⟨by kernel_rfl, by kernel_rfl⟩, ⟨by kernel_rfl, by kernel_rfl⟩, ⟨by kernel_rfl, by kernel_rfl⟩, ⟨by kernel_rfl, by kernel_rfl⟩, ⟨by kernel_rfl, by kernel_rfl⟩, ⟨by kernel_rfl, by kernel_rfl⟩, ⟨by kernel_rfl, by kernel_rfl⟩, ⟨by kernel_rfl, by kernel_rfl⟩, ⟨by kernel_rfl, by kernel_rfl⟩, trivial⟩
                                   obtain ⟨hx0, hx1⟩ := each_id (fun m hm => (hK4' _ m hm).2) hok_
                                   refine wpIn_seq ?_
                                   refine wpIn_region_lit ?_
                                   refine st_rdF (v := Value.int .i64 y53.1) hA (by kernel_rfl) (by kernel_rfl) (by kernel_rfl) (by kernel_rfl) hW.cls (Rd.pure fun _ => by kernel_rfl) ?_; clear hA ac; intro ac hA
                                   refine wpListIn_nil ?_
                                   refine thenN ?_
                                   refine wpIn_region_lit ?_
                                   refine stF hA (by kernel_rfl) (by kernel_rfl) (by kernel_rfl) (by kernel_rfl) (RunsF.of (Runs.cells (fun b => Value.pointer (some ⟨b, 0, none⟩)) #[Value.int .u64 0, Value.int .i64 0, Value.int .i64 0] 32 (fun _ => by kernel_rfl) hW ?_)); clear hA ac hW; intro b54 w55 hW hb54 hfw55 ac hA
                                   refine stF hA (by kernel_rfl) (by kernel_rfl) (by kernel_rfl) (by kernel_rfl) (RunsF.of (Runs.store (v := y53.2.v) (b := b54) (j := 0) (n := 3) (cs' := #[Value.int .u64 y53.2.clock, Value.int .i64 y53.2.site.f, Value.int .i64 y53.2.site.pc]) (H' := [Cel b54 #[Value.int .u64 y53.2.clock, Value.int .i64 y53.2.site.f, Value.int .i64 y53.2.site.pc] 32, rd_51, Cel b48 #[Value.bool bd] 4]) (by kernel_rfl) (by kernel_rfl) (by kernel_rfl) (by kernel_rfl) (by kernel_rfl) hW 0 (by rfl) (Nat.le_of_ble_eq_true (by kernel_rfl)) (by kernel_rfl) (by rfl) ?_)); clear hA ac hW; intro w56 hW ac hA
                                   refine wpListIn_nil ?_
                                   refine thenN ?_
                                   refine begun (bs := bs_51) (H' := [Cel b54 #[Value.int .u64 y53.2.clock, Value.int .i64 y53.2.site.f, Value.int .i64 y53.2.site.pc] 32, bs_51, Cel b48 #[Value.bool bd] 4]) hW 1 rfl (fun b hb => by rw [hbs_51] at hb; rw [hrd_51]; exact hb) rfl ?_; clear hW; intro w57 hW
                                   refine wpIn_block ?_
                                   refine wpIn_seq ?_
                                   refine wpIn_region_lit ?_
                                   refine st_rdF (v := Value.int .u64 0) hA (by kernel_rfl) (by kernel_rfl) (by kernel_rfl) (by kernel_rfl) hW.cls (Rd.pure fun _ => by kernel_rfl) ?_; clear hA ac; intro ac hA
                                   refine wpListIn_nil ?_
                                   refine thenN ?_
                                   refine wpIn_seq ?_
                                   refine wpIn_seq ?_
                                   refine wpIn_region_lit ?_
                                   refine st_rdF (v := Value.int .i64 y53.1) hA (by kernel_rfl) (by kernel_rfl) (by kernel_rfl) (by kernel_rfl) hW.cls (Rd.pure fun _ => by kernel_rfl) ?_; clear hA ac; intro ac hA
                                   refine st_rdF (v := Value.slice A_c c.length c_c) hA (by kernel_rfl) (by kernel_rfl) (by kernel_rfl) (by kernel_rfl) hW.cls (Rd.load (b := b1) (i := 0) (by kernel_rfl) (fun _ hw => show _ = _ from (hw.1).getG 1 rfl) (by kernel_rfl)) ?_; clear hA ac; intro ac hA
                                   refine st_rdF (v := Value.int .i64 ((c.length : Nat) : Int)) hA (by kernel_rfl) (by kernel_rfl) (by kernel_rfl) (by kernel_rfl) hW.cls (Rd.pure fun _ => by kernel_rfl) ?_; clear hA ac; intro ac hA
                                   refine st_rdF (v := Value.bool (decide ((y53.1 : Int) < (((c.length : Nat) : Int) : Int)))) hA (by kernel_rfl) (by kernel_rfl) (by kernel_rfl) (by kernel_rfl) hW.cls (Rd.pure fun _ => by kernel_rfl) ?_; clear hA ac; intro ac hA
                                   refine wpListIn_nil ?_
                                   refine thenN ?_
                                   refine wpIn_cond_split (t := decide ((y53.1 : Int) < (((c.length : Nat) : Int) : Int))) (hA.eval (by kernel_rfl)) (fun h58 => ?_) (fun h58 => ?_)
                                   · skip
                                     have h58 := of_decide_eq_true h58
                                     first
                                     | (exfalso; clear hA hW; omega)
                                     | (
                                       refine wpIn_region_lit ?_
                                       refine st_rdF (v := Value.slice A_c c.length c_c) hA (by kernel_rfl) (by kernel_rfl) (by kernel_rfl) (by kernel_rfl) hW.cls (Rd.load (b := b1) (i := 0) (by kernel_rfl) (fun _ hw => show _ = _ from (hw.1).getG 1 rfl) (by kernel_rfl)) ?_; clear hA ac; intro ac hA
                                       refine st_rdF (v := Value.int .i64 y53.1) hA (by kernel_rfl) (by kernel_rfl) (by kernel_rfl) (by kernel_rfl) hW.cls (Rd.pure fun _ => by kernel_rfl) ?_; clear hA ac; intro ac hA
                                       obtain ⟨y59, hy59⟩ : ∃ y, c[Int.toNat (y53.1)]? = some y := ⟨_, List.getElem?_eq_getElem (by first | omega | (simp; done) | (simp; omega))⟩
                                       obtain ⟨b60, o61, rfl, hbb60⟩ := row_some ((hW).getG 2 rfl) hy59
                                       refine st_rdF (v := Value.pointer (some ⟨b60, o61 + (Int.toNat (y53.1)) * 1, none⟩)) hA (by kernel_rfl) (by kernel_rfl) (by kernel_rfl) (by kernel_rfl) hW.cls (Rd.indexAddrI (e := 28) (sz := 1) (b := b60) (off := o61) (n := c.length) (c := c_c) (k := y53.1) (by kernel_rfl) (by kernel_rfl) (by omega) (by first | omega | (simp; done) | (simp; omega)) (fun _ => by kernel_rfl) (fun _ => by kernel_rfl)) ?_; clear hA ac; intro ac hA
                                       refine st_rdF (v := Value.int .u64 y59) hA (by kernel_rfl) (by kernel_rfl) (by kernel_rfl) (by kernel_rfl) hW.cls (Rd.loadRow (b := b60) (i := o61 + (Int.toNat (y53.1)) * 1) (xs := [Value.int .u64 y59]) (by kernel_rfl) (fun _ hw => row_ld ((hw.1).getG 2 rfl) hy59 (Fr.refl No _) (fun h => h) 0 1 (by kernel_rfl)) (by kernel_rfl)) ?_; clear hA ac; intro ac hA
                                       refine st_rdF (v := Value.int .u64 y59) hA (by kernel_rfl) (by kernel_rfl) (by kernel_rfl) (by kernel_rfl) hW.cls (Rd.pure fun _ => by kernel_rfl) ?_; clear hA ac; intro ac hA
                                       refine wpListIn_nil ?_
                                       refine thenN ?_
                                       have hg_ := getC_at hx0 hy59
                                       refine wpIn_region_lit ?_
                                       refine st_rdF (v := Value.bool bd) hA (by kernel_rfl) (by kernel_rfl) (by kernel_rfl) (by kernel_rfl) hW.cls (Rd.load (b := b48) (i := 0) (by kernel_rfl) (fun _ hw => (hw.1).cel 2 rfl) (by kernel_rfl)) ?_; clear hA ac; intro ac hA
                                       refine st_rdF (v := Value.bool bd) hA (by kernel_rfl) (by kernel_rfl) (by kernel_rfl) (by kernel_rfl) hW.cls (Rd.pure fun _ => by kernel_rfl) ?_; clear hA ac; intro ac hA
                                       rcases Bool.eq_false_or_eq_true (bd) with h62 | h62
                                       · skip
                                         rw [h62] at hA hW
                                         first
                                         | (exfalso; clear hA hW; omega)
                                         | (
                                           refine st_skipF hA (by kernel_rfl) (by kernel_rfl) ?_; clear hA ac; intro ac hA
                                           refine st_skipF hA (by kernel_rfl) (by kernel_rfl) ?_; clear hA ac; intro ac hA
                                           refine st_skipF hA (by kernel_rfl) (by kernel_rfl) ?_; clear hA ac; intro ac hA
                                           refine st_skipF hA (by kernel_rfl) (by kernel_rfl) ?_; clear hA ac; intro ac hA
                                           refine st_rdF (v := Value.bool true) hA (by kernel_rfl) (by kernel_rfl) (by kernel_rfl) (by kernel_rfl) hW.cls (Rd.pure fun _ => by kernel_rfl) ?_; clear hA ac; intro ac hA
                                           refine stF hA (by kernel_rfl) (by kernel_rfl) (by kernel_rfl) (by kernel_rfl) (RunsF.of (Runs.store (v := Value.bool true) (b := b48) (j := 0) (n := 1) (cs' := #[Value.bool true]) (H' := [Cel b54 #[Value.int .u64 y53.2.clock, Value.int .i64 y53.2.site.f, Value.int .i64 y53.2.site.pc] 32, bs_51, Cel b48 #[Value.bool true] 4]) (by kernel_rfl) (by kernel_rfl) (by kernel_rfl) (by kernel_rfl) (by kernel_rfl) hW 2 (by rfl) (Nat.le_of_ble_eq_true (by kernel_rfl)) (by kernel_rfl) (by rfl) ?_)); clear hA ac hW; intro w63 hW ac hA
                                           refine wpListIn_nil ?_
                                           refine blkN ?_
                                           exact ⟨_, ⟨true, trivial, by rw [any_snoc, ← hbd]; first | (rw [h62]; rfl) | (rw [h62, hg_]; simp; done) | (rw [h62, ← hg_]; simp; done), rfl⟩, (hW.pick [1, 2] (by decide) rfl).pickG [0, 1, 2, 3] rfl⟩)
                                       · skip
                                         rw [h62] at hA hW
                                         first
                                         | (exfalso; clear hA hW; omega)
                                         | (
                                           refine st_rdF (v := Value.pointer (some ⟨b54, 0, none⟩)) hA (by kernel_rfl) (by kernel_rfl) (by kernel_rfl) (by kernel_rfl) hW.cls (Rd.pure fun _ => by kernel_rfl) ?_; clear hA ac; intro ac hA
                                           refine st_rdF (v := Value.int .u64 y53.2.clock) hA (by kernel_rfl) (by kernel_rfl) (by kernel_rfl) (by kernel_rfl) hW.cls (Rd.load (b := b54) (i := 0) (by kernel_rfl) (fun _ hw => (hw.1).cel 0 rfl) (by kernel_rfl)) ?_; clear hA ac; intro ac hA
                                           refine st_rdF (v := Value.int .u64 y59) hA (by kernel_rfl) (by kernel_rfl) (by kernel_rfl) (by kernel_rfl) hW.cls (Rd.pure fun _ => by kernel_rfl) ?_; clear hA ac; intro ac hA
                                           refine st_rdF (v := Value.bool (decide ((y53.2.clock : Int) > (y59 : Int)))) hA (by kernel_rfl) (by kernel_rfl) (by kernel_rfl) (by kernel_rfl) hW.cls (Rd.pure fun _ => by kernel_rfl) ?_; clear hA ac; intro ac hA
                                           refine st_rdF (v := Value.bool (decide ((y53.2.clock : Int) > (y59 : Int)))) hA (by kernel_rfl) (by kernel_rfl) (by kernel_rfl) (by kernel_rfl) hW.cls (Rd.pure fun _ => by kernel_rfl) ?_; clear hA ac; intro ac hA
                                           refine stF hA (by kernel_rfl) (by kernel_rfl) (by kernel_rfl) (by kernel_rfl) (RunsF.of (Runs.store (v := Value.bool (decide ((y53.2.clock : Int) > (y59 : Int)))) (b := b48) (j := 0) (n := 1) (cs' := #[Value.bool (decide ((y53.2.clock : Int) > (y59 : Int)))]) (H' := [Cel b54 #[Value.int .u64 y53.2.clock, Value.int .i64 y53.2.site.f, Value.int .i64 y53.2.site.pc] 32, bs_51, Cel b48 #[Value.bool (decide ((y53.2.clock : Int) > (y59 : Int)))] 4]) (by kernel_rfl) (by kernel_rfl) (by kernel_rfl) (by kernel_rfl) (by kernel_rfl) hW 2 (by rfl) (Nat.le_of_ble_eq_true (by kernel_rfl)) (by kernel_rfl) (by rfl) ?_)); clear hA ac hW; intro w64 hW ac hA
                                           refine wpListIn_nil ?_
                                           refine blkN ?_
                                           exact ⟨_, ⟨decide ((y53.2.clock : Int) > (y59 : Int)), trivial, by rw [any_snoc, ← hbd]; first | (rw [h62]; rfl) | (rw [h62, hg_]; simp; done) | (rw [h62, ← hg_]; simp; done), rfl⟩, (hW.pick [1, 2] (by decide) rfl).pickG [0, 1, 2, 3] rfl⟩))
                                   · skip
                                     have h58 := of_decide_eq_false h58
                                     first
                                     | (exfalso; clear hA hW; omega)
                                     | (
                                       refine wpIn_skip ?_
                                       refine thenN ?_
                                       have hg_ := getC_no (c := c) (i := y53.1) (.inr (by omega))
                                       refine wpIn_region_lit ?_
                                       refine st_rdF (v := Value.bool bd) hA (by kernel_rfl) (by kernel_rfl) (by kernel_rfl) (by kernel_rfl) hW.cls (Rd.load (b := b48) (i := 0) (by kernel_rfl) (fun _ hw => (hw.1).cel 2 rfl) (by kernel_rfl)) ?_; clear hA ac; intro ac hA
                                       refine st_rdF (v := Value.bool bd) hA (by kernel_rfl) (by kernel_rfl) (by kernel_rfl) (by kernel_rfl) hW.cls (Rd.pure fun _ => by kernel_rfl) ?_; clear hA ac; intro ac hA
                                       rcases Bool.eq_false_or_eq_true (bd) with h65 | h65
                                       · skip
                                         rw [h65] at hA hW
                                         first
                                         | (exfalso; clear hA hW; omega)
                                         | (
                                           refine st_skipF hA (by kernel_rfl) (by kernel_rfl) ?_; clear hA ac; intro ac hA
                                           refine st_skipF hA (by kernel_rfl) (by kernel_rfl) ?_; clear hA ac; intro ac hA
                                           refine st_skipF hA (by kernel_rfl) (by kernel_rfl) ?_; clear hA ac; intro ac hA
                                           refine st_skipF hA (by kernel_rfl) (by kernel_rfl) ?_; clear hA ac; intro ac hA
                                           refine st_rdF (v := Value.bool true) hA (by kernel_rfl) (by kernel_rfl) (by kernel_rfl) (by kernel_rfl) hW.cls (Rd.pure fun _ => by kernel_rfl) ?_; clear hA ac; intro ac hA
                                           refine stF hA (by kernel_rfl) (by kernel_rfl) (by kernel_rfl) (by kernel_rfl) (RunsF.of (Runs.store (v := Value.bool true) (b := b48) (j := 0) (n := 1) (cs' := #[Value.bool true]) (H' := [Cel b54 #[Value.int .u64 y53.2.clock, Value.int .i64 y53.2.site.f, Value.int .i64 y53.2.site.pc] 32, bs_51, Cel b48 #[Value.bool true] 4]) (by kernel_rfl) (by kernel_rfl) (by kernel_rfl) (by kernel_rfl) (by kernel_rfl) hW 2 (by rfl) (Nat.le_of_ble_eq_true (by kernel_rfl)) (by kernel_rfl) (by rfl) ?_)); clear hA ac hW; intro w66 hW ac hA
                                           refine wpListIn_nil ?_
                                           refine blkN ?_
                                           exact ⟨_, ⟨true, trivial, by rw [any_snoc, ← hbd]; first | (rw [h65]; rfl) | (rw [h65, hg_]; simp; done) | (rw [h65, ← hg_]; simp; done), rfl⟩, (hW.pick [1, 2] (by decide) rfl).pickG [0, 1, 2, 3] rfl⟩)
                                       · skip
                                         rw [h65] at hA hW
                                         first
                                         | (exfalso; clear hA hW; omega)
                                         | (
                                           refine st_rdF (v := Value.pointer (some ⟨b54, 0, none⟩)) hA (by kernel_rfl) (by kernel_rfl) (by kernel_rfl) (by kernel_rfl) hW.cls (Rd.pure fun _ => by kernel_rfl) ?_; clear hA ac; intro ac hA
                                           refine st_rdF (v := Value.int .u64 y53.2.clock) hA (by kernel_rfl) (by kernel_rfl) (by kernel_rfl) (by kernel_rfl) hW.cls (Rd.load (b := b54) (i := 0) (by kernel_rfl) (fun _ hw => (hw.1).cel 0 rfl) (by kernel_rfl)) ?_; clear hA ac; intro ac hA
                                           refine st_rdF (v := Value.int .u64 0) hA (by kernel_rfl) (by kernel_rfl) (by kernel_rfl) (by kernel_rfl) hW.cls (Rd.pure fun _ => by kernel_rfl) ?_; clear hA ac; intro ac hA
                                           refine st_rdF (v := Value.bool (decide ((y53.2.clock : Int) > (0 : Int)))) hA (by kernel_rfl) (by kernel_rfl) (by kernel_rfl) (by kernel_rfl) hW.cls (Rd.pure fun _ => by kernel_rfl) ?_; clear hA ac; intro ac hA
                                           refine st_rdF (v := Value.bool (decide ((y53.2.clock : Int) > (0 : Int)))) hA (by kernel_rfl) (by kernel_rfl) (by kernel_rfl) (by kernel_rfl) hW.cls (Rd.pure fun _ => by kernel_rfl) ?_; clear hA ac; intro ac hA
                                           refine stF hA (by kernel_rfl) (by kernel_rfl) (by kernel_rfl) (by kernel_rfl) (RunsF.of (Runs.store (v := Value.bool (decide ((y53.2.clock : Int) > (0 : Int)))) (b := b48) (j := 0) (n := 1) (cs' := #[Value.bool (decide ((y53.2.clock : Int) > (0 : Int)))]) (H' := [Cel b54 #[Value.int .u64 y53.2.clock, Value.int .i64 y53.2.site.f, Value.int .i64 y53.2.site.pc] 32, bs_51, Cel b48 #[Value.bool (decide ((y53.2.clock : Int) > (0 : Int)))] 4]) (by kernel_rfl) (by kernel_rfl) (by kernel_rfl) (by kernel_rfl) (by kernel_rfl) hW 2 (by rfl) (Nat.le_of_ble_eq_true (by kernel_rfl)) (by kernel_rfl) (by rfl) ?_)); clear hA ac hW; intro w67 hW ac hA
                                           refine wpListIn_nil ?_
                                           refine blkN ?_
                                           exact ⟨_, ⟨decide ((y53.2.clock : Int) > (0 : Int)), trivial, by rw [any_snoc, ← hbd]; first | (rw [h65]; rfl) | (rw [h65, hg_]; simp; done) | (rw [h65, ← hg_]; simp; done), rfl⟩, (hW.pick [1, 2] (by decide) rfl).pickG [0, 1, 2, 3] rfl⟩))
                                 · skip
                                   clear hA ac hW; intro D68 xs_ Hk_ w69 ac hS_ hJ_ hA hW
                                   obtain ⟨bd, _, hbd, rfl⟩ := hJ_
                                   replace hW : Ws w No [Cel b48 #[Value.bool bd] 4, DefR D68, rowR 3 1 enI (Value.slice Ao40 (g39).length co41) g39, rowR 3 1 enI (Value.slice Ao20 (g19).length co21) g19, Cel b15 #[Value.int .i64 y12.what, Value.int .i64 y12.h, Value.int .i64 y12.id, Value.int .u64 y12.m.clock, Value.int .i64 y12.m.site.f, Value.int .i64 y12.m.site.pc] 34, allR (List.map DefR dl_), PoolR n8 n9 u26] [g47, Cel b1 #[Value.slice A_c c.length c_c] 24, roR A_c 1 enU c, roR (some ⟨b13, o14, none⟩) 6 enAct23 l] w69 := hW
                                   refine blkN ?_
                                   refine thenN ?_
                                   refine wpIn_seq ?_
                                   refine wpIn_region_lit ?_
                                   refine st_rdF (v := Value.pointer (some ⟨n8, 0, none⟩)) hA (by kernel_rfl) (by kernel_rfl) (by kernel_rfl) (by kernel_rfl) hW.cls (Rd.pure fun _ => by kernel_rfl) ?_; clear hA ac; intro ac hA
                                   refine st_rdF (v := Value.pointer (some ⟨b15, 1, none⟩)) hA (by kernel_rfl) (by kernel_rfl) (by kernel_rfl) (by kernel_rfl) hW.cls (Rd.pure fun _ => by kernel_rfl) ?_; clear hA ac; intro ac hA
                                   refine st_rdF (v := Value.int .i64 y12.h) hA (by kernel_rfl) (by kernel_rfl) (by kernel_rfl) (by kernel_rfl) hW.cls (Rd.load (b := b15) (i := 1) (by kernel_rfl) (fun _ hw => (hw.1).cel 4 rfl) (by kernel_rfl)) ?_; clear hA ac; intro ac hA
                                   refine st_rdF (v := Value.slice A_c c.length c_c) hA (by kernel_rfl) (by kernel_rfl) (by kernel_rfl) (by kernel_rfl) hW.cls (Rd.load (b := b1) (i := 0) (by kernel_rfl) (fun _ hw => show _ = _ from (hw.1).getG 1 rfl) (by kernel_rfl)) ?_; clear hA ac; intro ac hA
                                   refine stF hA (by kernel_rfl) (by kernel_rfl) (by kernel_rfl) (by kernel_rfl) (RunsF.of (Runs.call (fun _ => by kernel_rfl) (e_beyond n8 n9 u26 (y12.h) A_c c_c c w69 ((hW).get 6 rfl) ((hW).lt _ (List.mem_of_getElem? (i := 6) rfl)) ((hW).getG 2 rfl) (by first | assumption | omega | (simp; omega) | simp) (by first | omega | exact (fun e he => by have := hK3 e he; omega) | exact (fun e he => by have := hK3' e he; omega) | exact hK4' _ | exact (Act23.bounds (hwf _ (List.mem_of_getElem? ‹_›))).1 | exact (Act23.bounds (hwf _ (List.mem_of_getElem? ‹_›))).2 | assumption) (by first | omega | exact (fun e he => by have := hK3 e he; omega) | exact (fun e he => by have := hK3' e he; omega) | exact hK4' _ | exact (Act23.bounds (hwf _ (List.mem_of_getElem? ‹_›))).1 | exact (Act23.bounds (hwf _ (List.mem_of_getElem? ‹_›))).2 | assumption)) ?_))
                                   rintro _ w70 ⟨g71, g72, g73, rfl, hw70_hB, hfw70⟩; refine ⟨_, rfl, ?_⟩; have hW0 := hW; have hW := hW0.call hfw70
                                   clear hW0 hA ac; intro ac hA
                                   refine st_rdF (v := Value.tuple #[Value.int .i64 g71, g72.v, Value.bool g73]) hA (by kernel_rfl) (by kernel_rfl) (by kernel_rfl) (by kernel_rfl) hW.cls (Rd.pure fun _ => by kernel_rfl) ?_; clear hA ac; intro ac hA
                                   refine st_rdF (v := Value.int .i64 g71) hA (by kernel_rfl) (by kernel_rfl) (by kernel_rfl) (by kernel_rfl) hW.cls (Rd.pure fun _ => by kernel_rfl) ?_; clear hA ac; intro ac hA
                                   refine st_rdF (v := g72.v) hA (by kernel_rfl) (by kernel_rfl) (by kernel_rfl) (by kernel_rfl) hW.cls (Rd.pure fun _ => by kernel_rfl) ?_; clear hA ac; intro ac hA
                                   refine st_rdF (v := Value.bool g73) hA (by kernel_rfl) (by kernel_rfl) (by kernel_rfl) (by kernel_rfl) hW.cls (Rd.pure fun _ => by kernel_rfl) ?_; clear hA ac; intro ac hA
                                   refine stF hA (by kernel_rfl) (by kernel_rfl) (by kernel_rfl) (by kernel_rfl) (RunsF.of (Runs.cells (fun b => Value.pointer (some ⟨b, 0, none⟩)) #[Value.int .u64 0, Value.int .i64 0, Value.int .i64 0] 32 (fun _ => by kernel_rfl) hW ?_)); clear hA ac hW; intro b74 w75 hW hb74 hfw75 ac hA
                                   refine st_rdF (v := Value.int .i64 g71) hA (by kernel_rfl) (by kernel_rfl) (by kernel_rfl) (by kernel_rfl) hW.cls (Rd.pure fun _ => by kernel_rfl) ?_; clear hA ac; intro ac hA
                                   refine stF hA (by kernel_rfl) (by kernel_rfl) (by kernel_rfl) (by kernel_rfl) (RunsF.of (Runs.store (v := g72.v) (b := b74) (j := 0) (n := 3) (cs' := #[Value.int .u64 g72.clock, Value.int .i64 g72.site.f, Value.int .i64 g72.site.pc]) (H' := [Cel b74 #[Value.int .u64 g72.clock, Value.int .i64 g72.site.f, Value.int .i64 g72.site.pc] 32, Cel b48 #[Value.bool bd] 4, DefR D68, rowR 3 1 enI (Value.slice Ao40 (g39).length co41) g39, rowR 3 1 enI (Value.slice Ao20 (g19).length co21) g19, Cel b15 #[Value.int .i64 y12.what, Value.int .i64 y12.h, Value.int .i64 y12.id, Value.int .u64 y12.m.clock, Value.int .i64 y12.m.site.f, Value.int .i64 y12.m.site.pc] 34, allR (List.map DefR dl_), PoolR n8 n9 u26]) (by kernel_rfl) (by kernel_rfl) (by kernel_rfl) (by kernel_rfl) (by kernel_rfl) hW 0 (by rfl) (Nat.le_of_ble_eq_true (by kernel_rfl)) (by kernel_rfl) (by rfl) ?_)); clear hA ac hW; intro w76 hW ac hA
                                   refine st_rdF (v := Value.bool g73) hA (by kernel_rfl) (by kernel_rfl) (by kernel_rfl) (by kernel_rfl) hW.cls (Rd.pure fun _ => by kernel_rfl) ?_; clear hA ac; intro ac hA
                                   refine wpListIn_nil ?_
                                   refine thenN ?_
                                   refine wpIn_seq ?_
                                   refine wpIn_region_lit ?_
                                   refine st_rdF (v := Value.bool g73) hA (by kernel_rfl) (by kernel_rfl) (by kernel_rfl) (by kernel_rfl) hW.cls (Rd.pure fun _ => by kernel_rfl) ?_; clear hA ac; intro ac hA
                                   refine st_rdF (v := Value.bool bd) hA (by kernel_rfl) (by kernel_rfl) (by kernel_rfl) (by kernel_rfl) hW.cls (Rd.load (b := b48) (i := 0) (by kernel_rfl) (fun _ hw => (hw.1).cel 1 rfl) (by kernel_rfl)) ?_; clear hA ac; intro ac hA
                                   refine st_rdF (v := Value.bool (!(g73 == bd))) hA (by kernel_rfl) (by kernel_rfl) (by kernel_rfl) (by kernel_rfl) hW.cls (Rd.pure fun _ => by kernel_rfl) ?_; clear hA ac; intro ac hA
                                   refine wpListIn_nil ?_
                                   refine thenN ?_
                                   refine wpIn_cond_split (t := !(g73 == bd)) (hA.eval (by kernel_rfl)) (fun h77 => ?_) (fun h77 => ?_)
                                   · skip
                                     have h77 := bbne_t h77
                                     first
                                     | (exfalso; clear hA hW; omega)
                                     | (exfalso; clear hA hW; exact absurd (bey_each hw70_hB hS_ hbd) h77; done)
                                     | (
                                       refine wpIn_seq ?_
                                       refine wpIn_region_lit ?_
                                       refine st_rdF (v := Value.bool false) hA (by kernel_rfl) (by kernel_rfl) (by kernel_rfl) (by kernel_rfl) hW.cls (Rd.pure fun _ => by kernel_rfl) ?_; clear hA ac; intro ac hA
                                       refine wpListIn_nil ?_
                                       refine thenN ?_
                                       refine wpIn_ret ?_
                                       refine blkR ?_
                                       refine thenR ?_
                                       refine thenR ?_
                                       refine blkR ?_
                                       refine thenR ?_
                                       refine retF (.inl rfl) hA ?_
                                       refine leaveD (H' := [Cel b74 #[Value.int .u64 g72.clock, Value.int .i64 g72.site.f, Value.int .i64 g72.site.pc] 32, Cel b48 #[Value.bool bd] 4, rowR 3 1 enI (Value.slice Ao40 (g39).length co41) g39, rowR 3 1 enI (Value.slice Ao20 (g19).length co21) g19, Cel b15 #[Value.int .i64 y12.what, Value.int .i64 y12.h, Value.int .i64 y12.id, Value.int .u64 y12.m.clock, Value.int .i64 y12.m.site.f, Value.int .i64 y12.m.site.pc] 34, allR (List.map DefR dl_), PoolR n8 n9 u26]) hW 2 rfl rfl ?_; clear hW; intro w78 hW
                                       refine leaveDs (hW.pick [5, 0, 1, 2, 3, 4, 6] (by decide) rfl) ?_; clear hW; intro w79 hW
                                       refine leave1 (v := Value.bool false) (by rfl) (GotF.tmp hA (by kernel_rfl) (by kernel_rfl)) ?_
                                       clear hA
                                       exact ⟨retv (by rfl), hW.fr⟩)
                                   · skip
                                     have h77 := bbne_f h77
                                     first
                                     | (exfalso; clear hA hW; omega)
                                     | (exfalso; clear hA hW; exact absurd (bey_each hw70_hB hS_ hbd) h77; done)
                                     | (
                                       refine wpIn_skip ?_
                                       refine blkN ?_
                                       refine thenN ?_
                                       refine wpIn_region_lit ?_
                                       refine st_rdF (v := Value.int .i64 ((k : Nat) : Int)) hA (by kernel_rfl) (by kernel_rfl) (by kernel_rfl) (by kernel_rfl) hW.cls (Rd.pure fun _ => by kernel_rfl) ?_; clear hA ac; intro ac hA
                                       refine st_rdF (v := Value.int .i64 ((k + 1 : Nat) : Int)) hA (by kernel_rfl) (by kernel_rfl) (by kernel_rfl) (by kernel_rfl) hW.cls (Rd.pureE (v0 := Value.int .i64 (IntKind.i64.wrap ((((k : Nat) : Int) : Int) + 1))) (fun _ => by kernel_rfl) (congrArg (Value.int .i64) ((w_i64 (x := (((k : Nat) : Int) : Int) + 1) (by omega) (by omega)).trans (by omega)))) ?_; clear hA ac; intro ac hA
                                       refine st_rdF (v := Value.int .i64 ((k + 1 : Nat) : Int)) hA (by kernel_rfl) (by kernel_rfl) (by kernel_rfl) (by kernel_rfl) hW.cls (Rd.pure fun _ => by kernel_rfl) ?_; clear hA ac; intro ac hA
                                       refine wpListIn_nil ?_
                                       refine thenN ?_
                                       have hW := Ws.defCons (hW.pick [2, 6, 0, 1, 3, 4, 5, 7] (by decide) rfl)
                                       exact ⟨l.length - (k + 1), by omega, k + 1, u26, (made : Int) + 1, (D68 :: dl_), rfl, by omega, by exact hK2, by omega, hA.sub ⟨⟨by kernel_rfl, by kernel_rfl⟩, ⟨by kernel_rfl, by kernel_rfl⟩, ⟨by kernel_rfl, by kernel_rfl⟩, ⟨by kernel_rfl, by kernel_rfl⟩, ⟨by kernel_rfl, by kernel_rfl⟩, ⟨by kernel_rfl, by kernel_rfl⟩, trivial⟩, (hW.pick [0, 6] (by decide) rfl).pickG [1, 2, 3] rfl⟩)
                                 · skip
                                   clear hA ac hW; intro D80 c_ pre_ Hk_ w81 ac hJ_ hA hW
                                   exact hJ_.elim)))))
             · skip
               have h23 := ne_of_beq_false h23
               first
               | (exfalso; clear hA hW; omega)
               | (
                 refine wpIn_seq ?_
                 refine wpIn_region_lit ?_
                 refine st_rdF (v := Value.bool ((y12.what : Int) == (5 : Int))) hA (by kernel_rfl) (by kernel_rfl) (by kernel_rfl) (by kernel_rfl) hW.cls (Rd.pure fun _ => by kernel_rfl) ?_; clear hA ac; intro ac hA
                 refine st_rdF (v := Value.bool ((y12.what : Int) == (5 : Int))) hA (by kernel_rfl) (by kernel_rfl) (by kernel_rfl) (by kernel_rfl) hW.cls (Rd.pure fun _ => by kernel_rfl) ?_; clear hA ac; intro ac hA
                 refine wpListIn_nil ?_
                 refine thenN ?_
                 refine wpIn_cond_split (t := (y12.what : Int) == (5 : Int)) (hA.eval (by kernel_rfl)) (fun h82 => ?_) (fun h82 => ?_)
                 · skip
                   have h82 := eq_of_beq h82
                   first
                   | (exfalso; clear hA hW; omega)
                   | (
                     refine wpIn_seq ?_
                     refine wpIn_region_lit ?_
                     refine st_rdF (v := Value.pointer (some ⟨n8, 0, none⟩)) hA (by kernel_rfl) (by kernel_rfl) (by kernel_rfl) (by kernel_rfl) hW.cls (Rd.pure fun _ => by kernel_rfl) ?_; clear hA ac; intro ac hA
                     refine st_rdF (v := Value.pointer (some ⟨b15, 1, none⟩)) hA (by kernel_rfl) (by kernel_rfl) (by kernel_rfl) (by kernel_rfl) hW.cls (Rd.pure fun _ => by kernel_rfl) ?_; clear hA ac; intro ac hA
                     refine st_rdF (v := Value.int .i64 y12.h) hA (by kernel_rfl) (by kernel_rfl) (by kernel_rfl) (by kernel_rfl) hW.cls (Rd.load (b := b15) (i := 1) (by kernel_rfl) (fun _ hw => (hw.1).cel 1 rfl) (by kernel_rfl)) ?_; clear hA ac; intro ac hA
                     refine stF hA (by kernel_rfl) (by kernel_rfl) (by kernel_rfl) (by kernel_rfl) (RunsF.of (Runs.call (fun _ => by kernel_rfl) (e_free n8 n9 V (y12.h) w18 ((hW).get 3 rfl) ((hW).lt _ (List.mem_of_getElem? (i := 3) rfl))) ?_))
                     rintro _ w83 ⟨u84, u85, rfl, hw83_hM, hu_⟩; refine ⟨_, rfl, ?_⟩; replace hW := hW.upd (H' := [rowR 3 1 enI (Value.slice Ao20 (g19).length co21) g19, Cel b15 #[Value.int .i64 y12.what, Value.int .i64 y12.h, Value.int .i64 y12.id, Value.int .u64 y12.m.clock, Value.int .i64 y12.m.site.f, Value.int .i64 y12.m.site.pc] 34, allR (List.map DefR dl_), PoolR n8 n9 u84]) 3 rfl hu_ rfl; clear hA ac; intro ac hA
                     obtain ⟨hK2, hL2⟩ := PoolOk.free hK hw83_hM
                     refine stF hA (by kernel_rfl) (by kernel_rfl) (by kernel_rfl) (by kernel_rfl) (RunsF.of (Runs.callS (v := Value.int .i64 (u85)) (fun _ => by kernel_rfl) (e_num23 (u85) w83) ?_)); clear hA ac; intro  ac hA
                     refine st_rdF (v := Value.bool (((u85) : Int) == (0 : Int))) hA (by kernel_rfl) (by kernel_rfl) (by kernel_rfl) (by kernel_rfl) hW.cls (Rd.pure fun _ => by kernel_rfl) ?_; clear hA ac; intro ac hA
                     refine wpListIn_nil ?_
                     refine thenN ?_
                     refine wpIn_cond_split (t := ((u85) : Int) == (0 : Int)) (hA.eval (by kernel_rfl)) (fun h86 => ?_) (fun h86 => ?_)
                     · skip
                       have h86 := eq_of_beq h86
                       first
                       | (exfalso; clear hA hW; omega)
                       | (
                         refine wpIn_region_lit ?_
                         refine st_rdF (v := Value.int .i64 made) hA (by kernel_rfl) (by kernel_rfl) (by kernel_rfl) (by kernel_rfl) hW.cls (Rd.pure fun _ => by kernel_rfl) ?_; clear hA ac; intro ac hA
                         refine st_rdF (v := Value.int .i64 ((made : Int) - 1)) hA (by kernel_rfl) (by kernel_rfl) (by kernel_rfl) (by kernel_rfl) hW.cls (Rd.pureE (v0 := Value.int .i64 (IntKind.i64.wrap ((made : Int) - 1))) (fun _ => by kernel_rfl) (congrArg (Value.int .i64) ((w_i64 (x := (made : Int) - 1) (by omega) (by omega)).trans (by omega)))) ?_; clear hA ac; intro ac hA
                         refine st_rdF (v := Value.int .i64 ((made : Int) - 1)) hA (by kernel_rfl) (by kernel_rfl) (by kernel_rfl) (by kernel_rfl) hW.cls (Rd.pure fun _ => by kernel_rfl) ?_; clear hA ac; intro ac hA
                         refine wpListIn_nil ?_
                         refine blkN ?_
                         refine thenN ?_
                         refine wpIn_seq ?_
                         refine wpIn_seq ?_
                         have hK1' := hK2.len; have hK3' := hK2.hn; have hK4' := fun g => hK2.look (by omega) (g := g)
                         refine wpIn_region_lit ?_
                         refine st_rdF (v := Value.pointer (some ⟨n8, 0, none⟩)) hA (by kernel_rfl) (by kernel_rfl) (by kernel_rfl) (by kernel_rfl) hW.cls (Rd.pure fun _ => by kernel_rfl) ?_; clear hA ac; intro ac hA
                         refine stF hA (by kernel_rfl) (by kernel_rfl) (by kernel_rfl) (by kernel_rfl) (RunsF.of (Runs.call (fun _ => by kernel_rfl) (e_live n8 n9 u84 w83 ((hW).get 3 rfl) ((hW).lt _ (List.mem_of_getElem? (i := 3) rfl)) (by first | omega | exact (fun e he => by have := hK3 e he; omega) | exact (fun e he => by have := hK3' e he; omega) | exact hK4' _ | exact (Act23.bounds (hwf _ (List.mem_of_getElem? ‹_›))).1 | exact (Act23.bounds (hwf _ (List.mem_of_getElem? ‹_›))).2 | assumption) (by first | omega | exact (fun e he => by have := hK3 e he; omega) | exact (fun e he => by have := hK3' e he; omega) | exact hK4' _ | exact (Act23.bounds (hwf _ (List.mem_of_getElem? ‹_›))).1 | exact (Act23.bounds (hwf _ (List.mem_of_getElem? ‹_›))).2 | assumption)) ?_))
                         rintro _ w87 ⟨g88, Ao89, co90, rfl, hw87_hp, hw87_hs, hcco90, hu_⟩; refine ⟨_, rfl, ?_⟩; replace hW := hW.made hu_; clear hA ac; intro ac hA
                         have hkl_g88 := hw87_hp.length_eq; rw [keys_len, vals_len] at hkl_g88
                         refine st_rdF (v := Value.int .i64 (((g88).length : Nat) : Int)) hA (by kernel_rfl) (by kernel_rfl) (by kernel_rfl) (by kernel_rfl) hW.cls (Rd.pure fun _ => by kernel_rfl) ?_; clear hA ac; intro ac hA
                         refine st_rdF (v := Value.int .i64 ((made : Int) - 1)) hA (by kernel_rfl) (by kernel_rfl) (by kernel_rfl) (by kernel_rfl) hW.cls (Rd.pure fun _ => by kernel_rfl) ?_; clear hA ac; intro ac hA
                         refine st_rdF (v := Value.bool (((((g88).length : Nat) : Int) : Int) != ((made : Int) - 1 : Int))) hA (by kernel_rfl) (by kernel_rfl) (by kernel_rfl) (by kernel_rfl) hW.cls (Rd.pure fun _ => by kernel_rfl) ?_; clear hA ac; intro ac hA
                         refine wpListIn_nil ?_
                         refine thenN ?_
                         refine wpIn_cond_split (t := ((((g88).length : Nat) : Int) : Int) != ((made : Int) - 1 : Int)) (hA.eval (by kernel_rfl)) (fun h92 => ?_) (fun h92 => ?_)
                         · skip
                           have h92 := bne_iff_ne.1 h92
                           first
                           | (exfalso; clear hA hW; omega)
                           | (
                             refine wpIn_seq ?_
                             refine wpIn_region_lit ?_
                             refine st_rdF (v := Value.bool false) hA (by kernel_rfl) (by kernel_rfl) (by kernel_rfl) (by kernel_rfl) hW.cls (Rd.pure fun _ => by kernel_rfl) ?_; clear hA ac; intro ac hA
                             refine wpListIn_nil ?_
                             refine thenN ?_
                             refine wpIn_ret ?_
                             refine thenR ?_
                             refine blkR ?_
                             refine thenR ?_
                             refine thenR ?_
                             refine blkR ?_
                             refine thenR ?_
                             refine retF (.inl rfl) hA ?_
                             refine leaveDs (hW.pick [3, 0, 1, 2, 4] (by decide) rfl) ?_; clear hW; intro w93 hW
                             refine leave1 (v := Value.bool false) (by rfl) (GotF.tmp hA (by kernel_rfl) (by kernel_rfl)) ?_
                             clear hA
                             exact ⟨retv (by rfl), hW.fr⟩)
                         · skip
                           have h92 := of_bne_f h92
                           first
                           | (exfalso; clear hA hW; omega)
                           | (
                             refine wpIn_skip ?_
                             refine thenN ?_
                             refine wpIn_seq ?_
                             refine wpIn_region_lit ?_
                             refine st_rdF (v := Value.pointer (some ⟨n8, 0, none⟩)) hA (by kernel_rfl) (by kernel_rfl) (by kernel_rfl) (by kernel_rfl) hW.cls (Rd.pure fun _ => by kernel_rfl) ?_; clear hA ac; intro ac hA
                             refine st_rdF (v := Value.pointer (some ⟨b15, 1, none⟩)) hA (by kernel_rfl) (by kernel_rfl) (by kernel_rfl) (by kernel_rfl) hW.cls (Rd.pure fun _ => by kernel_rfl) ?_; clear hA ac; intro ac hA
                             refine st_rdF (v := Value.int .i64 y12.h) hA (by kernel_rfl) (by kernel_rfl) (by kernel_rfl) (by kernel_rfl) hW.cls (Rd.load (b := b15) (i := 1) (by kernel_rfl) (fun _ hw => (hw.1).cel 2 rfl) (by kernel_rfl)) ?_; clear hA ac; intro ac hA
                             refine stF hA (by kernel_rfl) (by kernel_rfl) (by kernel_rfl) (by kernel_rfl) (RunsF.of (Runs.call (fun _ => by kernel_rfl) (e_each n8 n9 u84 (y12.h) w87 ((hW).get 4 rfl) ((hW).lt _ (List.mem_of_getElem? (i := 4) rfl)) (by first | omega | exact (fun e he => by have := hK3 e he; omega) | exact (fun e he => by have := hK3' e he; omega) | exact hK4' _ | exact (Act23.bounds (hwf _ (List.mem_of_getElem? ‹_›))).1 | exact (Act23.bounds (hwf _ (List.mem_of_getElem? ‹_›))).2 | assumption)) ?_))
                             rintro _ w94 ⟨lb95, g96, rfl, hIg96, hfg96, hfw94⟩; refine ⟨_, rfl, ?_⟩; have hW0 := hW; have hW := hW0.call hfw94; have hW := hW0.addFromAt hW hfg96 in_nil; clear hW0 hA ac; intro ac hA
                             refine st_rdF (v := Value.func (.func 31) #[] lb95) hA (by kernel_rfl) (by kernel_rfl) (by kernel_rfl) (by kernel_rfl) hW.cls (Rd.pure fun _ => by kernel_rfl) ?_; clear hA ac; intro ac hA
                             refine wpListIn_nil ?_
                             refine thenN ?_
                             refine wpIn_seq ?_
                             refine wpIn_seq ?_
                             refine wpIn_region_lit ?_
                             refine st_rdF (v := Value.func (.func 31) #[] lb95) hA (by kernel_rfl) (by kernel_rfl) (by kernel_rfl) (by kernel_rfl) hW.cls (Rd.pure fun _ => by kernel_rfl) ?_; clear hA ac; intro ac hA
                             refine st_rdF (v := Value.bool false) hA (by kernel_rfl) (by kernel_rfl) (by kernel_rfl) (by kernel_rfl) hW.cls (Rd.pure fun _ => by kernel_rfl) ?_; clear hA ac; intro ac hA
                             refine wpListIn_nil ?_
                             refine thenN ?_
                             refine wpIn_cond_false (hA.eval (by kernel_rfl)) ?_
                             refine wpIn_skip ?_
                             refine thenN ?_
                             refine wpIn_seq ?_
                             refine wpIn_region_lit ?_
                             refine stF hA (by kernel_rfl) (by kernel_rfl) (by kernel_rfl) (by kernel_rfl) (RunsF.of (Runs.cells (fun b => Value.pointer (some ⟨b, 0, none⟩)) #[Value.bool false] 4 (fun _ => by kernel_rfl) hW ?_)); clear hA ac hW; intro b97 w98 hW hb97 hfw98 ac hA
                             refine stF hA (by kernel_rfl) (by kernel_rfl) (by kernel_rfl) (by kernel_rfl) (RunsF.of (Runs.store (v := Value.bool false) (b := b97) (j := 0) (n := 1) (cs' := #[Value.bool false]) (H' := [Cel b97 #[Value.bool false] 4, rowR 3 1 enI (Value.slice Ao89 (g88).length co90) g88, rowR 3 1 enI (Value.slice Ao20 (g19).length co21) g19, Cel b15 #[Value.int .i64 y12.what, Value.int .i64 y12.h, Value.int .i64 y12.id, Value.int .u64 y12.m.clock, Value.int .i64 y12.m.site.f, Value.int .i64 y12.m.site.pc] 34, allR (List.map DefR dl_), PoolR n8 n9 u84]) (by kernel_rfl) (by kernel_rfl) (by kernel_rfl) (by kernel_rfl) (by kernel_rfl) hW 0 (by rfl) (Nat.le_of_ble_eq_true (by kernel_rfl)) (by kernel_rfl) (by rfl) ?_)); clear hA ac hW; intro w99 hW ac hA
                             refine wpListIn_nil ?_
                             refine thenN ?_
                             refine wpIn_seq ?_
                             refine wpIn_seq ?_
                             refine wpIn_region_lit ?_
                             refine st_rdF (v := Value.func (.func 31) #[] lb95) hA (by kernel_rfl) (by kernel_rfl) (by kernel_rfl) (by kernel_rfl) hW.cls (Rd.pure fun _ => by kernel_rfl) ?_; clear hA ac; intro ac hA
                             refine wpListIn_nil ?_
                             refine thenN ?_
                             refine wpIn_block ?_
                             refine wp_range (encs := (fun x_ : Int × Mark => #[Value.int .i64 x_.1, x_.2.v])) (Sx := (EachR (look (vals u84) (y12.h)))) hA (by kernel_rfl) (by kernel_rfl) (enters_of Try.func31 (by kernel_rfl) rfl) (by kernel_rfl) (fun _ => rfl) hIg96 (List.forall_mem_singleton.2 (List.mem_of_getElem? (i := 0) rfl)) (fun pre_ H_ => ∃ bd : Bool, True ∧ (bd = pre_.any fun x => decide (x.2.clock > getC c x.1)) ∧ H_ = [Cel b97 #[Value.bool bd] 4]) (fun _ _ _ => False) (H := [Cel b97 #[Value.bool false] 4]) (K := [rowR 3 1 enI (Value.slice Ao89 (g88).length co90) g88, rowR 3 1 enI (Value.slice Ao20 (g19).length co21) g19, Cel b15 #[Value.int .i64 y12.what, Value.int .i64 y12.h, Value.int .i64 y12.id, Value.int .u64 y12.m.clock, Value.int .i64 y12.m.site.f, Value.int .i64 y12.m.site.pc] 34, allR (List.map DefR dl_), PoolR n8 n9 u84]) (hW.pick [0, 1, 2, 3, 4, 5] (by decide) rfl) ⟨false, trivial, by rfl, rfl⟩ ?_ ?_ ?_
                             · skip
                               clear hA ac hW; intro l_100 rd_100 bs_100 pre_ x_ Hk_ w101 T_100 ac hrd_100 hbs_100 hbr_100 hok_ hJ_ hA hW hB_100 hT_100
                               obtain ⟨bd, _, hbd, rfl⟩ := hJ_
                               obtain ⟨y102, h_⟩ : ∃ y_, y_ = x_ := ⟨_, rfl⟩; subst h_
                               replace hA : Fm 133 [] [(0, Value.slice (some ⟨b13, o14, none⟩) l.length c_l), (3, Value.pointer (some ⟨b1, 0, none⟩)), (4, Value.bool false), (5, Value.pointer (some ⟨n8, 0, none⟩)), (6, Value.int .i64 ((made : Int) - 1)), (7, Value.int .i64 ((k : Nat) : Int)), (8, Value.pointer (some ⟨b15, 0, none⟩)), (9, Value.slice Ao20 (g19).length co21), (13, Value.func (.func 31) #[] lb95), (14, Value.pointer (some ⟨b97, 0, none⟩)), (31, Value.int .i64 ((k : Nat) : Int)), (32, Value.slice (some ⟨b13, o14, none⟩) l.length c_l), (33, Value.int .i64 ((l.length : Nat) : Int)), (34, Value.bool (decide ((((k : Nat) : Int) : Int) < (((l.length : Nat) : Int) : Int)))), (37, Value.slice (some ⟨b13, o14, none⟩) l.length c_l), (38, Value.int .i64 ((k : Nat) : Int)), (39, Value.pointer (some ⟨b13, o14 + k * 6, none⟩)), (40, Value.agg #[Value.int .i64 y12.what, Value.int .i64 y12.h, Value.int .i64 y12.id, Value.int .u64 y12.m.clock, Value.int .i64 y12.m.site.f, Value.int .i64 y12.m.site.pc]), (41, Value.pointer (some ⟨n8, 0, none⟩)), (42, Value.slice Ao20 (g19).length co21), (43, Value.pointer (some ⟨b15, 0, none⟩)), (44, Value.int .i64 y12.what), (53, Value.bool ((y12.what : Int) == (0 : Int))), (54, Value.bool ((y12.what : Int) == (0 : Int))), (81, Value.bool ((y12.what : Int) == (5 : Int))), (82, Value.bool ((y12.what : Int) == (5 : Int))), (83, Value.pointer (some ⟨n8, 0, none⟩)), (84, Value.pointer (some ⟨b15, 1, none⟩)), (85, Value.int .i64 y12.h), (86, Value.int .i64 u85), (87, Value.int .i64 (u85)), (88, Value.bool (((u85) : Int) == (0 : Int))), (89, Value.int .i64 made), (90, Value.int .i64 ((made : Int) - 1)), (91, Value.pointer (some ⟨n8, 0, none⟩)), (92, Value.slice Ao89 (g88).length co90), (93, Value.int .i64 (((g88).length : Nat) : Int)), (94, Value.int .i64 ((made : Int) - 1)), (95, Value.bool (((((g88).length : Nat) : Int) : Int) != ((made : Int) - 1 : Int))), (96, Value.pointer (some ⟨n8, 0, none⟩)), (97, Value.pointer (some ⟨b15, 1, none⟩)), (98, Value.int .i64 y12.h), (99, Value.func (.func 31) #[] lb95), (100, Value.func (.func 31) #[] lb95), (101, Value.bool false), (102, Value.func (.func 31) #[] lb95), (103, Value.int .i64 y102.1), (104, y102.2.v)] ac := hA.sub ⟨⟨by kernel_rfl, by kernel_rfl⟩, ⟨by kernel_rfl, by kernel_rfl⟩, ⟨by kernel_rfl, by kernel_rfl⟩, ⟨by kernel_rfl, by kernel_rfl⟩, ⟨by kernel_rfl, by kernel_rfl⟩, ⟨by kernel_rfl, by kernel_rfl⟩, ⟨by kernel_rfl, by kernel_rfl⟩, ⟨by kernel_rfl, by kernel_rfl⟩, ⟨by kernel_rfl, by kernel_rfl⟩, ⟨by kernel_rfl, by kernel_rfl⟩, ⟨by kernel_rfl, by kernel_rfl⟩, ⟨by kernel_rfl, by kernel_rfl⟩, ⟨by kernel_rfl, by kernel_rfl⟩, ⟨by kernel_rfl, by kernel_rfl⟩, ⟨by kernel_rfl, by kernel_rfl⟩, ⟨by kernel_rfl, by kernel_rfl⟩, ⟨by kernel_rfl, by kernel_rfl⟩, ⟨by kernel_rfl, by kernel_rfl⟩, ⟨by kernel_rfl, by kernel_rfl⟩, ⟨by kernel_rfl, by kernel_rfl⟩, ⟨by kernel_rfl, by kernel_rfl⟩, ⟨by kernel_rfl, by kernel_rfl⟩, ⟨by kernel_rfl, by kernel_rfl⟩, ⟨by kernel_rfl, by kernel_rfl⟩, ⟨by kernel_rfl, by kernel_rfl⟩, ⟨by kernel_rfl, by kernel_rfl⟩, ⟨by kernel_rfl, by kernel_rfl⟩, ⟨by kernel_rfl, by kernel_rfl⟩, ⟨by kernel_rfl, by kernel_rfl⟩, ⟨by kernel_rfl, by kernel_rfl⟩, ⟨by kernel_rfl, by kernel_rfl⟩, ⟨by kernel_rfl, by kernel_rfl⟩, ⟨by kernel_rfl, by kernel_rfl⟩, ⟨by kernel_rfl, by kernel_rfl⟩, ⟨by kernel_rfl, by kernel_rfl⟩, ⟨by kernel_rfl, by kernel_rfl⟩, ⟨by kernel_rfl, by kernel_rfl⟩, ⟨by kernel_rfl, by kernel_rfl⟩, ⟨by kernel_rfl, by kernel_rfl⟩, ⟨by kernel_rfl, by kernel_rfl⟩, ⟨by kernel_rfl, by kernel_rfl⟩, ⟨by kernel_rfl, by kernel_rfl⟩, ⟨by kernel_rfl, by kernel_rfl⟩, ⟨by kernel_rfl, by kernel_rfl⟩, ⟨by kernel_rfl, by kernel_rfl⟩, ⟨by kernel_rfl, by kernel_rfl⟩, ⟨by kernel_rfl, by kernel_rfl⟩, ⟨by kernel_rfl, by kernel_rfl⟩, trivial⟩
                               obtain ⟨hx0, hx1⟩ := each_id (fun m hm => (hK4' _ m hm).2) hok_
                               refine wpIn_seq ?_
                               refine wpIn_region_lit ?_
                               refine st_rdF (v := Value.int .i64 y102.1) hA (by kernel_rfl) (by kernel_rfl) (by kernel_rfl) (by kernel_rfl) hW.cls (Rd.pure fun _ => by kernel_rfl) ?_; clear hA ac; intro ac hA
                               refine wpListIn_nil ?_
                               refine thenN ?_
                               refine wpIn_region_lit ?_
                               refine stF hA (by kernel_rfl) (by kernel_rfl) (by kernel_rfl) (by kernel_rfl) (RunsF.of (Runs.cells (fun b => Value.pointer (some ⟨b, 0, none⟩)) #[Value.int .u64 0, Value.int .i64 0, Value.int .i64 0] 32 (fun _ => by kernel_rfl) hW ?_)); clear hA ac hW; intro b103 w104 hW hb103 hfw104 ac hA
                               refine stF hA (by kernel_rfl) (by kernel_rfl) (by kernel_rfl) (by kernel_rfl) (RunsF.of (Runs.store (v := y102.2.v) (b := b103) (j := 0) (n := 3) (cs' := #[Value.int .u64 y102.2.clock, Value.int .i64 y102.2.site.f, Value.int .i64 y102.2.site.pc]) (H' := [Cel b103 #[Value.int .u64 y102.2.clock, Value.int .i64 y102.2.site.f, Value.int .i64 y102.2.site.pc] 32, rd_100, Cel b97 #[Value.bool bd] 4]) (by kernel_rfl) (by kernel_rfl) (by kernel_rfl) (by kernel_rfl) (by kernel_rfl) hW 0 (by rfl) (Nat.le_of_ble_eq_true (by kernel_rfl)) (by kernel_rfl) (by rfl) ?_)); clear hA ac hW; intro w105 hW ac hA
                               refine wpListIn_nil ?_
                               refine thenN ?_
                               refine begun (bs := bs_100) (H' := [Cel b103 #[Value.int .u64 y102.2.clock, Value.int .i64 y102.2.site.f, Value.int .i64 y102.2.site.pc] 32, bs_100, Cel b97 #[Value.bool bd] 4]) hW 1 rfl (fun b hb => by rw [hbs_100] at hb; rw [hrd_100]; exact hb) rfl ?_; clear hW; intro w106 hW
                               refine wpIn_block ?_
                               refine wpIn_seq ?_
                               refine wpIn_region_lit ?_
                               refine st_rdF (v := Value.int .u64 0) hA (by kernel_rfl) (by kernel_rfl) (by kernel_rfl) (by kernel_rfl) hW.cls (Rd.pure fun _ => by kernel_rfl) ?_; clear hA ac; intro ac hA
                               refine wpListIn_nil ?_
                               refine thenN ?_
                               refine wpIn_seq ?_
                               refine wpIn_seq ?_
                               refine wpIn_region_lit ?_
                               refine st_rdF (v := Value.int .i64 y102.1) hA (by kernel_rfl) (by kernel_rfl) (by kernel_rfl) (by kernel_rfl) hW.cls (Rd.pure fun _ => by kernel_rfl) ?_; clear hA ac; intro ac hA
                               refine st_rdF (v := Value.slice A_c c.length c_c) hA (by kernel_rfl) (by kernel_rfl) (by kernel_rfl) (by kernel_rfl) hW.cls (Rd.load (b := b1) (i := 0) (by kernel_rfl) (fun _ hw => show _ = _ from (hw.1).getG 1 rfl) (by kernel_rfl)) ?_; clear hA ac; intro ac hA
                               refine st_rdF (v := Value.int .i64 ((c.length : Nat) : Int)) hA (by kernel_rfl) (by kernel_rfl) (by kernel_rfl) (by kernel_rfl) hW.cls (Rd.pure fun _ => by kernel_rfl) ?_; clear hA ac; intro ac hA
                               refine st_rdF (v := Value.bool (decide ((y102.1 : Int) < (((c.length : Nat) : Int) : Int)))) hA (by kernel_rfl) (by kernel_rfl) (by kernel_rfl) (by kernel_rfl) hW.cls (Rd.pure fun _ => by kernel_rfl) ?_; clear hA ac; intro ac hA
                               refine wpListIn_nil ?_
                               refine thenN ?_
                               refine wpIn_cond_split (t := decide ((y102.1 : Int) < (((c.length : Nat) : Int) : Int))) (hA.eval (by kernel_rfl)) (fun h107 => ?_) (fun h107 => ?_)
                               · skip
                                 have h107 := of_decide_eq_true h107
                                 first
                                 | (exfalso; clear hA hW; omega)
                                 | (
                                   refine wpIn_region_lit ?_
                                   refine st_rdF (v := Value.slice A_c c.length c_c) hA (by kernel_rfl) (by kernel_rfl) (by kernel_rfl) (by kernel_rfl) hW.cls (Rd.load (b := b1) (i := 0) (by kernel_rfl) (fun _ hw => show _ = _ from (hw.1).getG 1 rfl) (by kernel_rfl)) ?_; clear hA ac; intro ac hA
                                   refine st_rdF (v := Value.int .i64 y102.1) hA (by kernel_rfl) (by kernel_rfl) (by kernel_rfl) (by kernel_rfl) hW.cls (Rd.pure fun _ => by kernel_rfl) ?_; clear hA ac; intro ac hA
                                   obtain ⟨y108, hy108⟩ : ∃ y, c[Int.toNat (y102.1)]? = some y := ⟨_, List.getElem?_eq_getElem (by first | omega | (simp; done) | (simp; omega))⟩
                                   obtain ⟨b109, o110, rfl, hbb109⟩ := row_some ((hW).getG 2 rfl) hy108
                                   refine st_rdF (v := Value.pointer (some ⟨b109, o110 + (Int.toNat (y102.1)) * 1, none⟩)) hA (by kernel_rfl) (by kernel_rfl) (by kernel_rfl) (by kernel_rfl) hW.cls (Rd.indexAddrI (e := 28) (sz := 1) (b := b109) (off := o110) (n := c.length) (c := c_c) (k := y102.1) (by kernel_rfl) (by kernel_rfl) (by omega) (by first | omega | (simp; done) | (simp; omega)) (fun _ => by kernel_rfl) (fun _ => by kernel_rfl)) ?_; clear hA ac; intro ac hA
                                   refine st_rdF (v := Value.int .u64 y108) hA (by kernel_rfl) (by kernel_rfl) (by kernel_rfl) (by kernel_rfl) hW.cls (Rd.loadRow (b := b109) (i := o110 + (Int.toNat (y102.1)) * 1) (xs := [Value.int .u64 y108]) (by kernel_rfl) (fun _ hw => row_ld ((hw.1).getG 2 rfl) hy108 (Fr.refl No _) (fun h => h) 0 1 (by kernel_rfl)) (by kernel_rfl)) ?_; clear hA ac; intro ac hA
                                   refine st_rdF (v := Value.int .u64 y108) hA (by kernel_rfl) (by kernel_rfl) (by kernel_rfl) (by kernel_rfl) hW.cls (Rd.pure fun _ => by kernel_rfl) ?_; clear hA ac; intro ac hA
                                   refine wpListIn_nil ?_
                                   refine thenN ?_
                                   have hg_ := getC_at hx0 hy108
                                   refine wpIn_region_lit ?_
                                   refine st_rdF (v := Value.bool bd) hA (by kernel_rfl) (by kernel_rfl) (by kernel_rfl) (by kernel_rfl) hW.cls (Rd.load (b := b97) (i := 0) (by kernel_rfl) (fun _ hw => (hw.1).cel 2 rfl) (by kernel_rfl)) ?_; clear hA ac; intro ac hA
                                   refine st_rdF (v := Value.bool bd) hA (by kernel_rfl) (by kernel_rfl) (by kernel_rfl) (by kernel_rfl) hW.cls (Rd.pure fun _ => by kernel_rfl) ?_; clear hA ac; intro ac hA
                                   rcases Bool.eq_false_or_eq_true (bd) with h111 | h111
                                   · skip
                                     rw [h111] at hA hW
                                     first
                                     | (exfalso; clear hA hW; omega)
                                     | (
                                       refine st_skipF hA (by kernel_rfl) (by kernel_rfl) ?_; clear hA ac; intro ac hA
                                       refine st_skipF hA (by kernel_rfl) (by kernel_rfl) ?_; clear hA ac; intro ac hA
                                       refine st_skipF hA (by kernel_rfl) (by kernel_rfl) ?_; clear hA ac; intro ac hA
                                       refine st_skipF hA (by kernel_rfl) (by kernel_rfl) ?_; clear hA ac; intro ac hA
                                       refine st_rdF (v := Value.bool true) hA (by kernel_rfl) (by kernel_rfl) (by kernel_rfl) (by kernel_rfl) hW.cls (Rd.pure fun _ => by kernel_rfl) ?_; clear hA ac; intro ac hA
                                       refine stF hA (by kernel_rfl) (by kernel_rfl) (by kernel_rfl) (by kernel_rfl) (RunsF.of (Runs.store (v := Value.bool true) (b := b97) (j := 0) (n := 1) (cs' := #[Value.bool true]) (H' := [Cel b103 #[Value.int .u64 y102.2.clock, Value.int .i64 y102.2.site.f, Value.int .i64 y102.2.site.pc] 32, bs_100, Cel b97 #[Value.bool true] 4]) (by kernel_rfl) (by kernel_rfl) (by kernel_rfl) (by kernel_rfl) (by kernel_rfl) hW 2 (by rfl) (Nat.le_of_ble_eq_true (by kernel_rfl)) (by kernel_rfl) (by rfl) ?_)); clear hA ac hW; intro w112 hW ac hA
                                       refine wpListIn_nil ?_
                                       refine blkN ?_
                                       exact ⟨_, ⟨true, trivial, by rw [any_snoc, ← hbd]; first | (rw [h111]; rfl) | (rw [h111, hg_]; simp; done) | (rw [h111, ← hg_]; simp; done), rfl⟩, (hW.pick [1, 2] (by decide) rfl).pickG [0, 1, 2, 3] rfl⟩)
                                   · skip
                                     rw [h111] at hA hW
                                     first
                                     | (exfalso; clear hA hW; omega)
                                     | (
                                       refine st_rdF (v := Value.pointer (some ⟨b103, 0, none⟩)) hA (by kernel_rfl) (by kernel_rfl) (by kernel_rfl) (by kernel_rfl) hW.cls (Rd.pure fun _ => by kernel_rfl) ?_; clear hA ac; intro ac hA
                                       refine st_rdF (v := Value.int .u64 y102.2.clock) hA (by kernel_rfl) (by kernel_rfl) (by kernel_rfl) (by kernel_rfl) hW.cls (Rd.load (b := b103) (i := 0) (by kernel_rfl) (fun _ hw => (hw.1).cel 0 rfl) (by kernel_rfl)) ?_; clear hA ac; intro ac hA
                                       refine st_rdF (v := Value.int .u64 y108) hA (by kernel_rfl) (by kernel_rfl) (by kernel_rfl) (by kernel_rfl) hW.cls (Rd.pure fun _ => by kernel_rfl) ?_; clear hA ac; intro ac hA
                                       refine st_rdF (v := Value.bool (decide ((y102.2.clock : Int) > (y108 : Int)))) hA (by kernel_rfl) (by kernel_rfl) (by kernel_rfl) (by kernel_rfl) hW.cls (Rd.pure fun _ => by kernel_rfl) ?_; clear hA ac; intro ac hA
                                       refine st_rdF (v := Value.bool (decide ((y102.2.clock : Int) > (y108 : Int)))) hA (by kernel_rfl) (by kernel_rfl) (by kernel_rfl) (by kernel_rfl) hW.cls (Rd.pure fun _ => by kernel_rfl) ?_; clear hA ac; intro ac hA
                                       refine stF hA (by kernel_rfl) (by kernel_rfl) (by kernel_rfl) (by kernel_rfl) (RunsF.of (Runs.store (v := Value.bool (decide ((y102.2.clock : Int) > (y108 : Int)))) (b := b97) (j := 0) (n := 1) (cs' := #[Value.bool (decide ((y102.2.clock : Int) > (y108 : Int)))]) (H' := [Cel b103 #[Value.int .u64 y102.2.clock, Value.int .i64 y102.2.site.f, Value.int .i64 y102.2.site.pc] 32, bs_100, Cel b97 #[Value.bool (decide ((y102.2.clock : Int) > (y108 : Int)))] 4]) (by kernel_rfl) (by kernel_rfl) (by kernel_rfl) (by kernel_rfl) (by kernel_rfl) hW 2 (by rfl) (Nat.le_of_ble_eq_true (by kernel_rfl)) (by kernel_rfl) (by rfl) ?_)); clear hA ac hW; intro w113 hW ac hA
                                       refine wpListIn_nil ?_
                                       refine blkN ?_
                                       exact ⟨_, ⟨decide ((y102.2.clock : Int) > (y108 : Int)), trivial, by rw [any_snoc, ← hbd]; first | (rw [h111]; rfl) | (rw [h111, hg_]; simp; done) | (rw [h111, ← hg_]; simp; done), rfl⟩, (hW.pick [1, 2] (by decide) rfl).pickG [0, 1, 2, 3] rfl⟩))
                               · skip
                                 have h107 := of_decide_eq_false h107
                                 first
                                 | (exfalso; clear hA hW; omega)
                                 | (
                                   refine wpIn_skip ?_
                                   refine thenN ?_
                                   have hg_ := getC_no (c := c) (i := y102.1) (.inr (by omega))
                                   refine wpIn_region_lit ?_
                                   refine st_rdF (v := Value.bool bd) hA (by kernel_rfl) (by kernel_rfl) (by kernel_rfl) (by kernel_rfl) hW.cls (Rd.load (b := b97) (i := 0) (by kernel_rfl) (fun _ hw => (hw.1).cel 2 rfl) (by kernel_rfl)) ?_; clear hA ac; intro ac hA
                                   refine st_rdF (v := Value.bool bd) hA (by kernel_rfl) (by kernel_rfl) (by kernel_rfl) (by kernel_rfl) hW.cls (Rd.pure fun _ => by kernel_rfl) ?_; clear hA ac; intro ac hA
                                   rcases Bool.eq_false_or_eq_true (bd) with h114 | h114
                                   · skip
                                     rw [h114] at hA hW
                                     first
                                     | (exfalso; clear hA hW; omega)
                                     | (
                                       refine st_skipF hA (by kernel_rfl) (by kernel_rfl) ?_; clear hA ac; intro ac hA
                                       refine st_skipF hA (by kernel_rfl) (by kernel_rfl) ?_; clear hA ac; intro ac hA
                                       refine st_skipF hA (by kernel_rfl) (by kernel_rfl) ?_; clear hA ac; intro ac hA
                                       refine st_skipF hA (by kernel_rfl) (by kernel_rfl) ?_; clear hA ac; intro ac hA
                                       refine st_rdF (v := Value.bool true) hA (by kernel_rfl) (by kernel_rfl) (by kernel_rfl) (by kernel_rfl) hW.cls (Rd.pure fun _ => by kernel_rfl) ?_; clear hA ac; intro ac hA
                                       refine stF hA (by kernel_rfl) (by kernel_rfl) (by kernel_rfl) (by kernel_rfl) (RunsF.of (Runs.store (v := Value.bool true) (b := b97) (j := 0) (n := 1) (cs' := #[Value.bool true]) (H' := [Cel b103 #[Value.int .u64 y102.2.clock, Value.int .i64 y102.2.site.f, Value.int .i64 y102.2.site.pc] 32, bs_100, Cel b97 #[Value.bool true] 4]) (by kernel_rfl) (by kernel_rfl) (by kernel_rfl) (by kernel_rfl) (by kernel_rfl) hW 2 (by rfl) (Nat.le_of_ble_eq_true (by kernel_rfl)) (by kernel_rfl) (by rfl) ?_)); clear hA ac hW; intro w115 hW ac hA
                                       refine wpListIn_nil ?_
                                       refine blkN ?_
                                       exact ⟨_, ⟨true, trivial, by rw [any_snoc, ← hbd]; first | (rw [h114]; rfl) | (rw [h114, hg_]; simp; done) | (rw [h114, ← hg_]; simp; done), rfl⟩, (hW.pick [1, 2] (by decide) rfl).pickG [0, 1, 2, 3] rfl⟩)
                                   · skip
                                     rw [h114] at hA hW
                                     first
                                     | (exfalso; clear hA hW; omega)
                                     | (
                                       refine st_rdF (v := Value.pointer (some ⟨b103, 0, none⟩)) hA (by kernel_rfl) (by kernel_rfl) (by kernel_rfl) (by kernel_rfl) hW.cls (Rd.pure fun _ => by kernel_rfl) ?_; clear hA ac; intro ac hA
                                       refine st_rdF (v := Value.int .u64 y102.2.clock) hA (by kernel_rfl) (by kernel_rfl) (by kernel_rfl) (by kernel_rfl) hW.cls (Rd.load (b := b103) (i := 0) (by kernel_rfl) (fun _ hw => (hw.1).cel 0 rfl) (by kernel_rfl)) ?_; clear hA ac; intro ac hA
                                       refine st_rdF (v := Value.int .u64 0) hA (by kernel_rfl) (by kernel_rfl) (by kernel_rfl) (by kernel_rfl) hW.cls (Rd.pure fun _ => by kernel_rfl) ?_; clear hA ac; intro ac hA
                                       refine st_rdF (v := Value.bool (decide ((y102.2.clock : Int) > (0 : Int)))) hA (by kernel_rfl) (by kernel_rfl) (by kernel_rfl) (by kernel_rfl) hW.cls (Rd.pure fun _ => by kernel_rfl) ?_; clear hA ac; intro ac hA
                                       refine st_rdF (v := Value.bool (decide ((y102.2.clock : Int) > (0 : Int)))) hA (by kernel_rfl) (by kernel_rfl) (by kernel_rfl) (by kernel_rfl) hW.cls (Rd.pure fun _ => by kernel_rfl) ?_; clear hA ac; intro ac hA
                                       refine stF hA (by kernel_rfl) (by kernel_rfl) (by kernel_rfl) (by kernel_rfl) (RunsF.of (Runs.store (v := Value.bool (decide ((y102.2.clock : Int) > (0 : Int)))) (b := b97) (j := 0) (n := 1) (cs' := #[Value.bool (decide ((y102.2.clock : Int) > (0 : Int)))]) (H' := [Cel b103 #[Value.int .u64 y102.2.clock, Value.int .i64 y102.2.site.f, Value.int .i64 y102.2.site.pc] 32, bs_100, Cel b97 #[Value.bool (decide ((y102.2.clock : Int) > (0 : Int)))] 4]) (by kernel_rfl) (by kernel_rfl) (by kernel_rfl) (by kernel_rfl) (by kernel_rfl) hW 2 (by rfl) (Nat.le_of_ble_eq_true (by kernel_rfl)) (by kernel_rfl) (by rfl) ?_)); clear hA ac hW; intro w116 hW ac hA
                                       refine wpListIn_nil ?_
                                       refine blkN ?_
                                       exact ⟨_, ⟨decide ((y102.2.clock : Int) > (0 : Int)), trivial, by rw [any_snoc, ← hbd]; first | (rw [h114]; rfl) | (rw [h114, hg_]; simp; done) | (rw [h114, ← hg_]; simp; done), rfl⟩, (hW.pick [1, 2] (by decide) rfl).pickG [0, 1, 2, 3] rfl⟩))
                             · skip
                               clear hA ac hW; intro D117 xs_ Hk_ w118 ac hS_ hJ_ hA hW
                               obtain ⟨bd, _, hbd, rfl⟩ := hJ_
                               replace hW : Ws w No [Cel b97 #[Value.bool bd] 4, DefR D117, rowR 3 1 enI (Value.slice Ao89 (g88).length co90) g88, rowR 3 1 enI (Value.slice Ao20 (g19).length co21) g19, Cel b15 #[Value.int .i64 y12.what, Value.int .i64 y12.h, Value.int .i64 y12.id, Value.int .u64 y12.m.clock, Value.int .i64 y12.m.site.f, Value.int .i64 y12.m.site.pc] 34, allR (List.map DefR dl_), PoolR n8 n9 u84] [g96, Cel b1 #[Value.slice A_c c.length c_c] 24, roR A_c 1 enU c, roR (some ⟨b13, o14, none⟩) 6 enAct23 l] w118 := hW
                               refine blkN ?_
                               refine thenN ?_
                               refine wpIn_seq ?_
                               refine wpIn_region_lit ?_
                               refine st_rdF (v := Value.pointer (some ⟨n8, 0, none⟩)) hA (by kernel_rfl) (by kernel_rfl) (by kernel_rfl) (by kernel_rfl) hW.cls (Rd.pure fun _ => by kernel_rfl) ?_; clear hA ac; intro ac hA
                               refine st_rdF (v := Value.pointer (some ⟨b15, 1, none⟩)) hA (by kernel_rfl) (by kernel_rfl) (by kernel_rfl) (by kernel_rfl) hW.cls (Rd.pure fun _ => by kernel_rfl) ?_; clear hA ac; intro ac hA
                               refine st_rdF (v := Value.int .i64 y12.h) hA (by kernel_rfl) (by kernel_rfl) (by kernel_rfl) (by kernel_rfl) hW.cls (Rd.load (b := b15) (i := 1) (by kernel_rfl) (fun _ hw => (hw.1).cel 4 rfl) (by kernel_rfl)) ?_; clear hA ac; intro ac hA
                               refine st_rdF (v := Value.slice A_c c.length c_c) hA (by kernel_rfl) (by kernel_rfl) (by kernel_rfl) (by kernel_rfl) hW.cls (Rd.load (b := b1) (i := 0) (by kernel_rfl) (fun _ hw => show _ = _ from (hw.1).getG 1 rfl) (by kernel_rfl)) ?_; clear hA ac; intro ac hA
                               refine stF hA (by kernel_rfl) (by kernel_rfl) (by kernel_rfl) (by kernel_rfl) (RunsF.of (Runs.call (fun _ => by kernel_rfl) (e_beyond n8 n9 u84 (y12.h) A_c c_c c w118 ((hW).get 6 rfl) ((hW).lt _ (List.mem_of_getElem? (i := 6) rfl)) ((hW).getG 2 rfl) (by first | assumption | omega | (simp; omega) | simp) (by first | omega | exact (fun e he => by have := hK3 e he; omega) | exact (fun e he => by have := hK3' e he; omega) | exact hK4' _ | exact (Act23.bounds (hwf _ (List.mem_of_getElem? ‹_›))).1 | exact (Act23.bounds (hwf _ (List.mem_of_getElem? ‹_›))).2 | assumption) (by first | omega | exact (fun e he => by have := hK3 e he; omega) | exact (fun e he => by have := hK3' e he; omega) | exact hK4' _ | exact (Act23.bounds (hwf _ (List.mem_of_getElem? ‹_›))).1 | exact (Act23.bounds (hwf _ (List.mem_of_getElem? ‹_›))).2 | assumption)) ?_))
                               rintro _ w119 ⟨g120, g121, g122, rfl, hw119_hB, hfw119⟩; refine ⟨_, rfl, ?_⟩; have hW0 := hW; have hW := hW0.call hfw119
                               clear hW0 hA ac; intro ac hA
                               refine st_rdF (v := Value.tuple #[Value.int .i64 g120, g121.v, Value.bool g122]) hA (by kernel_rfl) (by kernel_rfl) (by kernel_rfl) (by kernel_rfl) hW.cls (Rd.pure fun _ => by kernel_rfl) ?_; clear hA ac; intro ac hA
                               refine st_rdF (v := Value.int .i64 g120) hA (by kernel_rfl) (by kernel_rfl) (by kernel_rfl) (by kernel_rfl) hW.cls (Rd.pure fun _ => by kernel_rfl) ?_; clear hA ac; intro ac hA
                               refine st_rdF (v := g121.v) hA (by kernel_rfl) (by kernel_rfl) (by kernel_rfl) (by kernel_rfl) hW.cls (Rd.pure fun _ => by kernel_rfl) ?_; clear hA ac; intro ac hA
                               refine st_rdF (v := Value.bool g122) hA (by kernel_rfl) (by kernel_rfl) (by kernel_rfl) (by kernel_rfl) hW.cls (Rd.pure fun _ => by kernel_rfl) ?_; clear hA ac; intro ac hA
                               refine stF hA (by kernel_rfl) (by kernel_rfl) (by kernel_rfl) (by kernel_rfl) (RunsF.of (Runs.cells (fun b => Value.pointer (some ⟨b, 0, none⟩)) #[Value.int .u64 0, Value.int .i64 0, Value.int .i64 0] 32 (fun _ => by kernel_rfl) hW ?_)); clear hA ac hW; intro b123 w124 hW hb123 hfw124 ac hA
                               refine st_rdF (v := Value.int .i64 g120) hA (by kernel_rfl) (by kernel_rfl) (by kernel_rfl) (by kernel_rfl) hW.cls (Rd.pure fun _ => by kernel_rfl) ?_; clear hA ac; intro ac hA
                               refine stF hA (by kernel_rfl) (by kernel_rfl) (by kernel_rfl) (by kernel_rfl) (RunsF.of (Runs.store (v := g121.v) (b := b123) (j := 0) (n := 3) (cs' := #[Value.int .u64 g121.clock, Value.int .i64 g121.site.f, Value.int .i64 g121.site.pc]) (H' := [Cel b123 #[Value.int .u64 g121.clock, Value.int .i64 g121.site.f, Value.int .i64 g121.site.pc] 32, Cel b97 #[Value.bool bd] 4, DefR D117, rowR 3 1 enI (Value.slice Ao89 (g88).length co90) g88, rowR 3 1 enI (Value.slice Ao20 (g19).length co21) g19, Cel b15 #[Value.int .i64 y12.what, Value.int .i64 y12.h, Value.int .i64 y12.id, Value.int .u64 y12.m.clock, Value.int .i64 y12.m.site.f, Value.int .i64 y12.m.site.pc] 34, allR (List.map DefR dl_), PoolR n8 n9 u84]) (by kernel_rfl) (by kernel_rfl) (by kernel_rfl) (by kernel_rfl) (by kernel_rfl) hW 0 (by rfl) (Nat.le_of_ble_eq_true (by kernel_rfl)) (by kernel_rfl) (by rfl) ?_)); clear hA ac hW; intro w125 hW ac hA
                               refine st_rdF (v := Value.bool g122) hA (by kernel_rfl) (by kernel_rfl) (by kernel_rfl) (by kernel_rfl) hW.cls (Rd.pure fun _ => by kernel_rfl) ?_; clear hA ac; intro ac hA
                               refine wpListIn_nil ?_
                               refine thenN ?_
                               refine wpIn_seq ?_
                               refine wpIn_region_lit ?_
                               refine st_rdF (v := Value.bool g122) hA (by kernel_rfl) (by kernel_rfl) (by kernel_rfl) (by kernel_rfl) hW.cls (Rd.pure fun _ => by kernel_rfl) ?_; clear hA ac; intro ac hA
                               refine st_rdF (v := Value.bool bd) hA (by kernel_rfl) (by kernel_rfl) (by kernel_rfl) (by kernel_rfl) hW.cls (Rd.load (b := b97) (i := 0) (by kernel_rfl) (fun _ hw => (hw.1).cel 1 rfl) (by kernel_rfl)) ?_; clear hA ac; intro ac hA
                               refine st_rdF (v := Value.bool (!(g122 == bd))) hA (by kernel_rfl) (by kernel_rfl) (by kernel_rfl) (by kernel_rfl) hW.cls (Rd.pure fun _ => by kernel_rfl) ?_; clear hA ac; intro ac hA
                               refine wpListIn_nil ?_
                               refine thenN ?_
                               refine wpIn_cond_split (t := !(g122 == bd)) (hA.eval (by kernel_rfl)) (fun h126 => ?_) (fun h126 => ?_)
                               · skip
                                 have h126 := bbne_t h126
                                 first
                                 | (exfalso; clear hA hW; omega)
                                 | (exfalso; clear hA hW; exact absurd (bey_each hw119_hB hS_ hbd) h126; done)
                                 | (
                                   refine wpIn_seq ?_
                                   refine wpIn_region_lit ?_
                                   refine st_rdF (v := Value.bool false) hA (by kernel_rfl) (by kernel_rfl) (by kernel_rfl) (by kernel_rfl) hW.cls (Rd.pure fun _ => by kernel_rfl) ?_; clear hA ac; intro ac hA
                                   refine wpListIn_nil ?_
                                   refine thenN ?_
                                   refine wpIn_ret ?_
                                   refine blkR ?_
                                   refine thenR ?_
                                   refine thenR ?_
                                   refine blkR ?_
                                   refine thenR ?_
                                   refine retF (.inl rfl) hA ?_
                                   refine leaveD (H' := [Cel b123 #[Value.int .u64 g121.clock, Value.int .i64 g121.site.f, Value.int .i64 g121.site.pc] 32, Cel b97 #[Value.bool bd] 4, rowR 3 1 enI (Value.slice Ao89 (g88).length co90) g88, rowR 3 1 enI (Value.slice Ao20 (g19).length co21) g19, Cel b15 #[Value.int .i64 y12.what, Value.int .i64 y12.h, Value.int .i64 y12.id, Value.int .u64 y12.m.clock, Value.int .i64 y12.m.site.f, Value.int .i64 y12.m.site.pc] 34, allR (List.map DefR dl_), PoolR n8 n9 u84]) hW 2 rfl rfl ?_; clear hW; intro w127 hW
                                   refine leaveDs (hW.pick [5, 0, 1, 2, 3, 4, 6] (by decide) rfl) ?_; clear hW; intro w128 hW
                                   refine leave1 (v := Value.bool false) (by rfl) (GotF.tmp hA (by kernel_rfl) (by kernel_rfl)) ?_
                                   clear hA
                                   exact ⟨retv (by rfl), hW.fr⟩)
                               · skip
                                 have h126 := bbne_f h126
                                 first
                                 | (exfalso; clear hA hW; omega)
                                 | (exfalso; clear hA hW; exact absurd (bey_each hw119_hB hS_ hbd) h126; done)
                                 | (
                                   refine wpIn_skip ?_
                                   refine blkN ?_
                                   refine thenN ?_
                                   refine wpIn_region_lit ?_
                                   refine st_rdF (v := Value.int .i64 ((k : Nat) : Int)) hA (by kernel_rfl) (by kernel_rfl) (by kernel_rfl) (by kernel_rfl) hW.cls (Rd.pure fun _ => by kernel_rfl) ?_; clear hA ac; intro ac hA
                                   refine st_rdF (v := Value.int .i64 ((k + 1 : Nat) : Int)) hA (by kernel_rfl) (by kernel_rfl) (by kernel_rfl) (by kernel_rfl) hW.cls (Rd.pureE (v0 := Value.int .i64 (IntKind.i64.wrap ((((k : Nat) : Int) : Int) + 1))) (fun _ => by kernel_rfl) (congrArg (Value.int .i64) ((w_i64 (x := (((k : Nat) : Int) : Int) + 1) (by omega) (by omega)).trans (by omega)))) ?_; clear hA ac; intro ac hA
                                   refine st_rdF (v := Value.int .i64 ((k + 1 : Nat) : Int)) hA (by kernel_rfl) (by kernel_rfl) (by kernel_rfl) (by kernel_rfl) hW.cls (Rd.pure fun _ => by kernel_rfl) ?_; clear hA ac; intro ac hA
                                   refine wpListIn_nil ?_
                                   refine thenN ?_
                                   have hW := Ws.defCons (hW.pick [2, 6, 0, 1, 3, 4, 5, 7] (by decide) rfl)
                                   exact ⟨l.length - (k + 1), by omega, k + 1, u84, (made : Int) - 1, (D117 :: dl_), rfl, by omega, by exact hK2, by omega, hA.sub ⟨⟨by kernel_rfl, by kernel_rfl⟩, ⟨by kernel_rfl, by kernel_rfl⟩, ⟨by kernel_rfl, by kernel_rfl⟩, ⟨by kernel_rfl, by kernel_rfl⟩, ⟨by kernel_rfl, by kernel_rfl⟩, ⟨by kernel_rfl, by kernel_rfl⟩, trivial⟩, (hW.pick [0, 6] (by decide) rfl).pickG [1, 2, 3] rfl⟩)
                             · skip
                               clear hA ac hW; intro D129 c_ pre_ Hk_ w130 ac hJ_ hA hW
                               exact hJ_.elim))
                     · skip
                       have h86 := ne_of_beq_false h86
                       first
                       | (exfalso; clear hA hW; omega)
                       | (
                         refine wpIn_skip ?_
                         refine blkN ?_
                         refine thenN ?_
                         refine wpIn_seq ?_
                         refine wpIn_seq ?_
                         have hK1' := hK2.len; have hK3' := hK2.hn; have hK4' := fun g => hK2.look (by omega) (g := g)
                         refine wpIn_region_lit ?_
                         refine st_rdF (v := Value.pointer (some ⟨n8, 0, none⟩)) hA (by kernel_rfl) (by kernel_rfl) (by kernel_rfl) (by kernel_rfl) hW.cls (Rd.pure fun _ => by kernel_rfl) ?_; clear hA ac; intro ac hA
                         refine stF hA (by kernel_rfl) (by kernel_rfl) (by kernel_rfl) (by kernel_rfl) (RunsF.of (Runs.call (fun _ => by kernel_rfl) (e_live n8 n9 u84 w83 ((hW).get 3 rfl) ((hW).lt _ (List.mem_of_getElem? (i := 3) rfl)) (by first | omega | exact (fun e he => by have := hK3 e he; omega) | exact (fun e he => by have := hK3' e he; omega) | exact hK4' _ | exact (Act23.bounds (hwf _ (List.mem_of_getElem? ‹_›))).1 | exact (Act23.bounds (hwf _ (List.mem_of_getElem? ‹_›))).2 | assumption) (by first | omega | exact (fun e he => by have := hK3 e he; omega) | exact (fun e he => by have := hK3' e he; omega) | exact hK4' _ | exact (Act23.bounds (hwf _ (List.mem_of_getElem? ‹_›))).1 | exact (Act23.bounds (hwf _ (List.mem_of_getElem? ‹_›))).2 | assumption)) ?_))
                         rintro _ w131 ⟨g132, Ao133, co134, rfl, hw131_hp, hw131_hs, hcco134, hu_⟩; refine ⟨_, rfl, ?_⟩; replace hW := hW.made hu_; clear hA ac; intro ac hA
                         have hkl_g132 := hw131_hp.length_eq; rw [keys_len, vals_len] at hkl_g132
                         refine st_rdF (v := Value.int .i64 (((g132).length : Nat) : Int)) hA (by kernel_rfl) (by kernel_rfl) (by kernel_rfl) (by kernel_rfl) hW.cls (Rd.pure fun _ => by kernel_rfl) ?_; clear hA ac; intro ac hA
                         refine st_rdF (v := Value.int .i64 made) hA (by kernel_rfl) (by kernel_rfl) (by kernel_rfl) (by kernel_rfl) hW.cls (Rd.pure fun _ => by kernel_rfl) ?_; clear hA ac; intro ac hA
                         refine st_rdF (v := Value.bool (((((g132).length : Nat) : Int) : Int) != (made : Int))) hA (by kernel_rfl) (by kernel_rfl) (by kernel_rfl) (by kernel_rfl) hW.cls (Rd.pure fun _ => by kernel_rfl) ?_; clear hA ac; intro ac hA
                         refine wpListIn_nil ?_
                         refine thenN ?_
                         refine wpIn_cond_split (t := ((((g132).length : Nat) : Int) : Int) != (made : Int)) (hA.eval (by kernel_rfl)) (fun h136 => ?_) (fun h136 => ?_)
                         · skip
                           have h136 := bne_iff_ne.1 h136
                           first
                           | (exfalso; clear hA hW; omega)
                           | (
                             refine wpIn_seq ?_
                             refine wpIn_region_lit ?_
                             refine st_rdF (v := Value.bool false) hA (by kernel_rfl) (by kernel_rfl) (by kernel_rfl) (by kernel_rfl) hW.cls (Rd.pure fun _ => by kernel_rfl) ?_; clear hA ac; intro ac hA
                             refine wpListIn_nil ?_
                             refine thenN ?_
                             refine wpIn_ret ?_
                             refine thenR ?_
                             refine blkR ?_
                             refine thenR ?_
                             refine thenR ?_
                             refine blkR ?_
                             refine thenR ?_
                             refine retF (.inl rfl) hA ?_
                             refine leaveDs (hW.pick [3, 0, 1, 2, 4] (by decide) rfl) ?_; clear hW; intro w137 hW
                             refine leave1 (v := Value.bool false) (by rfl) (GotF.tmp hA (by kernel_rfl) (by kernel_rfl)) ?_
                             clear hA
                             exact ⟨retv (by rfl), hW.fr⟩)
                         · skip
                           have h136 := of_bne_f h136
                           first
                           | (exfalso; clear hA hW; omega)
                           | (
                             refine wpIn_skip ?_
                             refine thenN ?_
                             refine wpIn_seq ?_
                             refine wpIn_region_lit ?_
                             refine st_rdF (v := Value.pointer (some ⟨n8, 0, none⟩)) hA (by kernel_rfl) (by kernel_rfl) (by kernel_rfl) (by kernel_rfl) hW.cls (Rd.pure fun _ => by kernel_rfl) ?_; clear hA ac; intro ac hA
                             refine st_rdF (v := Value.pointer (some ⟨b15, 1, none⟩)) hA (by kernel_rfl) (by kernel_rfl) (by kernel_rfl) (by kernel_rfl) hW.cls (Rd.pure fun _ => by kernel_rfl) ?_; clear hA ac; intro ac hA
                             refine st_rdF (v := Value.int .i64 y12.h) hA (by kernel_rfl) (by kernel_rfl) (by kernel_rfl) (by kernel_rfl) hW.cls (Rd.load (b := b15) (i := 1) (by kernel_rfl) (fun _ hw => (hw.1).cel 2 rfl) (by kernel_rfl)) ?_; clear hA ac; intro ac hA
                             refine stF hA (by kernel_rfl) (by kernel_rfl) (by kernel_rfl) (by kernel_rfl) (RunsF.of (Runs.call (fun _ => by kernel_rfl) (e_each n8 n9 u84 (y12.h) w131 ((hW).get 4 rfl) ((hW).lt _ (List.mem_of_getElem? (i := 4) rfl)) (by first | omega | exact (fun e he => by have := hK3 e he; omega) | exact (fun e he => by have := hK3' e he; omega) | exact hK4' _ | exact (Act23.bounds (hwf _ (List.mem_of_getElem? ‹_›))).1 | exact (Act23.bounds (hwf _ (List.mem_of_getElem? ‹_›))).2 | assumption)) ?_))
                             rintro _ w138 ⟨lb139, g140, rfl, hIg140, hfg140, hfw138⟩; refine ⟨_, rfl, ?_⟩; have hW0 := hW; have hW := hW0.call hfw138; have hW := hW0.addFromAt hW hfg140 in_nil; clear hW0 hA ac; intro ac hA
                             refine st_rdF (v := Value.func (.func 31) #[] lb139) hA (by kernel_rfl) (by kernel_rfl) (by kernel_rfl) (by kernel_rfl) hW.cls (Rd.pure fun _ => by kernel_rfl) ?_; clear hA ac; intro ac hA
                             refine wpListIn_nil ?_
                             refine thenN ?_
                             refine wpIn_seq ?_
                             refine wpIn_seq ?_
                             refine wpIn_region_lit ?_
                             refine st_rdF (v := Value.func (.func 31) #[] lb139) hA (by kernel_rfl) (by kernel_rfl) (by kernel_rfl) (by kernel_rfl) hW.cls (Rd.pure fun _ => by kernel_rfl) ?_; clear hA ac; intro ac hA
                             refine st_rdF (v := Value.bool false) hA (by kernel_rfl) (by kernel_rfl) (by kernel_rfl) (by kernel_rfl) hW.cls (Rd.pure fun _ => by kernel_rfl) ?_; clear hA ac; intro ac hA
                             refine wpListIn_nil ?_
                             refine thenN ?_
                             refine wpIn_cond_false (hA.eval (by kernel_rfl)) ?_
                             refine wpIn_skip ?_
                             refine thenN ?_
                             refine wpIn_seq ?_
                             refine wpIn_region_lit ?_
                             refine stF hA (by kernel_rfl) (by kernel_rfl) (by kernel_rfl) (by kernel_rfl) (RunsF.of (Runs.cells (fun b => Value.pointer (some ⟨b, 0, none⟩)) #[Value.bool false] 4 (fun _ => by kernel_rfl) hW ?_)); clear hA ac hW; intro b141 w142 hW hb141 hfw142 ac hA
                             refine stF hA (by kernel_rfl) (by kernel_rfl) (by kernel_rfl) (by kernel_rfl) (RunsF.of (Runs.store (v := Value.bool false) (b := b141) (j := 0) (n := 1) (cs' := #[Value.bool false]) (H' := [Cel b141 #[Value.bool false] 4, rowR 3 1 enI (Value.slice Ao133 (g132).length co134) g132, rowR 3 1 enI (Value.slice Ao20 (g19).length co21) g19, Cel b15 #[Value.int .i64 y12.what, Value.int .i64 y12.h, Value.int .i64 y12.id, Value.int .u64 y12.m.clock, Value.int .i64 y12.m.site.f, Value.int .i64 y12.m.site.pc] 34, allR (List.map DefR dl_), PoolR n8 n9 u84]) (by kernel_rfl) (by kernel_rfl) (by kernel_rfl) (by kernel_rfl) (by kernel_rfl) hW 0 (by rfl) (Nat.le_of_ble_eq_true (by kernel_rfl)) (by kernel_rfl) (by rfl) ?_)); clear hA ac hW; intro w143 hW ac hA
                             refine wpListIn_nil ?_
                             refine thenN ?_
                             refine wpIn_seq ?_
                             refine wpIn_seq ?_
                             refine wpIn_region_lit ?_
                             refine st_rdF (v := Value.func (.func 31) #[] lb139) hA (by kernel_rfl) (by kernel_rfl) (by kernel_rfl) (by kernel_rfl) hW.cls (Rd.pure fun _ => by kernel_rfl) ?_; clear hA ac; intro ac hA
                             refine wpListIn_nil ?_
                             refine thenN ?_
                             refine wpIn_block ?_
                             refine wp_range (encs := (fun x_ : Int × Mark => #[Value.int .i64 x_.1, x_.2.v])) (Sx := (EachR (look (vals u84) (y12.h)))) hA (by kernel_rfl) (by kernel_rfl) (enters_of Try.func31 (by kernel_rfl) rfl) (by kernel_rfl) (fun _ => rfl) hIg140 (List.forall_mem_singleton.2 (List.mem_of_getElem? (i := 0) rfl)) (fun pre_ H_ => ∃ bd : Bool, True ∧ (bd = pre_.any fun x => decide (x.2.clock > getC c x.1)) ∧ H_ = [Cel b141 #[Value.bool bd] 4]) (fun _ _ _ => False) (H := [Cel b141 #[Value.bool false] 4]) (K := [rowR 3 1 enI (Value.slice Ao133 (g132).length co134) g132, rowR 3 1 enI (Value.slice Ao20 (g19).length co21) g19, Cel b15 #[Value.int .i64 y12.what, Value.int .i64 y12.h, Value.int .i64 y12.id, Value.int .u64 y12.m.clock, Value.int .i64 y12.m.site.f, Value.int .i64 y12.m.site.pc] 34, allR (List.map DefR dl_), PoolR n8 n9 u84]) (hW.pick [0, 1, 2, 3, 4, 5] (by decide) rfl) ⟨false, trivial, by rfl, rfl⟩ ?_ ?_ ?_
                             · skip
                               clear hA ac hW; intro l_144 rd_144 bs_144 pre_ x_ Hk_ w145 T_144 ac hrd_144 hbs_144 hbr_144 hok_ hJ_ hA hW hB_144 hT_144
                               obtain ⟨bd, _, hbd, rfl⟩ := hJ_
                               obtain ⟨y146, h_⟩ : ∃ y_, y_ = x_ := ⟨_, rfl⟩; subst h_
                               replace hA : Fm 133 [] [(0, Value.slice (some ⟨b13, o14, none⟩) l.length c_l), (3, Value.pointer (some ⟨b1, 0, none⟩)), (4, Value.bool false), (5, Value.pointer (some ⟨n8, 0, none⟩)), (6, Value.int .i64 made), (7, Value.int .i64 ((k : Nat) : Int)), (8, Value.pointer (some ⟨b15, 0, none⟩)), (9, Value.slice Ao20 (g19).length co21), (13, Value.func (.func 31) #[] lb139), (14, Value.pointer (some ⟨b141, 0, none⟩)), (31, Value.int .i64 ((k : Nat) : Int)), (32, Value.slice (some ⟨b13, o14, none⟩) l.length c_l), (33, Value.int .i64 ((l.length : Nat) : Int)), (34, Value.bool (decide ((((k : Nat) : Int) : Int) < (((l.length : Nat) : Int) : Int)))), (37, Value.slice (some ⟨b13, o14, none⟩) l.length c_l), (38, Value.int .i64 ((k : Nat) : Int)), (39, Value.pointer (some ⟨b13, o14 + k * 6, none⟩)), (40, Value.agg #[Value.int .i64 y12.what, Value.int .i64 y12.h, Value.int .i64 y12.id, Value.int .u64 y12.m.clock, Value.int .i64 y12.m.site.f, Value.int .i64 y12.m.site.pc]), (41, Value.pointer (some ⟨n8, 0, none⟩)), (42, Value.slice Ao20 (g19).length co21), (43, Value.pointer (some ⟨b15, 0, none⟩)), (44, Value.int .i64 y12.what), (53, Value.bool ((y12.what : Int) == (0 : Int))), (54, Value.bool ((y12.what : Int) == (0 : Int))), (81, Value.bool ((y12.what : Int) == (5 : Int))), (82, Value.bool ((y12.what : Int) == (5 : Int))), (83, Value.pointer (some ⟨n8, 0, none⟩)), (84, Value.pointer (some ⟨b15, 1, none⟩)), (85, Value.int .i64 y12.h), (86, Value.int .i64 u85), (87, Value.int .i64 (u85)), (88, Value.bool (((u85) : Int) == (0 : Int))), (91, Value.pointer (some ⟨n8, 0, none⟩)), (92, Value.slice Ao133 (g132).length co134), (93, Value.int .i64 (((g132).length : Nat) : Int)), (94, Value.int .i64 made), (95, Value.bool (((((g132).length : Nat) : Int) : Int) != (made : Int))), (96, Value.pointer (some ⟨n8, 0, none⟩)), (97, Value.pointer (some ⟨b15, 1, none⟩)), (98, Value.int .i64 y12.h), (99, Value.func (.func 31) #[] lb139), (100, Value.func (.func 31) #[] lb139), (101, Value.bool false), (102, Value.func (.func 31) #[] lb139), (103, Value.int .i64 y146.1), (104, y146.2.v)] ac := hA.sub ⟨⟨by kernel_rfl, by kernel_rfl⟩, ⟨by kernel_rfl, by kernel_rfl⟩, ⟨by kernel_rfl, by kernel_rfl⟩, ⟨by kernel_rfl, by kernel_rfl⟩, ⟨by kernel_rfl, by kernel_rfl⟩, ⟨by kernel_rfl, by kernel_rfl⟩, ⟨by kernel_rfl, by kernel_rfl⟩, ⟨by kernel_rfl, by kernel_rfl⟩, ⟨by kernel_rfl, by kernel_rfl⟩, ⟨by kernel_rfl, by kernel_rfl⟩, ⟨by kernel_rfl, by kernel_rfl⟩, ⟨by kernel_rfl, by kernel_rfl⟩, ⟨by kernel_rfl, by kernel_rfl⟩, ⟨by kernel_rfl, by kernel_rfl⟩, ⟨by kernel_rfl, by kernel_rfl⟩, ⟨by kernel_rfl, by kernel_rfl⟩, ⟨by kernel_rfl, by kernel_rfl⟩, ⟨by kernel_rfl, by kernel_rfl⟩, ⟨by kernel_rfl, by kernel_rfl⟩, ⟨by kernel_rfl, by kernel_rfl⟩, ⟨by kernel_rfl, by kernel_rfl⟩, ⟨by kernel_rfl, by kernel_rfl⟩, ⟨by kernel_rfl, by kernel_rfl⟩, ⟨by kernel_rfl, by kernel_rfl⟩, ⟨by kernel_rfl, by kernel_rfl⟩, ⟨by kernel_rfl, by kernel_rfl⟩, ⟨by kernel_rfl, by kernel_rfl⟩, ⟨by kernel_rfl, by kernel_rfl⟩, ⟨by kernel_rfl, by kernel_rfl⟩, ⟨by kernel_rfl, by kernel_rfl⟩, ⟨by kernel_rfl, by kernel_rfl⟩, ⟨by kernel_rfl, by kernel_rfl⟩, ⟨by kernel_rfl, by kernel_rfl⟩, ⟨by kernel_rfl, by kernel_rfl⟩, ⟨by kernel_rfl, by kernel_rfl⟩, ⟨by kernel_rfl, by kernel_rfl⟩, ⟨by kernel_rfl, by kernel_rfl⟩, ⟨by kernel_rfl, by kernel_rfl⟩, ⟨by kernel_rfl, by kernel_rfl⟩, ⟨by kernel_rfl, by kernel_rfl⟩, ⟨by kernel_rfl, by kernel_rfl⟩, ⟨by kernel_rfl, by kernel_rfl⟩, ⟨by kernel_rfl, by kernel_rfl⟩, ⟨by kernel_rfl, by kernel_rfl⟩, ⟨by kernel_rfl, by kernel_rfl⟩, ⟨by kernel_rfl, by kernel_rfl⟩, trivial⟩
                               obtain ⟨hx0, hx1⟩ := each_id (fun m hm => (hK4' _ m hm).2) hok_
                               refine wpIn_seq ?_
                               refine wpIn_region_lit ?_
                               refine st_rdF (v := Value.int .i64 y146.1) hA (by kernel_rfl) (by kernel_rfl) (by kernel_rfl) (by kernel_rfl) hW.cls (Rd.pure fun _ => by kernel_rfl) ?_; clear hA ac; intro ac hA
                               refine wpListIn_nil ?_
                               refine thenN ?_
                               refine wpIn_region_lit ?_
                               refine stF hA (by kernel_rfl) (by kernel_rfl) (by kernel_rfl) (by kernel_rfl) (RunsF.of (Runs.cells (fun b => Value.pointer (some ⟨b, 0, none⟩)) #[Value.int .u64 0, Value.int .i64 0, Value.int .i64 0] 32 (fun _ => by kernel_rfl) hW ?_)); clear hA ac hW; intro b147 w148 hW hb147 hfw148 ac hA
                               refine stF hA (by kernel_rfl) (by kernel_rfl) (by kernel_rfl) (by kernel_rfl) (RunsF.of (Runs.store (v := y146.2.v) (b := b147) (j := 0) (n := 3) (cs' := #[Value.int .u64 y146.2.clock, Value.int .i64 y146.2.site.f, Value.int .i64 y146.2.site.pc]) (H' := [Cel b147 #[Value.int .u64 y146.2.clock, Value.int .i64 y146.2.site.f, Value.int .i64 y146.2.site.pc] 32, rd_144, Cel b141 #[Value.bool bd] 4]) (by kernel_rfl) (by kernel_rfl) (by kernel_rfl) (by kernel_rfl) (by kernel_rfl) hW 0 (by rfl) (Nat.le_of_ble_eq_true (by kernel_rfl)) (by kernel_rfl) (by rfl) ?_)); clear hA ac hW; intro w149 hW ac hA
                               refine wpListIn_nil ?_
                               refine thenN ?_
                               refine begun (bs := bs_144) (H' := [Cel b147 #[Value.int .u64 y146.2.clock, Value.int .i64 y146.2.site.f, Value.int .i64 y146.2.site.pc] 32, bs_144, Cel b141 #[Value.bool bd] 4]) hW 1 rfl (fun b hb => by rw [hbs_144] at hb; rw [hrd_144]; exact hb) rfl ?_; clear hW; intro w150 hW
                               refine wpIn_block ?_
                               refine wpIn_seq ?_
                               refine wpIn_region_lit ?_
                               refine st_rdF (v := Value.int .u64 0) hA (by kernel_rfl) (by kernel_rfl) (by kernel_rfl) (by kernel_rfl) hW.cls (Rd.pure fun _ => by kernel_rfl) ?_; clear hA ac; intro ac hA
                               refine wpListIn_nil ?_
                               refine thenN ?_
                               refine wpIn_seq ?_
                               refine wpIn_seq ?_
                               refine wpIn_region_lit ?_
                               refine st_rdF (v := Value.int .i64 y146.1) hA (by kernel_rfl) (by kernel_rfl) (by kernel_rfl) (by kernel_rfl) hW.cls (Rd.pure fun _ => by kernel_rfl) ?_; clear hA ac; intro ac hA
                               refine st_rdF (v := Value.slice A_c c.length c_c) hA (by kernel_rfl) (by kernel_rfl) (by kernel_rfl) (by kernel_rfl) hW.cls (Rd.load (b := b1) (i := 0) (by kernel_rfl) (fun _ hw => show _ = _ from (hw.1).getG 1 rfl) (by kernel_rfl)) ?_; clear hA ac; intro ac hA
                               refine st_rdF (v := Value.int .i64 ((c.length : Nat) : Int)) hA (by kernel_rfl) (by kernel_rfl) (by kernel_rfl) (by kernel_rfl) hW.cls (Rd.pure fun _ => by kernel_rfl) ?_; clear hA ac; intro ac hA
                               refine st_rdF (v := Value.bool (decide ((y146.1 : Int) < (((c.length : Nat) : Int) : Int)))) hA (by kernel_rfl) (by kernel_rfl) (by kernel_rfl) (by kernel_rfl) hW.cls (Rd.pure fun _ => by kernel_rfl) ?_; clear hA ac; intro ac hA
                               refine wpListIn_nil ?_
                               refine thenN ?_
                               refine wpIn_cond_split (t := decide ((y146.1 : Int) < (((c.length : Nat) : Int) : Int))) (hA.eval (by kernel_rfl)) (fun h151 => ?_) (fun h151 => ?_)
                               · skip
                                 have h151 := of_decide_eq_true h151
                                 first
                                 | (exfalso; clear hA hW; omega)
                                 | (
                                   refine wpIn_region_lit ?_
                                   refine st_rdF (v := Value.slice A_c c.length c_c) hA (by kernel_rfl) (by kernel_rfl) (by kernel_rfl) (by kernel_rfl) hW.cls (Rd.load (b := b1) (i := 0) (by kernel_rfl) (fun _ hw => show _ = _ from (hw.1).getG 1 rfl) (by kernel_rfl)) ?_; clear hA ac; intro ac hA
                                   refine st_rdF (v := Value.int .i64 y146.1) hA (by kernel_rfl) (by kernel_rfl) (by kernel_rfl) (by kernel_rfl) hW.cls (Rd.pure fun _ => by kernel_rfl) ?_; clear hA ac; intro ac hA
                                   obtain ⟨y152, hy152⟩ : ∃ y, c[Int.toNat (y146.1)]? = some y := ⟨_, List.getElem?_eq_getElem (by first | omega | (simp; done) | (simp; omega))⟩
                                   obtain ⟨b153, o154, rfl, hbb153⟩ := row_some ((hW).getG 2 rfl) hy152
                                   refine st_rdF (v := Value.pointer (some ⟨b153, o154 + (Int.toNat (y146.1)) * 1, none⟩)) hA (by kernel_rfl) (by kernel_rfl) (by kernel_rfl) (by kernel_rfl) hW.cls (Rd.indexAddrI (e := 28) (sz := 1) (b := b153) (off := o154) (n := c.length) (c := c_c) (k := y146.1) (by kernel_rfl) (by kernel_rfl) (by omega) (by first | omega | (simp; done) | (simp; omega)) (fun _ => by kernel_rfl) (fun _ => by kernel_rfl)) ?_; clear hA ac; intro ac hA
                                   refine st_rdF (v := Value.int .u64 y152) hA (by kernel_rfl) (by kernel_rfl) (by kernel_rfl) (by kernel_rfl) hW.cls (Rd.loadRow (b := b153) (i := o154 + (Int.toNat (y146.1)) * 1) (xs := [Value.int .u64 y152]) (by kernel_rfl) (fun _ hw => row_ld ((hw.1).getG 2 rfl) hy152 (Fr.refl No _) (fun h => h) 0 1 (by kernel_rfl)) (by kernel_rfl)) ?_; clear hA ac; intro ac hA
                                   refine st_rdF (v := Value.int .u64 y152) hA (by kernel_rfl) (by kernel_rfl) (by kernel_rfl) (by kernel_rfl) hW.cls (Rd.pure fun _ => by kernel_rfl) ?_; clear hA ac; intro ac hA
                                   refine wpListIn_nil ?_
                                   refine thenN ?_
                                   have hg_ := getC_at hx0 hy152
                                   refine wpIn_region_lit ?_
                                   refine st_rdF (v := Value.bool bd) hA (by kernel_rfl) (by kernel_rfl) (by kernel_rfl) (by kernel_rfl) hW.cls (Rd.load (b := b141) (i := 0) (by kernel_rfl) (fun _ hw => (hw.1).cel 2 rfl) (by kernel_rfl)) ?_; clear hA ac; intro ac hA
                                   refine st_rdF (v := Value.bool bd) hA (by kernel_rfl) (by kernel_rfl) (by kernel_rfl) (by kernel_rfl) hW.cls (Rd.pure fun _ => by kernel_rfl) ?_; clear hA ac; intro ac hA
                                   rcases Bool.eq_false_or_eq_true (bd) with h155 | h155
                                   · skip
                                     rw [h155] at hA hW
                                     first
                                     | (exfalso; clear hA hW; omega)
                                     | (
                                       refine st_skipF hA (by kernel_rfl) (by kernel_rfl) ?_; clear hA ac; intro ac hA
                                       refine st_skipF hA (by kernel_rfl) (by kernel_rfl) ?_; clear hA ac; intro ac hA
                                       refine st_skipF hA (by kernel_rfl) (by kernel_rfl) ?_; clear hA ac; intro ac hA
                                       refine st_skipF hA (by kernel_rfl) (by kernel_rfl) ?_; clear hA ac; intro ac hA
                                       refine st_rdF (v := Value.bool true) hA (by kernel_rfl) (by kernel_rfl) (by kernel_rfl) (by kernel_rfl) hW.cls (Rd.pure fun _ => by kernel_rfl) ?_; clear hA ac; intro ac hA
                                       refine stF hA (by kernel_rfl) (by kernel_rfl) (by kernel_rfl) (by kernel_rfl) (RunsF.of (Runs.store (v := Value.bool true) (b := b141) (j := 0) (n := 1) (cs' := #[Value.bool true]) (H' := [Cel b147 #[Value.int .u64 y146.2.clock, Value.int .i64 y146.2.site.f, Value.int .i64 y146.2.site.pc] 32, bs_144, Cel b141 #[Value.bool true] 4]) (by kernel_rfl) (by kernel_rfl) (by kernel_rfl) (by kernel_rfl) (by kernel_rfl) hW 2 (by rfl) (Nat.le_of_ble_eq_true (by kernel_rfl)) (by kernel_rfl) (by rfl) ?_)); clear hA ac hW; intro w156 hW ac hA
                                       refine wpListIn_nil ?_
                                       refine blkN ?_
                                       exact ⟨_, ⟨true, trivial, by rw [any_snoc, ← hbd]; first | (rw [h155]; rfl) | (rw [h155, hg_]; simp; done) | (rw [h155, ← hg_]; simp; done), rfl⟩, (hW.pick [1, 2] (by decide) rfl).pickG [0, 1, 2, 3] rfl⟩)
                                   · skip
                                     rw [h155] at hA hW
                                     first
                                     | (exfalso; clear hA hW; omega)
                                     | (
                                       refine st_rdF (v := Value.pointer (some ⟨b147, 0, none⟩)) hA (by kernel_rfl) (by kernel_rfl) (by kernel_rfl) (by kernel_rfl) hW.cls (Rd.pure fun _ => by kernel_rfl) ?_; clear hA ac; intro ac hA
                                       refine st_rdF (v := Value.int .u64 y146.2.clock) hA (by kernel_rfl) (by kernel_rfl) (by kernel_rfl) (by kernel_rfl) hW.cls (Rd.load (b := b147) (i := 0) (by kernel_rfl) (fun _ hw => (hw.1).cel 0 rfl) (by kernel_rfl)) ?_; clear hA ac; intro ac hA
                                       refine st_rdF (v := Value.int .u64 y152) hA (by kernel_rfl) (by kernel_rfl) (by kernel_rfl) (by kernel_rfl) hW.cls (Rd.pure fun _ => by kernel_rfl) ?_; clear hA ac; intro ac hA
                                       refine st_rdF (v := Value.bool (decide ((y146.2.clock : Int) > (y152 : Int)))) hA (by kernel_rfl) (by kernel_rfl) (by kernel_rfl) (by kernel_rfl) hW.cls (Rd.pure fun _ => by kernel_rfl) ?_; clear hA ac; intro ac hA
                                       refine st_rdF (v := Value.bool (decide ((y146.2.clock : Int) > (y152 : Int)))) hA (by kernel_rfl) (by kernel_rfl) (by kernel_rfl) (by kernel_rfl) hW.cls (Rd.pure fun _ => by kernel_rfl) ?_; clear hA ac; intro ac hA
                                       refine stF hA (by kernel_rfl) (by kernel_rfl) (by kernel_rfl) (by kernel_rfl) (RunsF.of (Runs.store (v := Value.bool (decide ((y146.2.clock : Int) > (y152 : Int)))) (b := b141) (j := 0) (n := 1) (cs' := #[Value.bool (decide ((y146.2.clock : Int) > (y152 : Int)))]) (H' := [Cel b147 #[Value.int .u64 y146.2.clock, Value.int .i64 y146.2.site.f, Value.int .i64 y146.2.site.pc] 32, bs_144, Cel b141 #[Value.bool (decide ((y146.2.clock : Int) > (y152 : Int)))] 4]) (by kernel_rfl) (by kernel_rfl) (by kernel_rfl) (by kernel_rfl) (by kernel_rfl) hW 2 (by rfl) (Nat.le_of_ble_eq_true (by kernel_rfl)) (by kernel_rfl) (by rfl) ?_)); clear hA ac hW; intro w157 hW ac hA
                                       refine wpListIn_nil ?_
                                       refine blkN ?_
                                       exact ⟨_, ⟨decide ((y146.2.clock : Int) > (y152 : Int)), trivial, by rw [any_snoc, ← hbd]; first | (rw [h155]; rfl) | (rw [h155, hg_]; simp; done) | (rw [h155, ← hg_]; simp; done), rfl⟩, (hW.pick [1, 2] (by decide) rfl).pickG [0, 1, 2, 3] rfl⟩))
                               · skip
                                 have h151 := of_decide_eq_false h151
                                 first
                                 | (exfalso; clear hA hW; omega)
                                 | (
                                   refine wpIn_skip ?_
                                   refine thenN ?_
                                   have hg_ := getC_no (c := c) (i := y146.1) (.inr (by omega))
                                   refine wpIn_region_lit ?_
                                   refine st_rdF (v := Value.bool bd) hA (by kernel_rfl) (by kernel_rfl) (by kernel_rfl) (by kernel_rfl) hW.cls (Rd.load (b := b141) (i := 0) (by kernel_rfl) (fun _ hw => (hw.1).cel 2 rfl) (by kernel_rfl)) ?_; clear hA ac; intro ac hA
                                   refine st_rdF (v := Value.bool bd) hA (by kernel_rfl) (by kernel_rfl) (by kernel_rfl) (by kernel_rfl) hW.cls (Rd.pure fun _ => by kernel_rfl) ?_; clear hA ac; intro ac hA
                                   rcases Bool.eq_false_or_eq_true (bd) with h158 | h158
                                   · skip
                                     rw [h158] at hA hW
                                     first
                                     | (exfalso; clear hA hW; omega)
                                     | (
                                       refine st_skipF hA (by kernel_rfl) (by kernel_rfl) ?_; clear hA ac; intro ac hA
                                       refine st_skipF hA (by kernel_rfl) (by kernel_rfl) ?_; clear hA ac; intro ac hA
                                       refine st_skipF hA (by kernel_rfl) (by kernel_rfl) ?_; clear hA ac; intro ac hA
                                       refine st_skipF hA (by kernel_rfl) (by kernel_rfl) ?_; clear hA ac; intro ac hA
                                       refine st_rdF (v := Value.bool true) hA (by kernel_rfl) (by kernel_rfl) (by kernel_rfl) (by kernel_rfl) hW.cls (Rd.pure fun _ => by kernel_rfl) ?_; clear hA ac; intro ac hA
                                       refine stF hA (by kernel_rfl) (by kernel_rfl) (by kernel_rfl) (by kernel_rfl) (RunsF.of (Runs.store (v := Value.bool true) (b := b141) (j := 0) (n := 1) (cs' := #[Value.bool true]) (H' := [Cel b147 #[Value.int .u64 y146.2.clock, Value.int .i64 y146.2.site.f, Value.int .i64 y146.2.site.pc] 32, bs_144, Cel b141 #[Value.bool true] 4]) (by kernel_rfl) (by kernel_rfl) (by kernel_rfl) (by kernel_rfl) (by kernel_rfl) hW 2 (by rfl) (Nat.le_of_ble_eq_true (by kernel_rfl)) (by kernel_rfl) (by rfl) ?_)); clear hA ac hW; intro w159 hW ac hA
                                       refine wpListIn_nil ?_
                                       refine blkN ?_
                                       exact ⟨_, ⟨true, trivial, by rw [any_snoc, ← hbd]; first | (rw [h158]; rfl) | (rw [h158, hg_]; simp; done) | (rw [h158, ← hg_]; simp; done), rfl⟩, (hW.pick [1, 2] (by decide) rfl).pickG [0, 1, 2, 3] rfl⟩)
                                   · skip
                                     rw [h158] at hA hW
                                     first
                                     | (exfalso; clear hA hW; omega)
                                     | (
                                       refine st_rdF (v := Value.pointer (some ⟨b147, 0, none⟩)) hA (by kernel_rfl) (by kernel_rfl) (by kernel_rfl) (by kernel_rfl) hW.cls (Rd.pure fun _ => by kernel_rfl) ?_; clear hA ac; intro ac hA
                                       refine st_rdF (v := Value.int .u64 y146.2.clock) hA (by kernel_rfl) (by kernel_rfl) (by kernel_rfl) (by kernel_rfl) hW.cls (Rd.load (b := b147) (i := 0) (by kernel_rfl) (fun _ hw => (hw.1).cel 0 rfl) (by kernel_rfl)) ?_; clear hA ac; intro ac hA
                                       refine st_rdF (v := Value.int .u64 0) hA (by kernel_rfl) (by kernel_rfl) (by kernel_rfl) (by kernel_rfl) hW.cls (Rd.pure fun _ => by kernel_rfl) ?_; clear hA ac; intro ac hA
                                       refine st_rdF (v := Value.bool (decide ((y146.2.clock : Int) > (0 : Int)))) hA (by kernel_rfl) (by kernel_rfl) (by kernel_rfl) (by kernel_rfl) hW.cls (Rd.pure fun _ => by kernel_rfl) ?_; clear hA ac; intro ac hA
                                       refine st_rdF (v := Value.bool (decide ((y146.2.clock : Int) > (0 : Int)))) hA (by kernel_rfl) (by kernel_rfl) (by kernel_rfl) (by kernel_rfl) hW.cls (Rd.pure fun _ => by kernel_rfl) ?_; clear hA ac; intro ac hA
                                       refine stF hA (by kernel_rfl) (by kernel_rfl) (by kernel_rfl) (by kernel_rfl) (RunsF.of (Runs.store (v := Value.bool (decide ((y146.2.clock : Int) > (0 : Int)))) (b := b141) (j := 0) (n := 1) (cs' := #[Value.bool (decide ((y146.2.clock : Int) > (0 : Int)))]) (H' := [Cel b147 #[Value.int .u64 y146.2.clock, Value.int .i64 y146.2.site.f, Value.int .i64 y146.2.site.pc] 32, bs_144, Cel b141 #[Value.bool (decide ((y146.2.clock : Int) > (0 : Int)))] 4]) (by kernel_rfl) (by kernel_rfl) (by kernel_rfl) (by kernel_rfl) (by kernel_rfl) hW 2 (by rfl) (Nat.le_of_ble_eq_true (by kernel_rfl)) (by kernel_rfl) (by rfl) ?_)); clear hA ac hW; intro w160 hW ac hA
                                       refine wpListIn_nil ?_
                                       refine blkN ?_
                                       exact ⟨_, ⟨decide ((y146.2.clock : Int) > (0 : Int)), trivial, by rw [any_snoc, ← hbd]; first | (rw [h158]; rfl) | (rw [h158, hg_]; simp; done) | (rw [h158, ← hg_]; simp; done), rfl⟩, (hW.pick [1, 2] (by decide) rfl).pickG [0, 1, 2, 3] rfl⟩))
                             · skip
                               clear hA ac hW; intro D161 xs_ Hk_ w162 ac hS_ hJ_ hA hW
                               obtain ⟨bd, _, hbd, rfl⟩ := hJ_
                               replace hW : Ws w No [Cel b141 #[Value.bool bd] 4, DefR D161, rowR 3 1 enI (Value.slice Ao133 (g132).length co134) g132, rowR 3 1 enI (Value.slice Ao20 (g19).length co21) g19, Cel b15 #[Value.int .i64 y12.what, Value.int .i64 y12.h, Value.int .i64 y12.id, Value.int .u64 y12.m.clock, Value.int .i64 y12.m.site.f, Value.int .i64 y12.m.site.pc] 34, allR (List.map DefR dl_), PoolR n8 n9 u84] [g140, Cel b1 #[Value.slice A_c c.length c_c] 24, roR A_c 1 enU c, roR (some ⟨b13, o14, none⟩) 6 enAct23 l] w162 := hW
                               refine blkN ?_
                               refine thenN ?_
                               refine wpIn_seq ?_
                               refine wpIn_region_lit ?_
                               refine st_rdF (v := Value.pointer (some ⟨n8, 0, none⟩)) hA (by kernel_rfl) (by kernel_rfl) (by kernel_rfl) (by kernel_rfl) hW.cls (Rd.pure fun _ => by kernel_rfl) ?_; clear hA ac; intro ac hA
                               refine st_rdF (v := Value.pointer (some ⟨b15, 1, none⟩)) hA (by kernel_rfl) (by kernel_rfl) (by kernel_rfl) (by kernel_rfl) hW.cls (Rd.pure fun _ => by kernel_rfl) ?_; clear hA ac; intro ac hA
                               refine st_rdF (v := Value.int .i64 y12.h) hA (by kernel_rfl) (by kernel_rfl) (by kernel_rfl) (by kernel_rfl) hW.cls (Rd.load (b := b15) (i := 1) (by kernel_rfl) (fun _ hw => (hw.1).cel 4 rfl) (by kernel_rfl)) ?_; clear hA ac; intro ac hA
                               refine st_rdF (v := Value.slice A_c c.length c_c) hA (by kernel_rfl) (by kernel_rfl) (by kernel_rfl) (by kernel_rfl) hW.cls (Rd.load (b := b1) (i := 0) (by kernel_rfl) (fun _ hw => show _ = _ from (hw.1).getG 1 rfl) (by kernel_rfl)) ?_; clear hA ac; intro ac hA
                               refine stF hA (by kernel_rfl) (by kernel_rfl) (by kernel_rfl) (by kernel_rfl) (RunsF.of (Runs.call (fun _ => by kernel_rfl) (e_beyond n8 n9 u84 (y12.h) A_c c_c c w162 ((hW).get 6 rfl) ((hW).lt _ (List.mem_of_getElem? (i := 6) rfl)) ((hW).getG 2 rfl) (by first | assumption | omega | (simp; omega) | simp) (by first | omega | exact (fun e he => by have := hK3 e he; omega) | exact (fun e he => by have := hK3' e he; omega) | exact hK4' _ | exact (Act23.bounds (hwf _ (List.mem_of_getElem? ‹_›))).1 | exact (Act23.bounds (hwf _ (List.mem_of_getElem? ‹_›))).2 | assumption) (by first | omega | exact (fun e he => by have := hK3 e he; omega) | exact (fun e he => by have := hK3' e he; omega) | exact hK4' _ | exact (Act23.bounds (hwf _ (List.mem_of_getElem? ‹_›))).1 | exact (Act23.bounds (hwf _ (List.mem_of_getElem? ‹_›))).2 | assumption)) ?_))
                               rintro _ w163 ⟨g164, g165, g166, rfl, hw163_hB, hfw163⟩; refine ⟨_, rfl, ?_⟩; have hW0 := hW; have hW := hW0.call hfw163
                               clear hW0 hA ac; intro ac hA
                               refine st_rdF (v := Value.tuple #[Value.int .i64 g164, g165.v, Value.bool g166]) hA (by kernel_rfl) (by kernel_rfl) (by kernel_rfl) (by kernel_rfl) hW.cls (Rd.pure fun _ => by kernel_rfl) ?_; clear hA ac; intro ac hA
                               refine st_rdF (v := Value.int .i64 g164) hA (by kernel_rfl) (by kernel_rfl) (by kernel_rfl) (by kernel_rfl) hW.cls (Rd.pure fun _ => by kernel_rfl) ?_; clear hA ac; intro ac hA
                               refine st_rdF (v := g165.v) hA (by kernel_rfl) (by kernel_rfl) (by kernel_rfl) (by kernel_rfl) hW.cls (Rd.pure fun _ => by kernel_rfl) ?_; clear hA ac; intro ac hA
                               refine st_rdF (v := Value.bool g166) hA (by kernel_rfl) (by kernel_rfl) (by kernel_rfl) (by kernel_rfl) hW.cls (Rd.pure fun _ => by kernel_rfl) ?_; clear hA ac; intro ac hA
                               refine stF hA (by kernel_rfl) (by kernel_rfl) (by kernel_rfl) (by kernel_rfl) (RunsF.of (Runs.cells (fun b => Value.pointer (some ⟨b, 0, none⟩)) #[Value.int .u64 0, Value.int .i64 0, Value.int .i64 0] 32 (fun _ => by kernel_rfl) hW ?_)); clear hA ac hW; intro b167 w168 hW hb167 hfw168 ac hA
                               refine st_rdF (v := Value.int .i64 g164) hA (by kernel_rfl) (by kernel_rfl) (by kernel_rfl) (by kernel_rfl) hW.cls (Rd.pure fun _ => by kernel_rfl) ?_; clear hA ac; intro ac hA
                               refine stF hA (by kernel_rfl) (by kernel_rfl) (by kernel_rfl) (by kernel_rfl) (RunsF.of (Runs.store (v := g165.v) (b := b167) (j := 0) (n := 3) (cs' := #[Value.int .u64 g165.clock, Value.int .i64 g165.site.f, Value.int .i64 g165.site.pc]) (H' := [Cel b167 #[Value.int .u64 g165.clock, Value.int .i64 g165.site.f, Value.int .i64 g165.site.pc] 32, Cel b141 #[Value.bool bd] 4, DefR D161, rowR 3 1 enI (Value.slice Ao133 (g132).length co134) g132, rowR 3 1 enI (Value.slice Ao20 (g19).length co21) g19, Cel b15 #[Value.int .i64 y12.what, Value.int .i64 y12.h, Value.int .i64 y12.id, Value.int .u64 y12.m.clock, Value.int .i64 y12.m.site.f, Value.int .i64 y12.m.site.pc] 34, allR (List.map DefR dl_), PoolR n8 n9 u84]) (by kernel_rfl) (by kernel_rfl) (by kernel_rfl) (by kernel_rfl) (by kernel_rfl) hW 0 (by rfl) (Nat.le_of_ble_eq_true (by kernel_rfl)) (by kernel_rfl) (by rfl) ?_)); clear hA ac hW; intro w169 hW ac hA
                               refine st_rdF (v := Value.bool g166) hA (by kernel_rfl) (by kernel_rfl) (by kernel_rfl) (by kernel_rfl) hW.cls (Rd.pure fun _ => by kernel_rfl) ?_; clear hA ac; intro ac hA
                               refine wpListIn_nil ?_
                               refine thenN ?_
                               refine wpIn_seq ?_
                               refine wpIn_region_lit ?_
                               refine st_rdF (v := Value.bool g166) hA (by kernel_rfl) (by kernel_rfl) (by kernel_rfl) (by kernel_rfl) hW.cls (Rd.pure fun _ => by kernel_rfl) ?_; clear hA ac; intro ac hA
                               refine st_rdF (v := Value.bool bd) hA (by kernel_rfl) (by kernel_rfl) (by kernel_rfl) (by kernel_rfl) hW.cls (Rd.load (b := b141) (i := 0) (by kernel_rfl) (fun _ hw => (hw.1).cel 1 rfl) (by kernel_rfl)) ?_; clear hA ac; intro ac hA
                               refine st_rdF (v := Value.bool (!(g166 == bd))) hA (by kernel_rfl) (by kernel_rfl) (by kernel_rfl) (by kernel_rfl) hW.cls (Rd.pure fun _ => by kernel_rfl) ?_; clear hA ac; intro ac hA
                               refine wpListIn_nil ?_
                               refine thenN ?_
                               refine wpIn_cond_split (t := !(g166 == bd)) (hA.eval (by kernel_rfl)) (fun h170 => ?_) (fun h170 => ?_)
                               · skip
                                 have h170 := bbne_t h170
                                 first
                                 | (exfalso; clear hA hW; omega)
                                 | (exfalso; clear hA hW; exact absurd (bey_each hw163_hB hS_ hbd) h170; done)
                                 | (
                                   refine wpIn_seq ?_
                                   refine wpIn_region_lit ?_
                                   refine st_rdF (v := Value.bool false) hA (by kernel_rfl) (by kernel_rfl) (by kernel_rfl) (by kernel_rfl) hW.cls (Rd.pure fun _ => by kernel_rfl) ?_; clear hA ac; intro ac hA
                                   refine wpListIn_nil ?_
                                   refine thenN ?_
                                   refine wpIn_ret ?_
                                   refine blkR ?_
                                   refine thenR ?_
                                   refine thenR ?_
                                   refine blkR ?_
                                   refine thenR ?_
                                   refine retF (.inl rfl) hA ?_
                                   refine leaveD (H' := [Cel b167 #[Value.int .u64 g165.clock, Value.int .i64 g165.site.f, Value.int .i64 g165.site.pc] 32, Cel b141 #[Value.bool bd] 4, rowR 3 1 enI (Value.slice Ao133 (g132).length co134) g132, rowR 3 1 enI (Value.slice Ao20 (g19).length co21) g19, Cel b15 #[Value.int .i64 y12.what, Value.int .i64 y12.h, Value.int .i64 y12.id, Value.int .u64 y12.m.clock, Value.int .i64 y12.m.site.f, Value.int .i64 y12.m.site.pc] 34, allR (List.map DefR dl_), PoolR n8 n9 u84]) hW 2 rfl rfl ?_; clear hW; intro w171 hW
                                   refine leaveDs (hW.pick [5, 0, 1, 2, 3, 4, 6] (by decide) rfl) ?_; clear hW; intro w172 hW
                                   refine leave1 (v := Value.bool false) (by rfl) (GotF.tmp hA (by kernel_rfl) (by kernel_rfl)) ?_
                                   clear hA
                                   exact ⟨retv (by rfl), hW.fr⟩)
                               · skip
                                 have h170 := bbne_f h170
                                 first
                                 | (exfalso; clear hA hW; omega)
                                 | (exfalso; clear hA hW; exact absurd (bey_each hw163_hB hS_ hbd) h170; done)
                                 | (
                                   refine wpIn_skip ?_
                                   refine blkN ?_
                                   refine thenN ?_
                                   refine wpIn_region_lit ?_
                                   refine st_rdF (v := Value.int .i64 ((k : Nat) : Int)) hA (by kernel_rfl) (by kernel_rfl) (by kernel_rfl) (by kernel_rfl) hW.cls (Rd.pure fun _ => by kernel_rfl) ?_; clear hA ac; intro ac hA
                                   refine st_rdF (v := Value.int .i64 ((k + 1 : Nat) : Int)) hA (by kernel_rfl) (by kernel_rfl) (by kernel_rfl) (by kernel_rfl) hW.cls (Rd.pureE (v0 := Value.int .i64 (IntKind.i64.wrap ((((k : Nat) : Int) : Int) + 1))) (fun _ => by kernel_rfl) (congrArg (Value.int .i64) ((w_i64 (x := (((k : Nat) : Int) : Int) + 1) (by omega) (by omega)).trans (by omega)))) ?_; clear hA ac; intro ac hA
                                   refine st_rdF (v := Value.int .i64 ((k + 1 : Nat) : Int)) hA (by kernel_rfl) (by kernel_rfl) (by kernel_rfl) (by kernel_rfl) hW.cls (Rd.pure fun _ => by kernel_rfl) ?_; clear hA ac; intro ac hA
                                   refine wpListIn_nil ?_
                                   refine thenN ?_
                                   have hW := Ws.defCons (hW.pick [2, 6, 0, 1, 3, 4, 5, 7] (by decide) rfl)
                                   exact ⟨l.length - (k + 1), by omega, k + 1, u84, made, (D161 :: dl_), rfl, by omega, by exact hK2, by omega, hA.sub ⟨⟨by kernel_rfl, by kernel_rfl⟩, ⟨by kernel_rfl, by kernel_rfl⟩, ⟨by kernel_rfl, by kernel_rfl⟩, ⟨by kernel_rfl, by kernel_rfl⟩, ⟨by kernel_rfl, by kernel_rfl⟩, ⟨by kernel_rfl, by kernel_rfl⟩, trivial⟩, (hW.pick [0, 6] (by decide) rfl).pickG [1, 2, 3] rfl⟩)
                             · skip
                               clear hA ac hW; intro D173 c_ pre_ Hk_ w174 ac hJ_ hA hW
                               exact hJ_.elim)))
                 · skip
                   have h82 := ne_of_beq_false h82
                   first
                   | (exfalso; clear hA hW; omega)
                   | (
                     refine wpIn_region_lit ?_
                     refine st_rdF (v := Value.pointer (some ⟨n8, 0, none⟩)) hA (by kernel_rfl) (by kernel_rfl) (by kernel_rfl) (by kernel_rfl) hW.cls (Rd.pure fun _ => by kernel_rfl) ?_; clear hA ac; intro ac hA
                     refine st_rdF (v := Value.pointer (some ⟨b15, 1, none⟩)) hA (by kernel_rfl) (by kernel_rfl) (by kernel_rfl) (by kernel_rfl) hW.cls (Rd.pure fun _ => by kernel_rfl) ?_; clear hA ac; intro ac hA
                     refine st_rdF (v := Value.int .i64 y12.h) hA (by kernel_rfl) (by kernel_rfl) (by kernel_rfl) (by kernel_rfl) hW.cls (Rd.load (b := b15) (i := 1) (by kernel_rfl) (fun _ hw => (hw.1).cel 1 rfl) (by kernel_rfl)) ?_; clear hA ac; intro ac hA
                     refine st_rdF (v := Value.pointer (some ⟨b15, 2, none⟩)) hA (by kernel_rfl) (by kernel_rfl) (by kernel_rfl) (by kernel_rfl) hW.cls (Rd.pure fun _ => by kernel_rfl) ?_; clear hA ac; intro ac hA
                     refine st_rdF (v := Value.int .i64 y12.id) hA (by kernel_rfl) (by kernel_rfl) (by kernel_rfl) (by kernel_rfl) hW.cls (Rd.load (b := b15) (i := 2) (by kernel_rfl) (fun _ hw => (hw.1).cel 1 rfl) (by kernel_rfl)) ?_; clear hA ac; intro ac hA
                     refine st_rdF (v := Value.pointer (some ⟨b15, 3, none⟩)) hA (by kernel_rfl) (by kernel_rfl) (by kernel_rfl) (by kernel_rfl) hW.cls (Rd.pure fun _ => by kernel_rfl) ?_; clear hA ac; intro ac hA
                     refine st_rdF (v := Value.agg #[Value.int .u64 y12.m.clock, Value.int .i64 y12.m.site.f, Value.int .i64 y12.m.site.pc]) hA (by kernel_rfl) (by kernel_rfl) (by kernel_rfl) (by kernel_rfl) hW.cls (Rd.load (b := b15) (i := 3) (by kernel_rfl) (fun _ hw => (hw.1).cel 1 rfl) (by kernel_rfl)) ?_; clear hA ac; intro ac hA
                     refine stF hA (by kernel_rfl) (by kernel_rfl) (by kernel_rfl) (by kernel_rfl) (RunsF.of (Runs.call (fun _ => by kernel_rfl) (e_mark n8 n9 V (y12.h) (y12.id) y12.m w18 ((hW).get 3 rfl) ((hW).lt _ (List.mem_of_getElem? (i := 3) rfl)) (by first | omega | exact (fun e he => by have := hK3 e he; omega) | exact (fun e he => by have := hK3' e he; omega) | exact hK4' _ | exact (Act23.bounds (hwf _ (List.mem_of_getElem? ‹_›))).1 | exact (Act23.bounds (hwf _ (List.mem_of_getElem? ‹_›))).2 | assumption) (by first | omega | exact (fun e he => by have := hK3 e he; omega) | exact (fun e he => by have := hK3' e he; omega) | exact hK4' _ | exact (Act23.bounds (hwf _ (List.mem_of_getElem? ‹_›))).1 | exact (Act23.bounds (hwf _ (List.mem_of_getElem? ‹_›))).2 | assumption)) ?_))
                     rintro _ w175 ⟨u176, u177, rfl, hw175_hM, hu_⟩; refine ⟨_, rfl, ?_⟩; replace hW := hW.upd (H' := [rowR 3 1 enI (Value.slice Ao20 (g19).length co21) g19, Cel b15 #[Value.int .i64 y12.what, Value.int .i64 y12.h, Value.int .i64 y12.id, Value.int .u64 y12.m.clock, Value.int .i64 y12.m.site.f, Value.int .i64 y12.m.site.pc] 34, allR (List.map DefR dl_), PoolR n8 n9 u176]) 3 rfl hu_ rfl; clear hA ac; intro ac hA
                     obtain ⟨hK2, hL2⟩ := PoolOk.mark hK hw175_hM
                     refine wpListIn_nil ?_
                     refine blkN ?_
                     refine thenN ?_
                     refine wpIn_seq ?_
                     refine wpIn_seq ?_
                     have hK1' := hK2.len; have hK3' := hK2.hn; have hK4' := fun g => hK2.look (by omega) (g := g)
                     refine wpIn_region_lit ?_
                     refine st_rdF (v := Value.pointer (some ⟨n8, 0, none⟩)) hA (by kernel_rfl) (by kernel_rfl) (by kernel_rfl) (by kernel_rfl) hW.cls (Rd.pure fun _ => by kernel_rfl) ?_; clear hA ac; intro ac hA
                     refine stF hA (by kernel_rfl) (by kernel_rfl) (by kernel_rfl) (by kernel_rfl) (RunsF.of (Runs.call (fun _ => by kernel_rfl) (e_live n8 n9 u176 w175 ((hW).get 3 rfl) ((hW).lt _ (List.mem_of_getElem? (i := 3) rfl)) (by first | omega | exact (fun e he => by have := hK3 e he; omega) | exact (fun e he => by have := hK3' e he; omega) | exact hK4' _ | exact (Act23.bounds (hwf _ (List.mem_of_getElem? ‹_›))).1 | exact (Act23.bounds (hwf _ (List.mem_of_getElem? ‹_›))).2 | assumption) (by first | omega | exact (fun e he => by have := hK3 e he; omega) | exact (fun e he => by have := hK3' e he; omega) | exact hK4' _ | exact (Act23.bounds (hwf _ (List.mem_of_getElem? ‹_›))).1 | exact (Act23.bounds (hwf _ (List.mem_of_getElem? ‹_›))).2 | assumption)) ?_))
                     rintro _ w178 ⟨g179, Ao180, co181, rfl, hw178_hp, hw178_hs, hcco181, hu_⟩; refine ⟨_, rfl, ?_⟩; replace hW := hW.made hu_; clear hA ac; intro ac hA
                     have hkl_g179 := hw178_hp.length_eq; rw [keys_len, vals_len] at hkl_g179
                     refine st_rdF (v := Value.int .i64 (((g179).length : Nat) : Int)) hA (by kernel_rfl) (by kernel_rfl) (by kernel_rfl) (by kernel_rfl) hW.cls (Rd.pure fun _ => by kernel_rfl) ?_; clear hA ac; intro ac hA
                     refine st_rdF (v := Value.int .i64 made) hA (by kernel_rfl) (by kernel_rfl) (by kernel_rfl) (by kernel_rfl) hW.cls (Rd.pure fun _ => by kernel_rfl) ?_; clear hA ac; intro ac hA
                     refine st_rdF (v := Value.bool (((((g179).length : Nat) : Int) : Int) != (made : Int))) hA (by kernel_rfl) (by kernel_rfl) (by kernel_rfl) (by kernel_rfl) hW.cls (Rd.pure fun _ => by kernel_rfl) ?_; clear hA ac; intro ac hA
                     refine wpListIn_nil ?_
                     refine thenN ?_
                     refine wpIn_cond_split (t := ((((g179).length : Nat) : Int) : Int) != (made : Int)) (hA.eval (by kernel_rfl)) (fun h183 => ?_) (fun h183 => ?_)
                     · skip
                       have h183 := bne_iff_ne.1 h183
                       first
                       | (exfalso; clear hA hW; omega)
                       | (
                         refine wpIn_seq ?_
                         refine wpIn_region_lit ?_
                         refine st_rdF (v := Value.bool false) hA (by kernel_rfl) (by kernel_rfl) (by kernel_rfl) (by kernel_rfl) hW.cls (Rd.pure fun _ => by kernel_rfl) ?_; clear hA ac; intro ac hA
                         refine wpListIn_nil ?_
                         refine thenN ?_
                         refine wpIn_ret ?_
                         refine thenR ?_
                         refine blkR ?_
                         refine thenR ?_
                         refine thenR ?_
                         refine blkR ?_
                         refine thenR ?_
                         refine retF (.inl rfl) hA ?_
                         refine leaveDs (hW.pick [3, 0, 1, 2, 4] (by decide) rfl) ?_; clear hW; intro w184 hW
                         refine leave1 (v := Value.bool false) (by rfl) (GotF.tmp hA (by kernel_rfl) (by kernel_rfl)) ?_
                         clear hA
                         exact ⟨retv (by rfl), hW.fr⟩)
                     · skip
                       have h183 := of_bne_f h183
                       first
                       | (exfalso; clear hA hW; omega)
                       | (
                         refine wpIn_skip ?_
                         refine thenN ?_
                         refine wpIn_seq ?_
                         refine wpIn_region_lit ?_
                         refine st_rdF (v := Value.pointer (some ⟨n8, 0, none⟩)) hA (by kernel_rfl) (by kernel_rfl) (by kernel_rfl) (by kernel_rfl) hW.cls (Rd.pure fun _ => by kernel_rfl) ?_; clear hA ac; intro ac hA
                         refine st_rdF (v := Value.pointer (some ⟨b15, 1, none⟩)) hA (by kernel_rfl) (by kernel_rfl) (by kernel_rfl) (by kernel_rfl) hW.cls (Rd.pure fun _ => by kernel_rfl) ?_; clear hA ac; intro ac hA
                         refine st_rdF (v := Value.int .i64 y12.h) hA (by kernel_rfl) (by kernel_rfl) (by kernel_rfl) (by kernel_rfl) hW.cls (Rd.load (b := b15) (i := 1) (by kernel_rfl) (fun _ hw => (hw.1).cel 2 rfl) (by kernel_rfl)) ?_; clear hA ac; intro ac hA
                         refine stF hA (by kernel_rfl) (by kernel_rfl) (by kernel_rfl) (by kernel_rfl) (RunsF.of (Runs.call (fun _ => by kernel_rfl) (e_each n8 n9 u176 (y12.h) w178 ((hW).get 4 rfl) ((hW).lt _ (List.mem_of_getElem? (i := 4) rfl)) (by first | omega | exact (fun e he => by have := hK3 e he; omega) | exact (fun e he => by have := hK3' e he; omega) | exact hK4' _ | exact (Act23.bounds (hwf _ (List.mem_of_getElem? ‹_›))).1 | exact (Act23.bounds (hwf _ (List.mem_of_getElem? ‹_›))).2 | assumption)) ?_))
                         rintro _ w185 ⟨lb186, g187, rfl, hIg187, hfg187, hfw185⟩; refine ⟨_, rfl, ?_⟩; have hW0 := hW; have hW := hW0.call hfw185; have hW := hW0.addFromAt hW hfg187 in_nil; clear hW0 hA ac; intro ac hA
                         refine st_rdF (v := Value.func (.func 31) #[] lb186) hA (by kernel_rfl) (by kernel_rfl) (by kernel_rfl) (by kernel_rfl) hW.cls (Rd.pure fun _ => by kernel_rfl) ?_; clear hA ac; intro ac hA
                         refine wpListIn_nil ?_
                         refine thenN ?_
                         refine wpIn_seq ?_
                         refine wpIn_seq ?_
                         refine wpIn_region_lit ?_
                         refine st_rdF (v := Value.func (.func 31) #[] lb186) hA (by kernel_rfl) (by kernel_rfl) (by kernel_rfl) (by kernel_rfl) hW.cls (Rd.pure fun _ => by kernel_rfl) ?_; clear hA ac; intro ac hA
                         refine st_rdF (v := Value.bool false) hA (by kernel_rfl) (by kernel_rfl) (by kernel_rfl) (by kernel_rfl) hW.cls (Rd.pure fun _ => by kernel_rfl) ?_; clear hA ac; intro ac hA
                         refine wpListIn_nil ?_
                         refine thenN ?_
                         refine wpIn_cond_false (hA.eval (by kernel_rfl)) ?_
                         refine wpIn_skip ?_
                         refine thenN ?_
                         refine wpIn_seq ?_
                         refine wpIn_region_lit ?_
                         refine stF hA (by kernel_rfl) (by kernel_rfl) (by kernel_rfl) (by kernel_rfl) (RunsF.of (Runs.cells (fun b => Value.pointer (some ⟨b, 0, none⟩)) #[Value.bool false] 4 (fun _ => by kernel_rfl) hW ?_)); clear hA ac hW; intro b188 w189 hW hb188 hfw189 ac hA
                         refine stF hA (by kernel_rfl) (by kernel_rfl) (by kernel_rfl) (by kernel_rfl) (RunsF.of (Runs.store (v := Value.bool false) (b := b188) (j := 0) (n := 1) (cs' := #[Value.bool false]) (H' := [Cel b188 #[Value.bool false] 4, rowR 3 1 enI (Value.slice Ao180 (g179).length co181) g179, rowR 3 1 enI (Value.slice Ao20 (g19).length co21) g19, Cel b15 #[Value.int .i64 y12.what, Value.int .i64 y12.h, Value.int .i64 y12.id, Value.int .u64 y12.m.clock, Value.int .i64 y12.m.site.f, Value.int .i64 y12.m.site.pc] 34, allR (List.map DefR dl_), PoolR n8 n9 u176]) (by kernel_rfl) (by kernel_rfl) (by kernel_rfl) (by kernel_rfl) (by kernel_rfl) hW 0 (by rfl) (Nat.le_of_ble_eq_true (by kernel_rfl)) (by kernel_rfl) (by rfl) ?_)); clear hA ac hW; intro w190 hW ac hA
                         refine wpListIn_nil ?_
                         refine thenN ?_
                         refine wpIn_seq ?_
                         refine wpIn_seq ?_
                         refine wpIn_region_lit ?_
                         refine st_rdF (v := Value.func (.func 31) #[] lb186) hA (by kernel_rfl) (by kernel_rfl) (by kernel_rfl) (by kernel_rfl) hW.cls (Rd.pure fun _ => by kernel_rfl) ?_; clear hA ac; intro ac hA
                         refine wpListIn_nil ?_
                         refine thenN ?_
                         refine wpIn_block ?_
                         refine wp_range (encs := (fun x_ : Int × Mark => #[Value.int .i64 x_.1, x_.2.v])) (Sx := (EachR (look (vals u176) (y12.h)))) hA (by kernel_rfl) (by kernel_rfl) (enters_of Try.func31 (by kernel_rfl) rfl) (by kernel_rfl) (fun _ => rfl) hIg187 (List.forall_mem_singleton.2 (List.mem_of_getElem? (i := 0) rfl)) (fun pre_ H_ => ∃ bd : Bool, True ∧ (bd = pre_.any fun x => decide (x.2.clock > getC c x.1)) ∧ H_ = [Cel b188 #[Value.bool bd] 4]) (fun _ _ _ => False) (H := [Cel b188 #[Value.bool false] 4]) (K := [rowR 3 1 enI (Value.slice Ao180 (g179).length co181) g179, rowR 3 1 enI (Value.slice Ao20 (g19).length co21) g19, Cel b15 #[Value.int .i64 y12.what, Value.int .i64 y12.h, Value.int .i64 y12.id, Value.int .u64 y12.m.clock, Value.int .i64 y12.m.site.f, Value.int .i64 y12.m.site.pc] 34, allR (List.map DefR dl_), PoolR n8 n9 u176]) (hW.pick [0, 1, 2, 3, 4, 5] (by decide) rfl) ⟨false, trivial, by rfl, rfl⟩ ?_ ?_ ?_
                         · skip
                           clear hA ac hW; intro l_191 rd_191 bs_191 pre_ x_ Hk_ w192 T_191 ac hrd_191 hbs_191 hbr_191 hok_ hJ_ hA hW hB_191 hT_191
                           obtain ⟨bd, _, hbd, rfl⟩ := hJ_
                           obtain ⟨y193, h_⟩ : ∃ y_, y_ = x_ := ⟨_, rfl⟩; subst h_
                           replace hA : Fm 133 [] [(0, Value.slice (some ⟨b13, o14, none⟩) l.length c_l), (3, Value.pointer (some ⟨b1, 0, none⟩)), (4, Value.bool false), (5, Value.pointer (some ⟨n8, 0, none⟩)), (6, Value.int .i64 made), (7, Value.int .i64 ((k : Nat) : Int)), (8, Value.pointer (some ⟨b15, 0, none⟩)), (9, Value.slice Ao20 (g19).length co21), (13, Value.func (.func 31) #[] lb186), (14, Value.pointer (some ⟨b188, 0, none⟩)), (31, Value.int .i64 ((k : Nat) : Int)), (32, Value.slice (some ⟨b13, o14, none⟩) l.length c_l), (33, Value.int .i64 ((l.length : Nat) : Int)), (34, Value.bool (decide ((((k : Nat) : Int) : Int) < (((l.length : Nat) : Int) : Int)))), (37, Value.slice (some ⟨b13, o14, none⟩) l.length c_l), (38, Value.int .i64 ((k : Nat) : Int)), (39, Value.pointer (some ⟨b13, o14 + k * 6, none⟩)), (40, Value.agg #[Value.int .i64 y12.what, Value.int .i64 y12.h, Value.int .i64 y12.id, Value.int .u64 y12.m.clock, Value.int .i64 y12.m.site.f, Value.int .i64 y12.m.site.pc]), (41, Value.pointer (some ⟨n8, 0, none⟩)), (42, Value.slice Ao20 (g19).length co21), (43, Value.pointer (some ⟨b15, 0, none⟩)), (44, Value.int .i64 y12.what), (45, Value.pointer (some ⟨n8, 0, none⟩)), (46, Value.pointer (some ⟨b15, 1, none⟩)), (47, Value.int .i64 y12.h), (48, Value.pointer (some ⟨b15, 2, none⟩)), (49, Value.int .i64 y12.id), (50, Value.pointer (some ⟨b15, 3, none⟩)), (51, Value.agg #[Value.int .u64 y12.m.clock, Value.int .i64 y12.m.site.f, Value.int .i64 y12.m.site.pc]), (52, Value.int .i64 u177), (53, Value.bool ((y12.what : Int) == (0 : Int))), (54, Value.bool ((y12.what : Int) == (0 : Int))), (81, Value.bool ((y12.what : Int) == (5 : Int))), (82, Value.bool ((y12.what : Int) == (5 : Int))), (91, Value.pointer (some ⟨n8, 0, none⟩)), (92, Value.slice Ao180 (g179).length co181), (93, Value.int .i64 (((g179).length : Nat) : Int)), (94, Value.int .i64 made), (95, Value.bool (((((g179).length : Nat) : Int) : Int) != (made : Int))), (96, Value.pointer (some ⟨n8, 0, none⟩)), (97, Value.pointer (some ⟨b15, 1, none⟩)), (98, Value.int .i64 y12.h), (99, Value.func (.func 31) #[] lb186), (100, Value.func (.func 31) #[] lb186), (101, Value.bool false), (102, Value.func (.func 31) #[] lb186), (103, Value.int .i64 y193.1), (104, y193.2.v)] ac := hA.sub ⟨⟨by kernel_rfl, by kernel_rfl⟩, ⟨by kernel_rfl, by kernel_rfl⟩, ⟨by kernel_rfl, by kernel_rfl⟩, ⟨by kernel_rfl, by kernel_rfl⟩, ⟨by kernel_rfl, by kernel_rfl⟩, ⟨by kernel_rfl, by kernel_rfl⟩, ⟨by kernel_rfl, by kernel_rfl⟩, ⟨by kernel_rfl, by kernel_rfl⟩, ⟨by kernel_rfl, by kernel_rfl⟩, ⟨by kernel_rfl, by kernel_rfl⟩, ⟨by kernel_rfl, by kernel_rfl⟩, ⟨by kernel_rfl, by kernel_rfl⟩, ⟨by kernel_rfl, by kernel_rfl⟩, ⟨by kernel_rfl, by kernel_rfl⟩, ⟨by kernel_rfl, by kernel_rfl⟩, ⟨by kernel_rfl, by kernel_rfl⟩, ⟨by kernel_rfl, by kernel_rfl⟩, ⟨by kernel_rfl, by kernel_rfl⟩, ⟨by kernel_rfl, by kernel_rfl⟩, ⟨by kernel_rfl, by kernel_rfl⟩, ⟨by kernel_rfl, by kernel_rfl⟩, ⟨by kernel_rfl, by kernel_rfl⟩, ⟨by kernel_rfl, by kernel_rfl⟩, ⟨by kernel_rfl, by kernel_rfl⟩, ⟨by kernel_rfl, by kernel_rfl⟩, ⟨by kernel_rfl, by kernel_rfl⟩, ⟨by kernel_rfl, by kernel_rfl⟩, ⟨by kernel_rfl, by kernel_rfl⟩, ⟨by kernel_rfl, by kernel_rfl⟩, ⟨by kernel_rfl, by kernel_rfl⟩, ⟨by kernel_rfl, by kernel_rfl⟩, ⟨by kernel_rfl, by kernel_rfl⟩, ⟨by kernel_rfl, by kernel_rfl⟩, ⟨by kernel_rfl, by kernel_rfl⟩, ⟨by kernel_rfl, by kernel_rfl⟩, ⟨by kernel_rfl, by kernel_rfl⟩, ⟨by kernel_rfl, by kernel_rfl⟩, ⟨by kernel_rfl, by kernel_rfl⟩, ⟨by kernel_rfl, by kernel_rfl⟩, ⟨by kernel_rfl, by kernel_rfl⟩, ⟨by kernel_rfl, by kernel_rfl⟩, ⟨by kernel_rfl, by kernel_rfl⟩, ⟨by kernel_rfl, by kernel_rfl⟩, ⟨by kernel_rfl, by kernel_rfl⟩, ⟨by kernel_rfl, by kernel_rfl⟩, ⟨by kernel_rfl, by kernel_rfl⟩, ⟨by kernel_rfl, by kernel_rfl⟩, ⟨by kernel_rfl, by kernel_rfl⟩, trivial⟩
                           obtain ⟨hx0, hx1⟩ := each_id (fun m hm => (hK4' _ m hm).2) hok_
                           refine wpIn_seq ?_
                           refine wpIn_region_lit ?_
                           refine st_rdF (v := Value.int .i64 y193.1) hA (by kernel_rfl) (by kernel_rfl) (by kernel_rfl) (by kernel_rfl) hW.cls (Rd.pure fun _ => by kernel_rfl) ?_; clear hA ac; intro ac hA
                           refine wpListIn_nil ?_
                           refine thenN ?_
                           refine wpIn_region_lit ?_
                           refine stF hA (by kernel_rfl) (by kernel_rfl) (by kernel_rfl) (by kernel_rfl) (RunsF.of (Runs.cells (fun b => Value.pointer (some ⟨b, 0, none⟩)) #[Value.int .u64 0, Value.int .i64 0, Value.int .i64 0] 32 (fun _ => by kernel_rfl) hW ?_)); clear hA ac hW; intro b194 w195 hW hb194 hfw195 ac hA
                           refine stF hA (by kernel_rfl) (by kernel_rfl) (by kernel_rfl) (by kernel_rfl) (RunsF.of (Runs.store (v := y193.2.v) (b := b194) (j := 0) (n := 3) (cs' := #[Value.int .u64 y193.2.clock, Value.int .i64 y193.2.site.f, Value.int .i64 y193.2.site.pc]) (H' := [Cel b194 #[Value.int .u64 y193.2.clock, Value.int .i64 y193.2.site.f, Value.int .i64 y193.2.site.pc] 32, rd_191, Cel b188 #[Value.bool bd] 4]) (by kernel_rfl) (by kernel_rfl) (by kernel_rfl) (by kernel_rfl) (by kernel_rfl) hW 0 (by rfl) (Nat.le_of_ble_eq_true (by kernel_rfl)) (by kernel_rfl) (by rfl) ?_)); clear hA ac hW; intro w196 hW ac hA
                           refine wpListIn_nil ?_
                           refine thenN ?_
                           refine begun (bs := bs_191) (H' := [Cel b194 #[Value.int .u64 y193.2.clock, Value.int .i64 y193.2.site.f, Value.int .i64 y193.2.site.pc] 32, bs_191, Cel b188 #[Value.bool bd] 4]) hW 1 rfl (fun b hb => by rw [hbs_191] at hb; rw [hrd_191]; exact hb) rfl ?_; clear hW; intro w197 hW
                           refine wpIn_block ?_
                           refine wpIn_seq ?_
                           refine wpIn_region_lit ?_
                           refine st_rdF (v := Value.int .u64 0) hA (by kernel_rfl) (by kernel_rfl) (by kernel_rfl) (by kernel_rfl) hW.cls (Rd.pure fun _ => by kernel_rfl) ?_; clear hA ac; intro ac hA
                           refine wpListIn_nil ?_
                           refine thenN ?_
                           refine wpIn_seq ?_
                           refine wpIn_seq ?_
                           refine wpIn_region_lit ?_
                           refine st_rdF (v := Value.int .i64 y193.1) hA (by kernel_rfl) (by kernel_rfl) (by kernel_rfl) (by kernel_rfl) hW.cls (Rd.pure fun _ => by kernel_rfl) ?_; clear hA ac; intro ac hA
                           refine st_rdF (v := Value.slice A_c c.length c_c) hA (by kernel_rfl) (by kernel_rfl) (by kernel_rfl) (by kernel_rfl) hW.cls (Rd.load (b := b1) (i := 0) (by kernel_rfl) (fun _ hw => show _ = _ from (hw.1).getG 1 rfl) (by kernel_rfl)) ?_; clear hA ac; intro ac hA
                           refine st_rdF (v := Value.int .i64 ((c.length : Nat) : Int)) hA (by kernel_rfl) (by kernel_rfl) (by kernel_rfl) (by kernel_rfl) hW.cls (Rd.pure fun _ => by kernel_rfl) ?_; clear hA ac; intro ac hA
                           refine st_rdF (v := Value.bool (decide ((y193.1 : Int) < (((c.length : Nat) : Int) : Int)))) hA (by kernel_rfl) (by kernel_rfl) (by kernel_rfl) (by kernel_rfl) hW.cls (Rd.pure fun _ => by kernel_rfl) ?_; clear hA ac; intro ac hA
                           refine wpListIn_nil ?_
                           refine thenN ?_
                           refine wpIn_cond_split (t := decide ((y193.1 : Int) < (((c.length : Nat) : Int) : Int))) (hA.eval (by kernel_rfl)) (fun h198 => ?_) (fun h198 => ?_)
                           · skip
                             have h198 := of_decide_eq_true h198
                             first
                             | (exfalso; clear hA hW; omega)
                             | (
                               refine wpIn_region_lit ?_
                               refine st_rdF (v := Value.slice A_c c.length c_c) hA (by kernel_rfl) (by kernel_rfl) (by kernel_rfl) (by kernel_rfl) hW.cls (Rd.load (b := b1) (i := 0) (by kernel_rfl) (fun _ hw => show _ = _ from (hw.1).getG 1 rfl) (by kernel_rfl)) ?_; clear hA ac; intro ac hA
                               refine st_rdF (v := Value.int .i64 y193.1) hA (by kernel_rfl) (by kernel_rfl) (by kernel_rfl) (by kernel_rfl) hW.cls (Rd.pure fun _ => by kernel_rfl) ?_; clear hA ac; intro ac hA
                               obtain ⟨y199, hy199⟩ : ∃ y, c[Int.toNat (y193.1)]? = some y := ⟨_, List.getElem?_eq_getElem (by first | omega | (simp; done) | (simp; omega))⟩
                               obtain ⟨b200, o201, rfl, hbb200⟩ := row_some ((hW).getG 2 rfl) hy199
                               refine st_rdF (v := Value.pointer (some ⟨b200, o201 + (Int.toNat (y193.1)) * 1, none⟩)) hA (by kernel_rfl) (by kernel_rfl) (by kernel_rfl) (by kernel_rfl) hW.cls (Rd.indexAddrI (e := 28) (sz := 1) (b := b200) (off := o201) (n := c.length) (c := c_c) (k := y193.1) (by kernel_rfl) (by kernel_rfl) (by omega) (by first | omega | (simp; done) | (simp; omega)) (fun _ => by kernel_rfl) (fun _ => by kernel_rfl)) ?_; clear hA ac; intro ac hA
                               refine st_rdF (v := Value.int .u64 y199) hA (by kernel_rfl) (by kernel_rfl) (by kernel_rfl) (by kernel_rfl) hW.cls (Rd.loadRow (b := b200) (i := o201 + (Int.toNat (y193.1)) * 1) (xs := [Value.int .u64 y199]) (by kernel_rfl) (fun _ hw => row_ld ((hw.1).getG 2 rfl) hy199 (Fr.refl No _) (fun h => h) 0 1 (by kernel_rfl)) (by kernel_rfl)) ?_; clear hA ac; intro ac hA
                               refine st_rdF (v := Value.int .u64 y199) hA (by kernel_rfl) (by kernel_rfl) (by kernel_rfl) (by kernel_rfl) hW.cls (Rd.pure fun _ => by kernel_rfl) ?_; clear hA ac; intro ac hA
                               refine wpListIn_nil ?_
                               refine thenN ?_
                               have hg_ := getC_at hx0 hy199
                               refine wpIn_region_lit ?_
                               refine st_rdF (v := Value.bool bd) hA (by kernel_rfl) (by kernel_rfl) (by kernel_rfl) (by kernel_rfl) hW.cls (Rd.load (b := b188) (i := 0) (by kernel_rfl) (fun _ hw => (hw.1).cel 2 rfl) (by kernel_rfl)) ?_; clear hA ac; intro ac hA
                               refine st_rdF (v := Value.bool bd) hA (by kernel_rfl) (by kernel_rfl) (by kernel_rfl) (by kernel_rfl) hW.cls (Rd.pure fun _ => by kernel_rfl) ?_; clear hA ac; intro ac hA
                               rcases Bool.eq_false_or_eq_true (bd) with h202 | h202
                               · skip
                                 rw [h202] at hA hW
                                 first
                                 | (exfalso; clear hA hW; omega)
                                 | (
                                   refine st_skipF hA (by kernel_rfl) (by kernel_rfl) ?_; clear hA ac; intro ac hA
                                   refine st_skipF hA (by kernel_rfl) (by kernel_rfl) ?_; clear hA ac; intro ac hA
                                   refine st_skipF hA (by kernel_rfl) (by kernel_rfl) ?_; clear hA ac; intro ac hA
                                   refine st_skipF hA (by kernel_rfl) (by kernel_rfl) ?_; clear hA ac; intro ac hA
                                   refine st_rdF (v := Value.bool true) hA (by kernel_rfl) (by kernel_rfl) (by kernel_rfl) (by kernel_rfl) hW.cls (Rd.pure fun _ => by kernel_rfl) ?_; clear hA ac; intro ac hA
                                   refine stF hA (by kernel_rfl) (by kernel_rfl) (by kernel_rfl) (by kernel_rfl) (RunsF.of (Runs.store (v := Value.bool true) (b := b188) (j := 0) (n := 1) (cs' := #[Value.bool true]) (H' := [Cel b194 #[Value.int .u64 y193.2.clock, Value.int .i64 y193.2.site.f, Value.int .i64 y193.2.site.pc] 32, bs_191, Cel b188 #[Value.bool true] 4]) (by kernel_rfl) (by kernel_rfl) (by kernel_rfl) (by kernel_rfl) (by kernel_rfl) hW 2 (by rfl) (Nat.le_of_ble_eq_true (by kernel_rfl)) (by kernel_rfl) (by rfl) ?_)); clear hA ac hW; intro w203 hW ac hA
                                   refine wpListIn_nil ?_
                                   refine blkN ?_
                                   exact ⟨_, ⟨true, trivial, by rw [any_snoc, ← hbd]; first | (rw [h202]; rfl) | (rw [h202, hg_]; simp; done) | (rw [h202, ← hg_]; simp; done), rfl⟩, (hW.pick [1, 2] (by decide) rfl).pickG [0, 1, 2, 3] rfl⟩)
                               · skip
                                 rw [h202] at hA hW
                                 first
                                 | (exfalso; clear hA hW; omega)
                                 | (
                                   refine st_rdF (v := Value.pointer (some ⟨b194, 0, none⟩)) hA (by kernel_rfl) (by kernel_rfl) (by kernel_rfl) (by kernel_rfl) hW.cls (Rd.pure fun _ => by kernel_rfl) ?_; clear hA ac; intro ac hA
                                   refine st_rdF (v := Value.int .u64 y193.2.clock) hA (by kernel_rfl) (by kernel_rfl) (by kernel_rfl) (by kernel_rfl) hW.cls (Rd.load (b := b194) (i := 0) (by kernel_rfl) (fun _ hw => (hw.1).cel 0 rfl) (by kernel_rfl)) ?_; clear hA ac; intro ac hA
                                   refine st_rdF (v := Value.int .u64 y199) hA (by kernel_rfl) (by kernel_rfl) (by kernel_rfl) (by kernel_rfl) hW.cls (Rd.pure fun _ => by kernel_rfl) ?_; clear hA ac; intro ac hA
                                   refine st_rdF (v := Value.bool (decide ((y193.2.clock : Int) > (y199 : Int)))) hA (by kernel_rfl) (by kernel_rfl) (by kernel_rfl) (by kernel_rfl) hW.cls (Rd.pure fun _ => by kernel_rfl) ?_; clear hA ac; intro ac hA
                                   refine st_rdF (v := Value.bool (decide ((y193.2.clock : Int) > (y199 : Int)))) hA (by kernel_rfl) (by kernel_rfl) (by kernel_rfl) (by kernel_rfl) hW.cls (Rd.pure fun _ => by kernel_rfl) ?_; clear hA ac; intro ac hA
                                   refine stF hA (by kernel_rfl) (by kernel_rfl) (by kernel_rfl) (by kernel_rfl) (RunsF.of (Runs.store (v := Value.bool (decide ((y193.2.clock : Int) > (y199 : Int)))) (b := b188) (j := 0) (n := 1) (cs' := #[Value.bool (decide ((y193.2.clock : Int) > (y199 : Int)))]) (H' := [Cel b194 #[Value.int .u64 y193.2.clock, Value.int .i64 y193.2.site.f, Value.int .i64 y193.2.site.pc] 32, bs_191, Cel b188 #[Value.bool (decide ((y193.2.clock : Int) > (y199 : Int)))] 4]) (by kernel_rfl) (by kernel_rfl) (by kernel_rfl) (by kernel_rfl) (by kernel_rfl) hW 2 (by rfl) (Nat.le_of_ble_eq_true (by kernel_rfl)) (by kernel_rfl) (by rfl) ?_)); clear hA ac hW; intro w204 hW ac hA
                                   refine wpListIn_nil ?_
                                   refine blkN ?_
                                   exact ⟨_, ⟨decide ((y193.2.clock : Int) > (y199 : Int)), trivial, by rw [any_snoc, ← hbd]; first | (rw [h202]; rfl) | (rw [h202, hg_]; simp; done) | (rw [h202, ← hg_]; simp; done), rfl⟩, (hW.pick [1, 2] (by decide) rfl).pickG [0, 1, 2, 3] rfl⟩))
                           · skip
                             have h198 := of_decide_eq_false h198
                             first
                             | (exfalso; clear hA hW; omega)
                             | (
                               refine wpIn_skip ?_
                               refine thenN ?_
                               have hg_ := getC_no (c := c) (i := y193.1) (.inr (by omega))
                               refine wpIn_region_lit ?_
                               refine st_rdF (v := Value.bool bd) hA (by kernel_rfl) (by kernel_rfl) (by kernel_rfl) (by kernel_rfl) hW.cls (Rd.load (b := b188) (i := 0) (by kernel_rfl) (fun _ hw => (hw.1).cel 2 rfl) (by kernel_rfl)) ?_; clear hA ac; intro ac hA
                               refine st_rdF (v := Value.bool bd) hA (by kernel_rfl) (by kernel_rfl) (by kernel_rfl) (by kernel_rfl) hW.cls (Rd.pure fun _ => by kernel_rfl) ?_; clear hA ac; intro ac hA
                               rcases Bool.eq_false_or_eq_true (bd) with h205 | h205
                               · skip
                                 rw [h205] at hA hW
                                 first
                                 | (exfalso; clear hA hW; omega)
                                 | (
                                   refine st_skipF hA (by kernel_rfl) (by kernel_rfl) ?_; clear hA ac; intro ac hA
                                   refine st_skipF hA (by kernel_rfl) (by kernel_rfl) ?_; clear hA ac; intro ac hA
                                   refine st_skipF hA (by kernel_rfl) (by kernel_rfl) ?_; clear hA ac; intro ac hA
                                   refine st_skipF hA (by kernel_rfl) (by kernel_rfl) ?_; clear hA ac; intro ac hA
                                   refine st_rdF (v := Value.bool true) hA (by kernel_rfl) (by kernel_rfl) (by kernel_rfl) (by kernel_rfl) hW.cls (Rd.pure fun _ => by kernel_rfl) ?_; clear hA ac; intro ac hA
                                   refine stF hA (by kernel_rfl) (by kernel_rfl) (by kernel_rfl) (by kernel_rfl) (RunsF.of (Runs.store (v := Value.bool true) (b := b188) (j := 0) (n := 1) (cs' := #[Value.bool true]) (H' := [Cel b194 #[Value.int .u64 y193.2.clock, Value.int .i64 y193.2.site.f, Value.int .i64 y193.2.site.pc] 32, bs_191, Cel b188 #[Value.bool true] 4]) (by kernel_rfl) (by kernel_rfl) (by kernel_rfl) (by kernel_rfl) (by kernel_rfl) hW 2 (by rfl) (Nat.le_of_ble_eq_true (by kernel_rfl)) (by kernel_rfl) (by rfl) ?_)); clear hA ac hW; intro w206 hW ac hA
                                   refine wpListIn_nil ?_
                                   refine blkN ?_
                                   exact ⟨_, ⟨true, trivial, by rw [any_snoc, ← hbd]; first | (rw [h205]; rfl) | (rw [h205, hg_]; simp; done) | (rw [h205, ← hg_]; simp; done), rfl⟩, (hW.pick [1, 2] (by decide) rfl).pickG [0, 1, 2, 3] rfl⟩)
                               · skip
                                 rw [h205] at hA hW
                                 first
                                 | (exfalso; clear hA hW; omega)
                                 | (
                                   refine st_rdF (v := Value.pointer (some ⟨b194, 0, none⟩)) hA (by kernel_rfl) (by kernel_rfl) (by kernel_rfl) (by kernel_rfl) hW.cls (Rd.pure fun _ => by kernel_rfl) ?_; clear hA ac; intro ac hA
                                   refine st_rdF (v := Value.int .u64 y193.2.clock) hA (by kernel_rfl) (by kernel_rfl) (by kernel_rfl) (by kernel_rfl) hW.cls (Rd.load (b := b194) (i := 0) (by kernel_rfl) (fun _ hw => (hw.1).cel 0 rfl) (by kernel_rfl)) ?_; clear hA ac; intro ac hA
                                   refine st_rdF (v := Value.int .u64 0) hA (by kernel_rfl) (by kernel_rfl) (by kernel_rfl) (by kernel_rfl) hW.cls (Rd.pure fun _ => by kernel_rfl) ?_; clear hA ac; intro ac hA
                                   refine st_rdF (v := Value.bool (decide ((y193.2.clock : Int) > (0 : Int)))) hA (by kernel_rfl) (by kernel_rfl) (by kernel_rfl) (by kernel_rfl) hW.cls (Rd.pure fun _ => by kernel_rfl) ?_; clear hA ac; intro ac hA
                                   refine st_rdF (v := Value.bool (decide ((y193.2.clock : Int) > (0 : Int)))) hA (by kernel_rfl) (by kernel_rfl) (by kernel_rfl) (by kernel_rfl) hW.cls (Rd.pure fun _ => by kernel_rfl) ?_; clear hA ac; intro ac hA
                                   refine stF hA (by kernel_rfl) (by kernel_rfl) (by kernel_rfl) (by kernel_rfl) (RunsF.of (Runs.store (v := Value.bool (decide ((y193.2.clock : Int) > (0 : Int)))) (b := b188) (j := 0) (n := 1) (cs' := #[Value.bool (decide ((y193.2.clock : Int) > (0 : Int)))]) (H' := [Cel b194 #[Value.int .u64 y193.2.clock, Value.int .i64 y193.2.site.f, Value.int .i64 y193.2.site.pc] 32, bs_191, Cel b188 #[Value.bool (decide ((y193.2.clock : Int) > (0 : Int)))] 4]) (by kernel_rfl) (by kernel_rfl) (by kernel_rfl) (by kernel_rfl) (by kernel_rfl) hW 2 (by rfl) (Nat.le_of_ble_eq_true (by kernel_rfl)) (by kernel_rfl) (by rfl) ?_)); clear hA ac hW; intro w207 hW ac hA
                                   refine wpListIn_nil ?_
                                   refine blkN ?_
                                   exact ⟨_, ⟨decide ((y193.2.clock : Int) > (0 : Int)), trivial, by rw [any_snoc, ← hbd]; first | (rw [h205]; rfl) | (rw [h205, hg_]; simp; done) | (rw [h205, ← hg_]; simp; done), rfl⟩, (hW.pick [1, 2] (by decide) rfl).pickG [0, 1, 2, 3] rfl⟩))
                         · skip
                           clear hA ac hW; intro D208 xs_ Hk_ w209 ac hS_ hJ_ hA hW
                           obtain ⟨bd, _, hbd, rfl⟩ := hJ_
                           replace hW : Ws w No [Cel b188 #[Value.bool bd] 4, DefR D208, rowR 3 1 enI (Value.slice Ao180 (g179).length co181) g179, rowR 3 1 enI (Value.slice Ao20 (g19).length co21) g19, Cel b15 #[Value.int .i64 y12.what, Value.int .i64 y12.h, Value.int .i64 y12.id, Value.int .u64 y12.m.clock, Value.int .i64 y12.m.site.f, Value.int .i64 y12.m.site.pc] 34, allR (List.map DefR dl_), PoolR n8 n9 u176] [g187, Cel b1 #[Value.slice A_c c.length c_c] 24, roR A_c 1 enU c, roR (some ⟨b13, o14, none⟩) 6 enAct23 l] w209 := hW
                           refine blkN ?_
                           refine thenN ?_
                           refine wpIn_seq ?_
                           refine wpIn_region_lit ?_
                           refine st_rdF (v := Value.pointer (some ⟨n8, 0, none⟩)) hA (by kernel_rfl) (by kernel_rfl) (by kernel_rfl) (by kernel_rfl) hW.cls (Rd.pure fun _ => by kernel_rfl) ?_; clear hA ac; intro ac hA
                           refine st_rdF (v := Value.pointer (some ⟨b15, 1, none⟩)) hA (by kernel_rfl) (by kernel_rfl) (by kernel_rfl) (by kernel_rfl) hW.cls (Rd.pure fun _ => by kernel_rfl) ?_; clear hA ac; intro ac hA
                           refine st_rdF (v := Value.int .i64 y12.h) hA (by kernel_rfl) (by kernel_rfl) (by kernel_rfl) (by kernel_rfl) hW.cls (Rd.load (b := b15) (i := 1) (by kernel_rfl) (fun _ hw => (hw.1).cel 4 rfl) (by kernel_rfl)) ?_; clear hA ac; intro ac hA
                           refine st_rdF (v := Value.slice A_c c.length c_c) hA (by kernel_rfl) (by kernel_rfl) (by kernel_rfl) (by kernel_rfl) hW.cls (Rd.load (b := b1) (i := 0) (by kernel_rfl) (fun _ hw => show _ = _ from (hw.1).getG 1 rfl) (by kernel_rfl)) ?_; clear hA ac; intro ac hA
                           refine stF hA (by kernel_rfl) (by kernel_rfl) (by kernel_rfl) (by kernel_rfl) (RunsF.of (Runs.call (fun _ => by kernel_rfl) (e_beyond n8 n9 u176 (y12.h) A_c c_c c w209 ((hW).get 6 rfl) ((hW).lt _ (List.mem_of_getElem? (i := 6) rfl)) ((hW).getG 2 rfl) (by first | assumption | omega | (simp; omega) | simp) (by first | omega | exact (fun e he => by have := hK3 e he; omega) | exact (fun e he => by have := hK3' e he; omega) | exact hK4' _ | exact (Act23.bounds (hwf _ (List.mem_of_getElem? ‹_›))).1 | exact (Act23.bounds (hwf _ (List.mem_of_getElem? ‹_›))).2 | assumption) (by first | omega | exact (fun e he => by have := hK3 e he; omega) | exact (fun e he => by have := hK3' e he; omega) | exact hK4' _ | exact (Act23.bounds (hwf _ (List.mem_of_getElem? ‹_›))).1 | exact (Act23.bounds (hwf _ (List.mem_of_getElem? ‹_›))).2 | assumption)) ?_))
                           rintro _ w210 ⟨g211, g212, g213, rfl, hw210_hB, hfw210⟩; refine ⟨_, rfl, ?_⟩; have hW0 := hW; have hW := hW0.call hfw210
                           clear hW0 hA ac; intro ac hA
                           refine st_rdF (v := Value.tuple #[Value.int .i64 g211, g212.v, Value.bool g213]) hA (by kernel_rfl) (by kernel_rfl) (by kernel_rfl) (by kernel_rfl) hW.cls (Rd.pure fun _ => by kernel_rfl) ?_; clear hA ac; intro ac hA
                           refine st_rdF (v := Value.int .i64 g211) hA (by kernel_rfl) (by kernel_rfl) (by kernel_rfl) (by kernel_rfl) hW.cls (Rd.pure fun _ => by kernel_rfl) ?_; clear hA ac; intro ac hA
                           refine st_rdF (v := g212.v) hA (by kernel_rfl) (by kernel_rfl) (by kernel_rfl) (by kernel_rfl) hW.cls (Rd.pure fun _ => by kernel_rfl) ?_; clear hA ac; intro ac hA
                           refine st_rdF (v := Value.bool g213) hA (by kernel_rfl) (by kernel_rfl) (by kernel_rfl) (by kernel_rfl) hW.cls (Rd.pure fun _ => by kernel_rfl) ?_; clear hA ac; intro ac hA
                           refine stF hA (by kernel_rfl) (by kernel_rfl) (by kernel_rfl) (by kernel_rfl) (RunsF.of (Runs.cells (fun b => Value.pointer (some ⟨b, 0, none⟩)) #[Value.int .u64 0, Value.int .i64 0, Value.int .i64 0] 32 (fun _ => by kernel_rfl) hW ?_)); clear hA ac hW; intro b214 w215 hW hb214 hfw215 ac hA
                           refine st_rdF (v := Value.int .i64 g211) hA (by kernel_rfl) (by kernel_rfl) (by kernel_rfl) (by kernel_rfl) hW.cls (Rd.pure fun _ => by kernel_rfl) ?_; clear hA ac; intro ac hA
                           refine stF hA (by kernel_rfl) (by kernel_rfl) (by kernel_rfl) (by kernel_rfl) (RunsF.of (Runs.store (v := g212.v) (b := b214) (j := 0) (n := 3) (cs' := #[Value.int .u64 g212.clock, Value.int .i64 g212.site.f, Value.int .i64 g212.site.pc]) (H' := [Cel b214 #[Value.int .u64 g212.clock, Value.int .i64 g212.site.f, Value.int .i64 g212.site.pc] 32, Cel b188 #[Value.bool bd] 4, DefR D208, rowR 3 1 enI (Value.slice Ao180 (g179).length co181) g179, rowR 3 1 enI (Value.slice Ao20 (g19).length co21) g19, Cel b15 #[Value.int .i64 y12.what, Value.int .i64 y12.h, Value.int .i64 y12.id, Value.int .u64 y12.m.clock, Value.int .i64 y12.m.site.f, Value.int .i64 y12.m.site.pc] 34, allR (List.map DefR dl_), PoolR n8 n9 u176]) (by kernel_rfl) (by kernel_rfl) (by kernel_rfl) (by kernel_rfl) (by kernel_rfl) hW 0 (by rfl) (Nat.le_of_ble_eq_true (by kernel_rfl)) (by kernel_rfl) (by rfl) ?_)); clear hA ac hW; intro w216 hW ac hA
                           refine st_rdF (v := Value.bool g213) hA (by kernel_rfl) (by kernel_rfl) (by kernel_rfl) (by kernel_rfl) hW.cls (Rd.pure fun _ => by kernel_rfl) ?_; clear hA ac; intro ac hA
                           refine wpListIn_nil ?_
                           refine thenN ?_
                           refine wpIn_seq ?_
                           refine wpIn_region_lit ?_
                           refine st_rdF (v := Value.bool g213) hA (by kernel_rfl) (by kernel_rfl) (by kernel_rfl) (by kernel_rfl) hW.cls (Rd.pure fun _ => by kernel_rfl) ?_; clear hA ac; intro ac hA
                           refine st_rdF (v := Value.bool bd) hA (by kernel_rfl) (by kernel_rfl) (by kernel_rfl) (by kernel_rfl) hW.cls (Rd.load (b := b188) (i := 0) (by kernel_rfl) (fun _ hw => (hw.1).cel 1 rfl) (by kernel_rfl)) ?_; clear hA ac; intro ac hA
                           refine st_rdF (v := Value.bool (!(g213 == bd))) hA (by kernel_rfl) (by kernel_rfl) (by kernel_rfl) (by kernel_rfl) hW.cls (Rd.pure fun _ => by kernel_rfl) ?_; clear hA ac; intro ac hA
                           refine wpListIn_nil ?_
                           refine thenN ?_
                           refine wpIn_cond_split (t := !(g213 == bd)) (hA.eval (by kernel_rfl)) (fun h217 => ?_) (fun h217 => ?_)
                           · skip
                             have h217 := bbne_t h217
                             first
                             | (exfalso; clear hA hW; omega)
                             | (exfalso; clear hA hW; exact absurd (bey_each hw210_hB hS_ hbd) h217; done)
                             | (
                               refine wpIn_seq ?_
                               refine wpIn_region_lit ?_
                               refine st_rdF (v := Value.bool false) hA (by kernel_rfl) (by kernel_rfl) (by kernel_rfl) (by kernel_rfl) hW.cls (Rd.pure fun _ => by kernel_rfl) ?_; clear hA ac; intro ac hA
                               refine wpListIn_nil ?_
                               refine thenN ?_
                               refine wpIn_ret ?_
                               refine blkR ?_
                               refine thenR ?_
                               refine thenR ?_
                               refine blkR ?_
                               refine thenR ?_
                               refine retF (.inl rfl) hA ?_
                               refine leaveD (H' := [Cel b214 #[Value.int .u64 g212.clock, Value.int .i64 g212.site.f, Value.int .i64 g212.site.pc] 32, Cel b188 #[Value.bool bd] 4, rowR 3 1 enI (Value.slice Ao180 (g179).length co181) g179, rowR 3 1 enI (Value.slice Ao20 (g19).length co21) g19, Cel b15 #[Value.int .i64 y12.what, Value.int .i64 y12.h, Value.int .i64 y12.id, Value.int .u64 y12.m.clock, Value.int .i64 y12.m.site.f, Value.int .i64 y12.m.site.pc] 34, allR (List.map DefR dl_), PoolR n8 n9 u176]) hW 2 rfl rfl ?_; clear hW; intro w218 hW
                               refine leaveDs (hW.pick [5, 0, 1, 2, 3, 4, 6] (by decide) rfl) ?_; clear hW; intro w219 hW
                               refine leave1 (v := Value.bool false) (by rfl) (GotF.tmp hA (by kernel_rfl) (by kernel_rfl)) ?_
                               clear hA
                               exact ⟨retv (by rfl), hW.fr⟩)
                           · skip
                             have h217 := bbne_f h217
                             first
                             | (exfalso; clear hA hW; omega)
                             | (exfalso; clear hA hW; exact absurd (bey_each hw210_hB hS_ hbd) h217; done)
                             | (
                               refine wpIn_skip ?_
                               refine blkN ?_
                               refine thenN ?_
                               refine wpIn_region_lit ?_
                               refine st_rdF (v := Value.int .i64 ((k : Nat) : Int)) hA (by kernel_rfl) (by kernel_rfl) (by kernel_rfl) (by kernel_rfl) hW.cls (Rd.pure fun _ => by kernel_rfl) ?_; clear hA ac; intro ac hA
                               refine st_rdF (v := Value.int .i64 ((k + 1 : Nat) : Int)) hA (by kernel_rfl) (by kernel_rfl) (by kernel_rfl) (by kernel_rfl) hW.cls (Rd.pureE (v0 := Value.int .i64 (IntKind.i64.wrap ((((k : Nat) : Int) : Int) + 1))) (fun _ => by kernel_rfl) (congrArg (Value.int .i64) ((w_i64 (x := (((k : Nat) : Int) : Int) + 1) (by omega) (by omega)).trans (by omega)))) ?_; clear hA ac; intro ac hA
                               refine st_rdF (v := Value.int .i64 ((k + 1 : Nat) : Int)) hA (by kernel_rfl) (by kernel_rfl) (by kernel_rfl) (by kernel_rfl) hW.cls (Rd.pure fun _ => by kernel_rfl) ?_; clear hA ac; intro ac hA
                               refine wpListIn_nil ?_
                               refine thenN ?_
                               have hW := Ws.defCons (hW.pick [2, 6, 0, 1, 3, 4, 5, 7] (by decide) rfl)
                               exact ⟨l.length - (k + 1), by omega, k + 1, u176, made, (D208 :: dl_), rfl, by omega, by exact hK2, by omega, hA.sub ⟨⟨by kernel_rfl, by kernel_rfl⟩, ⟨by kernel_rfl, by kernel_rfl⟩, ⟨by kernel_rfl, by kernel_rfl⟩, ⟨by kernel_rfl, by kernel_rfl⟩, ⟨by kernel_rfl, by kernel_rfl⟩, ⟨by kernel_rfl, by kernel_rfl⟩, trivial⟩, (hW.pick [0, 6] (by decide) rfl).pickG [1, 2, 3] rfl⟩)
                         · skip
                           clear hA ac hW; intro D220 c_ pre_ Hk_ w221 ac hJ_ hA hW
                           exact hJ_.elim))))
         · skip
           have h11 := of_decide_eq_false h11
           first
           | (exfalso; clear hA hW; omega)
           | (
             refine wpIn_exit ?_
             refine thenX ?_
             refine thenX ?_
             refine blkX ?_
             refine thenN ?_
             refine wpIn_seq ?_
             refine wpIn_region_lit ?_
             refine stF hA (by kernel_rfl) (by kernel_rfl) (by kernel_rfl) (by kernel_rfl) (RunsF.of (Runs.callN (v := Value.bool true) (fun _ => by kernel_rfl) hW (e_works23 w10) ?_)); clear hA ac hW; intro w222 hW hfw222 ac hA
             refine st_rdF (v := Value.bool true) hA (by kernel_rfl) (by kernel_rfl) (by kernel_rfl) (by kernel_rfl) hW.cls (Rd.pure fun _ => by kernel_rfl) ?_; clear hA ac; intro ac hA
             refine wpListIn_nil ?_
             refine thenN ?_
             refine wpIn_ret ?_
             refine retF (.inl rfl) hA ?_
             refine leaveDs (hW.pick [0, 1] (by decide) rfl) ?_; clear hW; intro w223 hW
             refine leave1 (v := Value.bool true) (by rfl) (GotF.tmp hA (by kernel_rfl) (by kernel_rfl)) ?_
             clear hA
             exact ⟨retv (by rfl), hW.fr⟩)))

theorem holds23_walk (A : Option Addr) (len cap : Nat) (l : List Act23) (A2 : Option Addr) (len2 cap2 : Nat) (c : List Int) (w : World) (hl : l.length = len) (hc : len ≤ cap) (_ : cap ≤ maxLen) (hwf : ∀ x ∈ l, wfAct23 x) (hr : RowAt w A 6 enAct23 l) (hl2 : c.length = len2) (hc2 : len2 ≤ cap2) (_ : cap2 ≤ maxLen) (_ : ∀ x ∈ c, wfU x) (hr2 : RowAt w A2 1 enU c) :
    Calls Try.prog 3 #[.slice A len cap, .slice A2 len2 cap2] w fun e w' => e = .returned (.bool true) ∧ Fr No w w' := by
  subst hl hl2
  exact e_poolHolds A cap l A2 cap2 c w hr hc hr2 hc2 hwf
end Go.Proofs.Ytobbocpacacnhaa.L
