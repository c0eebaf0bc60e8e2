/- Contracts, walked by program over the engine's laws. -/
import Derived.Test.YtobbocpacacnhaaProg
import Derived.Test.YtobbocpacacnhaaT5
namespace Go.Proofs.Ytobbocpacacnhaa.L
open Go.RowKit

set_option maxRecDepth 100000 in
theorem e_cloneN  (w : World)  : Calls Try.prog 28 #[Value.map none] w (fun e w' => e = .returned (Value.map none) ∧ Fr No w w') := by
  refine enter_E 9 Try.func28 rfl rfl (by kernel_rfl) (L := [(0, Value.map none)]) (by kernel_rfl) ?_
  intro ac hA
  have hW := Ws.start w No
  refine wp_seq ?_
  refine wp_region_lit ?_
  refine st_rd (v := Value.map none) hA (by kernel_rfl) (by kernel_rfl) (by kernel_rfl) hW.cls (Rd.pure fun _ => by kernel_rfl) ?_; clear hA ac; intro ac hA
  refine wpList_nil ?_
  refine thenN ?_
  refine wp_seq ?_
  refine wp_seq ?_
  refine wp_region_lit ?_
  refine st_rd (v := Value.map none) hA (by kernel_rfl) (by kernel_rfl) (by kernel_rfl) hW.cls (Rd.pure fun _ => by kernel_rfl) ?_; clear hA ac; intro ac hA
  refine st_rd (v := Value.bool true) hA (by kernel_rfl) (by kernel_rfl) (by kernel_rfl) hW.cls (Rd.pure fun _ => by kernel_rfl) ?_; clear hA ac; intro ac hA
  refine wpList_nil ?_
  refine thenN ?_
  refine wp_cond_true (hA.eval (by kernel_rfl)) ?_
  refine wp_seq ?_
  refine wp_region_lit ?_
  refine st_rd (v := Value.map none) hA (by kernel_rfl) (by kernel_rfl) (by kernel_rfl) hW.cls (Rd.pure fun _ => by kernel_rfl) ?_; clear hA ac; intro ac hA
  refine wpList_nil ?_
  refine thenN ?_
  refine wp_ret ?_
  refine thenR ?_
  refine ret1 (v := Value.map none) (by rfl) hA (Got.tmp hA (by kernel_rfl) (by kernel_rfl)) ?_
  clear hA
  exact ⟨retv (by rfl), hW.fr⟩

set_option maxRecDepth 100000 in
theorem e_each (p : Nat) (b : Nat) (V : List (Int × Nat × List (Int × Mark))) (h : Int) (w : World) (ho_p : (PoolR p b V).p w) (hl_p : ∀ x_ ∈ (PoolR p b V).fp, x_ < w.heap.size) (hP : ∀ m, look (vals V) h = some m → m.length ≤ 100000 ∧ ∀ x ∈ m, 0 ≤ x.1 ∧ x.1 ≤ 65536) : Calls Try.prog 14 #[Value.pointer (some ⟨p, 0, none⟩), Value.int .i64 h] w (fun e w' => ∃ (lb : Array Value) (g : Res), e = .returned (Value.func (.func 31) #[] lb) ∧ Iter Try.prog 31 lb (fun x_ : Int × Mark => #[Value.int .i64 x_.1, x_.2.v]) (EachR (look (vals V) h)) [g] ∧ g.from_ [] w w' ∧ Fr No w w') := by
  have _hu := ho_p; have _hv := hl_p; clear _hu _hv
  have _hu := hP; clear _hu
  refine enter_E 14 Try.func14 rfl rfl (by kernel_rfl) (L := [(0, Value.pointer (some ⟨p, 0, none⟩)), (1, Value.int .i64 h)]) (by kernel_rfl) ?_
  intro ac hA
  have hW := Ws.start w No
  have hW := hW.addG (PoolR p b V) ho_p hl_p (by simp)
  have hW := hW.objG (L := [Cel p #[Value.map (some b)] 62, mapR b (fun a : Int => Value.int .i64 a) (fun x_ : Nat => Value.map (some x_)) (outs V), SubR (fun (c_ : List (Int × Mark)) (b_ : Nat) => mapR b_ (fun a : Int => Value.int .i64 a) Mark.v c_) V]) ho_p hl_p
  clear ho_p hl_p
  refine wp_seq ?_
  refine wp_region_lit ?_
  refine st_rd (v := Value.nilFunc) hA (by kernel_rfl) (by kernel_rfl) (by kernel_rfl) hW.cls (Rd.pure fun _ => by kernel_rfl) ?_; clear hA ac; intro ac hA
  refine wpList_nil ?_
  refine thenN ?_
  refine wp_seq ?_
  rcases hk1 : look (outs V) (h : Int) with _ | bk2
  · skip
    first
    | (exfalso; clear hA hW; omega)
    | (
        refine wp_region_lit ?_
        refine st_rd (v := Value.pointer (some ⟨p, 0, none⟩)) hA (by kernel_rfl) (by kernel_rfl) (by kernel_rfl) hW.cls (Rd.pure fun _ => by kernel_rfl) ?_; clear hA ac; intro ac hA
        refine st_rd (v := Value.int .i64 h) hA (by kernel_rfl) (by kernel_rfl) (by kernel_rfl) hW.cls (Rd.pure fun _ => by kernel_rfl) ?_; clear hA ac; intro ac hA
        refine st hA (by kernel_rfl) (by kernel_rfl) (by kernel_rfl) (Runs.callN (v := Value.map none) (fun _ => by kernel_rfl) hW ((by have h_ := e_of p b V (h) w ((hW).getG 3 rfl) ((hW).glt _ (List.mem_of_getElem? (i := 3) rfl)); rw [hk1] at h_; exact h_)) ?_); clear hA ac hW; intro w3 hW hfw3 ac hA
        refine st hA (by kernel_rfl) (by kernel_rfl) (by kernel_rfl) (Runs.callN (v := Value.map none) (fun _ => by kernel_rfl) hW (e_cloneN w3) ?_); clear hA ac hW; intro w4 hW hfw4 ac hA
        refine st hA (by kernel_rfl) (by kernel_rfl) (by kernel_rfl) (Runs.cells (fun b => Value.pointer (some ⟨b, 0, none⟩)) #[Value.map none] 69 (fun _ => by kernel_rfl) hW ?_); clear hA ac hW; intro b5 w6 hW hb5 hfw6 ac hA
        refine st hA (by kernel_rfl) (by kernel_rfl) (by kernel_rfl) (Runs.store (v := Value.map none) (b := b5) (j := 0) (n := 1) (cs' := #[Value.map none]) (H' := [Cel b5 #[Value.map none] 69]) (by kernel_rfl) (by kernel_rfl) (by kernel_rfl) (by kernel_rfl) (by kernel_rfl) hW 0 (by rfl) (Nat.le_of_ble_eq_true (by kernel_rfl)) (by kernel_rfl) (by rfl) ?_); clear hA ac hW; intro w7 hW ac hA
        refine wpList_nil ?_
        refine thenN ?_
        refine wp_seq ?_
        refine wp_region_lit ?_
        refine st_rd (v := Value.map none) hA (by kernel_rfl) (by kernel_rfl) (by kernel_rfl) hW.cls (Rd.load (b := b5) (i := 0) (by kernel_rfl) (fun _ hw => (hw.1).cel 0 rfl) (by kernel_rfl)) ?_; clear hA ac; intro ac hA
        refine st hA (by kernel_rfl) (by kernel_rfl) (by kernel_rfl) (Runs.call (fun _ => by kernel_rfl) (e_rising_n w7) ?_)
        rintro _ w8 ⟨g9, Ao10, co11, rfl, hw8_hp, hcco11, hu_⟩; refine ⟨_, rfl, ?_⟩; replace hW := hW.made hu_; clear hA ac; intro ac hA
        refine st hA (by kernel_rfl) (by kernel_rfl) (by kernel_rfl) (Runs.cells (fun b => Value.pointer (some ⟨b, 0, none⟩)) #[Value.slice none 0 0] 35 (fun _ => by kernel_rfl) hW ?_); clear hA ac hW; intro b13 w14 hW hb13 hfw14 ac hA
        refine st hA (by kernel_rfl) (by kernel_rfl) (by kernel_rfl) (Runs.store (v := Value.slice Ao10 (g9).length co11) (b := b13) (j := 0) (n := 1) (cs' := #[Value.slice Ao10 (g9).length co11]) (H' := [Cel b13 #[Value.slice Ao10 (g9).length co11] 35, rowR 3 1 enI (Value.slice Ao10 (g9).length co11) g9, Cel b5 #[Value.map none] 69]) (by kernel_rfl) (by kernel_rfl) (by kernel_rfl) (by kernel_rfl) (by kernel_rfl) hW 0 (by rfl) (Nat.le_of_ble_eq_true (by kernel_rfl)) (by kernel_rfl) (by rfl) ?_); clear hA ac hW; intro w15 hW ac hA
        refine wpList_nil ?_
        refine thenN ?_
        refine wp_seq ?_
        refine wp_region_lit ?_
        refine st_rd (v := Value.func (.func 31) #[] #[Value.pointer (some ⟨b13, 0, none⟩), Value.pointer (some ⟨b5, 0, none⟩)]) hA (by kernel_rfl) (by kernel_rfl) (by kernel_rfl) hW.cls (Rd.pure fun _ => by kernel_rfl) ?_; clear hA ac; intro ac hA
        refine st_rd (v := Value.func (.func 31) #[] #[Value.pointer (some ⟨b13, 0, none⟩), Value.pointer (some ⟨b5, 0, none⟩)]) hA (by kernel_rfl) (by kernel_rfl) (by kernel_rfl) hW.cls (Rd.pure fun _ => by kernel_rfl) ?_; clear hA ac; intro ac hA
        refine wpList_nil ?_
        refine thenN ?_
        refine wp_ret ?_
        refine ret1 (v := Value.func (.func 31) #[] #[Value.pointer (some ⟨b13, 0, none⟩), Value.pointer (some ⟨b5, 0, none⟩)]) (by rfl) hA (Got.tmp hA (by kernel_rfl) (by kernel_rfl)) ?_
        clear hA
        have hkl_ : g9.length ≤ 100000 := by rw [hw8_hp]; simp
        exact ⟨_, _, rfl, iter_weak (iter_many (it_eachN b13 b5 _ _ g9 (own_cap (hW.get 1 rfl)) (by omega))) (by rw [outs_none.1 hk1]; exact ⟨[], List.Perm.refl _, List.Pairwise.nil, by rw [hw8_hp]; rfl⟩), from_many (froms_cons (hW.outOwn 0 rfl (fun _ h => h)) (froms_cons (hW.outRow 1 rfl elt_I.len (fun _ h => h)) (froms_cons (hW.outOwn 2 rfl (fun _ h => h)) froms_nil))), hW.fr⟩)
  · skip
    first
    | (exfalso; clear hA hW; omega)
    | (
        obtain ⟨i16, c17, hi18, hv19⟩ := outs_at hk1
        have hW := hW.subG 2 rfl hi18
        replace hW : Ws w No [] [mapR bk2 (fun a : Int => Value.int .i64 a) Mark.v c17, Cel p #[Value.map (some b)] 62, mapR b (fun a : Int => Value.int .i64 a) (fun x_ : Nat => Value.map (some x_)) (outs V), SubR (fun (c_ : List (Int × Mark)) (b_ : Nat) => mapR b_ (fun a : Int => Value.int .i64 a) Mark.v c_) V, PoolR p b V] w := hW
        refine wp_region_lit ?_
        refine st_rd (v := Value.pointer (some ⟨p, 0, none⟩)) hA (by kernel_rfl) (by kernel_rfl) (by kernel_rfl) hW.cls (Rd.pure fun _ => by kernel_rfl) ?_; clear hA ac; intro ac hA
        refine st_rd (v := Value.int .i64 h) hA (by kernel_rfl) (by kernel_rfl) (by kernel_rfl) hW.cls (Rd.pure fun _ => by kernel_rfl) ?_; clear hA ac; intro ac hA
        refine st hA (by kernel_rfl) (by kernel_rfl) (by kernel_rfl) (Runs.callN (v := Value.map (some bk2)) (fun _ => by kernel_rfl) hW ((by have h_ := e_of p b V (h) w ((hW).getG 4 rfl) ((hW).glt _ (List.mem_of_getElem? (i := 4) rfl)); rw [hk1] at h_; exact h_)) ?_); clear hA ac hW; intro w20 hW hfw20 ac hA
        refine st hA (by kernel_rfl) (by kernel_rfl) (by kernel_rfl) (Runs.call (fun _ => by kernel_rfl) (e_clone w20 ((hW).getG 0 rfl)) ?_)
        rintro _ w21 ⟨n22, rfl, hu_⟩; refine ⟨_, rfl, ?_⟩; replace hW := hW.made hu_; clear hA ac; intro ac hA
        refine st hA (by kernel_rfl) (by kernel_rfl) (by kernel_rfl) (Runs.cells (fun b => Value.pointer (some ⟨b, 0, none⟩)) #[Value.map none] 69 (fun _ => by kernel_rfl) hW ?_); clear hA ac hW; intro b23 w24 hW hb23 hfw24 ac hA
        refine st hA (by kernel_rfl) (by kernel_rfl) (by kernel_rfl) (Runs.store (v := Value.map (some n22)) (b := b23) (j := 0) (n := 1) (cs' := #[Value.map (some n22)]) (H' := [Cel b23 #[Value.map (some n22)] 69, mapR n22 (fun a : Int => Value.int .i64 a) Mark.v c17]) (by kernel_rfl) (by kernel_rfl) (by kernel_rfl) (by kernel_rfl) (by kernel_rfl) hW 0 (by rfl) (Nat.le_of_ble_eq_true (by kernel_rfl)) (by kernel_rfl) (by rfl) ?_); clear hA ac hW; intro w25 hW ac hA
        refine wpList_nil ?_
        refine thenN ?_
        refine wp_seq ?_
        refine wp_region_lit ?_
        refine st_rd (v := Value.map (some n22)) hA (by kernel_rfl) (by kernel_rfl) (by kernel_rfl) hW.cls (Rd.load (b := b23) (i := 0) (by kernel_rfl) (fun _ hw => (hw.1).cel 0 rfl) (by kernel_rfl)) ?_; clear hA ac; intro ac hA
        refine st hA (by kernel_rfl) (by kernel_rfl) (by kernel_rfl) (Runs.call (fun _ => by kernel_rfl) (e_rising_mark n22 c17 w25 ((hW).get 1 rfl) (by first | omega | assumption | exact (hP _ ‹_›).1 | exact (hP _ ‹_›).2) (by first | omega | assumption | exact (hP _ ‹_›).1 | exact (hP _ ‹_›).2)) ?_)
        rintro _ w26 ⟨g27, Ao28, co29, rfl, hw26_hp, hw26_hs, hcco29, hu_⟩; refine ⟨_, rfl, ?_⟩; replace hW := hW.made hu_; clear hA ac; intro ac hA
        refine st hA (by kernel_rfl) (by kernel_rfl) (by kernel_rfl) (Runs.cells (fun b => Value.pointer (some ⟨b, 0, none⟩)) #[Value.slice none 0 0] 35 (fun _ => by kernel_rfl) hW ?_); clear hA ac hW; intro b31 w32 hW hb31 hfw32 ac hA
        refine st hA (by kernel_rfl) (by kernel_rfl) (by kernel_rfl) (Runs.store (v := Value.slice Ao28 (g27).length co29) (b := b31) (j := 0) (n := 1) (cs' := #[Value.slice Ao28 (g27).length co29]) (H' := [Cel b31 #[Value.slice Ao28 (g27).length co29] 35, rowR 3 1 enI (Value.slice Ao28 (g27).length co29) g27, Cel b23 #[Value.map (some n22)] 69, mapR n22 (fun a : Int => Value.int .i64 a) Mark.v c17]) (by kernel_rfl) (by kernel_rfl) (by kernel_rfl) (by kernel_rfl) (by kernel_rfl) hW 0 (by rfl) (Nat.le_of_ble_eq_true (by kernel_rfl)) (by kernel_rfl) (by rfl) ?_); clear hA ac hW; intro w33 hW ac hA
        refine wpList_nil ?_
        refine thenN ?_
        refine wp_seq ?_
        refine wp_region_lit ?_
        refine st_rd (v := Value.func (.func 31) #[] #[Value.pointer (some ⟨b31, 0, none⟩), Value.pointer (some ⟨b23, 0, none⟩)]) hA (by kernel_rfl) (by kernel_rfl) (by kernel_rfl) hW.cls (Rd.pure fun _ => by kernel_rfl) ?_; clear hA ac; intro ac hA
        refine st_rd (v := Value.func (.func 31) #[] #[Value.pointer (some ⟨b31, 0, none⟩), Value.pointer (some ⟨b23, 0, none⟩)]) hA (by kernel_rfl) (by kernel_rfl) (by kernel_rfl) hW.cls (Rd.pure fun _ => by kernel_rfl) ?_; clear hA ac; intro ac hA
        refine wpList_nil ?_
        refine thenN ?_
        refine wp_ret ?_
        refine ret1 (v := Value.func (.func 31) #[] #[Value.pointer (some ⟨b31, 0, none⟩), Value.pointer (some ⟨b23, 0, none⟩)]) (by rfl) hA (Got.tmp hA (by kernel_rfl) (by kernel_rfl)) ?_
        clear hA
        have hkl_ : g27.length ≤ 100000 := by have h1_ := hw26_hp.length_eq; have h2_ := (hP _ hv19).1; simp only [keys, List.length_map] at h1_; omega
        exact ⟨_, _, rfl, iter_weak (iter_many (it_each b31 b23 n22 _ _ g27 c17 (own_cap (hW.get 1 rfl)) (by omega))) (by rw [hv19]; exact ⟨g27, hw26_hp, hw26_hs, rfl⟩), from_many (froms_cons (hW.outOwn 0 rfl (fun _ h => h)) (froms_cons (hW.outRow 1 rfl elt_I.len (fun _ h => h)) (froms_cons (hW.outOwn 2 rfl (fun _ h => h)) (froms_cons (hW.outOwn 3 rfl (fun _ h => h)) froms_nil)))), hW.fr⟩)

set_option maxRecDepth 100000 in
theorem e_live (p : Nat) (b : Nat) (V : List (Int × Nat × List (Int × Mark))) (w : World) (ho_p : (PoolR p b V).p w) (hl_p : ∀ x_ ∈ (PoolR p b V).fp, x_ < w.heap.size) (hl : V.length ≤ 1000) (hh : ∀ e ∈ V, 1 ≤ e.1 ∧ e.1 ≤ 65536) : Calls Try.prog 9 #[Value.pointer (some ⟨p, 0, none⟩)] w (fun e w' => ∃ ks : List Int, ∃ (A_o : Option Addr) (c_o : Nat), e = .returned (Value.slice A_o (ks).length c_o) ∧ (ks.Perm (keys (vals V))) ∧ (ks.Pairwise fun x y => x ≤ y) ∧ (ks).length ≤ c_o ∧ Made (rowR 3 1 enI (.slice A_o (ks).length c_o) ks) w w') := by
  have _hu := ho_p; have _hv := hl_p; clear _hu _hv
  have _hu := hl; clear _hu
  have _hu := hh; clear _hu
  refine enter_E 18 Try.func9 rfl rfl (by kernel_rfl) (L := [(0, Value.pointer (some ⟨p, 0, none⟩))]) (by kernel_rfl) ?_
  intro ac hA
  have hW := Ws.start w No
  have hW := hW.addG (PoolR p b V) ho_p hl_p (by simp)
  have hW := hW.objG (L := [Cel p #[Value.map (some b)] 62, mapR b (fun a : Int => Value.int .i64 a) (fun x_ : Nat => Value.map (some x_)) (outs V), SubR (fun (c_ : List (Int × Mark)) (b_ : Nat) => mapR b_ (fun a : Int => Value.int .i64 a) Mark.v c_) V]) ho_p hl_p
  clear ho_p hl_p
  refine wp_seq ?_
  refine wp_region_lit ?_
  refine st_rd (v := Value.slice none 0 0) hA (by kernel_rfl) (by kernel_rfl) (by kernel_rfl) hW.cls (Rd.pure fun _ => by kernel_rfl) ?_; clear hA ac; intro ac hA
  refine wpList_nil ?_
  refine thenN ?_
  refine wp_seq ?_
  refine wp_seq ?_
  refine wp_region_lit ?_
  refine st_rd (v := Value.pointer (some ⟨p, 0, none⟩)) hA (by kernel_rfl) (by kernel_rfl) (by kernel_rfl) hW.cls (Rd.pure fun _ => by kernel_rfl) ?_; clear hA ac; intro ac hA
  refine st hA (by kernel_rfl) (by kernel_rfl) (by kernel_rfl) (Runs.callS (v := Value.bool false) (fun _ => by kernel_rfl) (e_none p b w (show _ = _ from (hW).getG 0 rfl)) ?_); clear hA ac; intro  ac hA
  refine st_rd (v := Value.bool false) hA (by kernel_rfl) (by kernel_rfl) (by kernel_rfl) hW.cls (Rd.pure fun _ => by kernel_rfl) ?_; clear hA ac; intro ac hA
  refine st_rd (v := Value.pointer (some ⟨p, 0, none⟩)) hA (by kernel_rfl) (by kernel_rfl) (by kernel_rfl) hW.cls (Rd.pure fun _ => by kernel_rfl) ?_; clear hA ac; intro ac hA
  refine st_rd (v := Value.pointer (some ⟨p, 0, none⟩)) hA (by kernel_rfl) (by kernel_rfl) (by kernel_rfl) hW.cls (Rd.pure fun _ => by kernel_rfl) ?_; clear hA ac; intro ac hA
  refine st_rd (v := Value.pointer (some ⟨p, 0, none⟩)) hA (by kernel_rfl) (by kernel_rfl) (by kernel_rfl) hW.cls (Rd.pure fun _ => by kernel_rfl) ?_; clear hA ac; intro ac hA
  refine st_rd (v := Value.map (some b)) hA (by kernel_rfl) (by kernel_rfl) (by kernel_rfl) hW.cls (Rd.load (b := p) (i := 0) (by kernel_rfl) (fun _ hw => show _ = _ from (hw.1).getG 0 rfl) (by kernel_rfl)) ?_; clear hA ac; intro ac hA
  refine st_rd (v := Value.int .i64 (((outs V).length : Nat) : Int)) hA (by kernel_rfl) (by kernel_rfl) (by kernel_rfl) hW.cls (Rd.mapLen (k := 3) (e := 69) (ek := (fun a : Int => Value.int .i64 a)) (ev := (fun x_ : Nat => Value.map (some x_))) (m := (outs V)) (by kernel_rfl) (by kernel_rfl) (fun _ hw => (hw.1).getG 1 rfl)) ?_; clear hA ac; intro ac hA
  refine st_rd (v := Value.bool (((((outs V).length : Nat) : Int) : Int) == (0 : Int))) hA (by kernel_rfl) (by kernel_rfl) (by kernel_rfl) hW.cls (Rd.pure fun _ => by kernel_rfl) ?_; clear hA ac; intro ac hA
  refine st_rd (v := Value.bool (((((outs V).length : Nat) : Int) : Int) == (0 : Int))) hA (by kernel_rfl) (by kernel_rfl) (by kernel_rfl) hW.cls (Rd.pure fun _ => by kernel_rfl) ?_; clear hA ac; intro ac hA
  refine wpList_nil ?_
  refine thenN ?_
  refine wp_cond_split (t := ((((outs V).length : Nat) : Int) : Int) == (0 : Int)) (hA.eval (by kernel_rfl)) (fun h1 => ?_) (fun h1 => ?_)
  · skip
    have h1 := eq_of_beq h1
    first
    | (exfalso; clear hA hW; omega)
    | (
        refine wp_seq ?_
        refine wp_region_lit ?_
        refine st_rd (v := Value.slice none 0 0) hA (by kernel_rfl) (by kernel_rfl) (by kernel_rfl) hW.cls (Rd.pure fun _ => by kernel_rfl) ?_; clear hA ac; intro ac hA
        refine wpList_nil ?_
        refine thenN ?_
        refine wp_ret ?_
        refine thenR ?_
        refine ret1 (v := Value.slice none 0 0) (by rfl) hA (Got.tmp hA (by kernel_rfl) (by kernel_rfl)) ?_
        clear hA
        exact ⟨[], none, 0, by first | rfl | (simp; done), by have h_ : V = [] := List.eq_nil_of_length_eq_zero (by rw [← outs_len]; omega); rw [h_]; exact List.Perm.refl _, by exact List.Pairwise.nil, (by simp), made_nil hW.fr⟩)
  · skip
    have h1 := ne_of_beq_false h1
    first
    | (exfalso; clear hA hW; omega)
    | (
        refine wp_skip ?_
        refine thenN ?_
        refine wp_seq ?_
        refine wp_region_lit ?_
        refine st_rd (v := Value.pointer (some ⟨p, 0, none⟩)) hA (by kernel_rfl) (by kernel_rfl) (by kernel_rfl) hW.cls (Rd.pure fun _ => by kernel_rfl) ?_; clear hA ac; intro ac hA
        refine st_rd (v := Value.pointer (some ⟨p, 0, none⟩)) hA (by kernel_rfl) (by kernel_rfl) (by kernel_rfl) hW.cls (Rd.pure fun _ => by kernel_rfl) ?_; clear hA ac; intro ac hA
        refine st_rd (v := Value.pointer (some ⟨p, 0, none⟩)) hA (by kernel_rfl) (by kernel_rfl) (by kernel_rfl) hW.cls (Rd.pure fun _ => by kernel_rfl) ?_; clear hA ac; intro ac hA
        refine st_rd (v := Value.map (some b)) hA (by kernel_rfl) (by kernel_rfl) (by kernel_rfl) hW.cls (Rd.load (b := p) (i := 0) (by kernel_rfl) (fun _ hw => show _ = _ from (hw.1).getG 0 rfl) (by kernel_rfl)) ?_; clear hA ac; intro ac hA
        refine st hA (by kernel_rfl) (by kernel_rfl) (by kernel_rfl) (Runs.call (fun _ => by kernel_rfl) (e_rising_marks b (outs V) w ((hW).getG 1 rfl) (by first | (rw [outs_len]; omega) | (intro x hx; simp only [outs, List.mem_map] at hx; obtain ⟨e_, he_, rfl⟩ := hx; have := hh e_ he_; simp only; omega)) (by first | (rw [outs_len]; omega) | (intro x hx; simp only [outs, List.mem_map] at hx; obtain ⟨e_, he_, rfl⟩ := hx; have := hh e_ he_; simp only; omega))) ?_)
        rintro _ w2 ⟨g3, Ao4, co5, rfl, hw2_hp, hw2_hs, hcco5, hu_⟩; refine ⟨_, rfl, ?_⟩; replace hW := hW.made hu_; clear hA ac; intro ac hA
        refine st_rd (v := Value.slice Ao4 (g3).length co5) hA (by kernel_rfl) (by kernel_rfl) (by kernel_rfl) hW.cls (Rd.pure fun _ => by kernel_rfl) ?_; clear hA ac; intro ac hA
        refine wpList_nil ?_
        refine thenN ?_
        refine wp_ret ?_
        refine ret1 (v := Value.slice Ao4 (g3).length co5) (by rfl) hA (Got.tmp hA (by kernel_rfl) (by kernel_rfl)) ?_
        clear hA
        exact ⟨g3, Ao4, co5, by first | rfl | (simp; done), by rw [← keys_outs]; exact hw2_hp, by exact hw2_hs, (own_cap ((hW).get 0 rfl)), hW.madeRow 0 rfl⟩)

set_option maxRecDepth 100000 in
theorem e_num23 (n : Int) (w : World)  : Calls Try.prog 11 #[Value.int .i64 n] w (fun e w' => e = .returned (Value.int .i64 n) ∧ w = w') := by
  refine enter_E 4 Try.func11 rfl rfl (by kernel_rfl) (L := [(0, Value.int .i64 n)]) (by kernel_rfl) ?_
  intro ac hA
  have hW := Ws.start w No
  refine wp_seq ?_
  refine wp_region_lit ?_
  refine st_rd (v := Value.int .i64 0) hA (by kernel_rfl) (by kernel_rfl) (by kernel_rfl) hW.cls (Rd.pure fun _ => by kernel_rfl) ?_; clear hA ac; intro ac hA
  refine wpList_nil ?_
  refine thenN ?_
  refine wp_seq ?_
  refine wp_region_lit ?_
  refine st_rd (v := Value.int .i64 n) hA (by kernel_rfl) (by kernel_rfl) (by kernel_rfl) hW.cls (Rd.pure fun _ => by kernel_rfl) ?_; clear hA ac; intro ac hA
  refine st_rd (v := Value.int .i64 n) hA (by kernel_rfl) (by kernel_rfl) (by kernel_rfl) hW.cls (Rd.pure fun _ => by kernel_rfl) ?_; clear hA ac; intro ac hA
  refine wpList_nil ?_
  refine thenN ?_
  refine wp_ret ?_
  refine ret1 (v := Value.int .i64 n) (by rfl) hA (Got.tmp hA (by kernel_rfl) (by kernel_rfl)) ?_
  clear hA
  exact ⟨retv (by rfl), rfl⟩

end Go.Proofs.Ytobbocpacacnhaa.L
