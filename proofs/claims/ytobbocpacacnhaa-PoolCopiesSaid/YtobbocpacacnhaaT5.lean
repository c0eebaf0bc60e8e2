/- Contracts, walked by program over the engine's laws. -/
import Derived.Test.YtobbocpacacnhaaProg
import Derived.Test.YtobbocpacacnhaaClone23
namespace Go.Proofs.Ytobbocpacacnhaa.L
open Go.RowKit

set_option maxRecDepth 100000 in
theorem e_rising_n  (w : World)  : Calls Try.prog 30 #[Value.map none] w (fun e w' => ∃ ks : List Int, ∃ (A_o : Option Addr) (c_o : Nat), e = .returned (Value.slice A_o (ks).length c_o) ∧ (ks = ([] : List Int)) ∧ (ks).length ≤ c_o ∧ Made (rowR 3 1 enI (.slice A_o (ks).length c_o) ks) w w') := by
  refine enter_E 7 Try.func30 rfl rfl (by kernel_rfl) (L := [(0, Value.map none)]) (by kernel_rfl) ?_
  intro ac hA
  have hW := Ws.start w No
  refine wp_seq ?_
  refine wp_region_lit ?_
  refine st_rd (v := Value.slice none 0 0) hA (by kernel_rfl) (by kernel_rfl) (by kernel_rfl) hW.cls (Rd.pure fun _ => by kernel_rfl) ?_; clear hA ac; intro ac hA
  refine wpList_nil ?_
  refine thenN ?_
  refine wp_seq ?_
  refine wp_region_lit ?_
  refine st_rd (v := Value.map none) hA (by kernel_rfl) (by kernel_rfl) (by kernel_rfl) hW.cls (Rd.pure fun _ => by kernel_rfl) ?_; clear hA ac; intro ac hA
  refine st hA (by kernel_rfl) (by kernel_rfl) (by kernel_rfl) ((Runs.call (fun _ => by kernel_rfl) (e_keysn_52 w) ?_))
  rintro _ w1 ⟨lb2, g3, rfl, hIg3, hfg3, hfw1⟩; refine ⟨_, rfl, ?_⟩; have hW0 := hW; have hW := hW0.call hfw1; have hW := hW0.addFromAt hW hfg3 in_nil; clear hW0 hA ac; intro ac hA
  refine st hA (by kernel_rfl) (by kernel_rfl) (by kernel_rfl) (Runs.call (fun _ => by kernel_rfl) (e_col_47_64 lb2 g3 (fun l_ => l_ = ([] : List Int)) w1 hIg3 ((hW).getG 0 rfl) ((hW).glt _ (List.mem_of_getElem? (i := 0) rfl)) (fun l_ h_ => by rw [show l_ = [] from h_]; simp)) ?_)
  rintro _ w4 ⟨g5, Ao6, co7, rfl, hw4_hS, hcco7, hu_⟩; refine ⟨_, rfl, ?_⟩; replace hW := hW.made hu_; clear hA ac; intro ac hA
  refine st hA (by kernel_rfl) (by kernel_rfl) (by kernel_rfl) (Runs.call (fun _ => by kernel_rfl) (e_sorted1 (A := Ao6) (c := co7) (l := g5) w4 (hW.get 0 rfl) (by rw [show g5 = [] from hw4_hS]; simp) (fun x hx => by rw [show g5 = [] from hw4_hS] at hx; cases hx)) ?_)
  rintro _ w9 ⟨rfl, l10, hperm_, hsort_, hu_⟩; refine ⟨_, rfl, ?_⟩; have hlen_ := hperm_.length_eq; replace hW := hW.upd 0 rfl hu_ rfl; rw [← hlen_] at hW ⊢; clear hA ac; intro ac hA
  refine st_rd (v := Value.slice Ao6 l10.length co7) hA (by kernel_rfl) (by kernel_rfl) (by kernel_rfl) hW.cls (Rd.pure fun _ => by kernel_rfl) ?_; clear hA ac; intro ac hA
  refine wpList_nil ?_
  refine thenN ?_
  refine wp_ret ?_
  refine ret1 (v := Value.slice Ao6 l10.length co7) (by rfl) hA (Got.tmp hA (by kernel_rfl) (by kernel_rfl)) ?_
  clear hA
  exact ⟨l10, Ao6, co7, by first | rfl | (simp; done), by have h2_ := hperm_; rw [show _ = [] from hw4_hS] at h2_; exact h2_.eq_nil, (own_cap ((hW).get 0 rfl)), hW.madeRow 0 rfl⟩

set_option maxRecDepth 100000 in
theorem e_beyond (p : Nat) (b : Nat) (V : List (Int × Nat × List (Int × Mark))) (h : Int) (A_c : Option Addr) (c_c : Nat) (c : List Int) (w : World) (ho_p : (PoolR p b V).p w) (hl_p : ∀ x_ ∈ (PoolR p b V).fp, x_ < w.heap.size) (hr_c : RowAt w A_c 1 enU c) (hc_c : c.length ≤ c_c) (hl : c.length ≤ 1000) (hP : ∀ m, look (vals V) h = some m → m.length ≤ 100000 ∧ ∀ x ∈ m, 0 ≤ x.1 ∧ x.1 ≤ 65536) : Calls Try.prog 15 #[Value.pointer (some ⟨p, 0, none⟩), Value.int .i64 h, Value.slice A_c c.length c_c] w (fun e w' => ∃ id' : Int, ∃ mk' : Mark, ∃ is' : Bool, e = .returned (Value.tuple #[Value.int .i64 id', mk'.v, Value.bool is']) ∧ (BeyR (look (vals V) h) c id' mk' is') ∧ Fr No w w') := by
  have _hu := hc_c; have _hv := hr_c; clear _hu _hv
  have _hu := ho_p; have _hv := hl_p; clear _hu _hv
  have _hu := hl; clear _hu
  have _hu := hP; clear _hu
  refine enter_E 36 Try.func15 rfl rfl (by kernel_rfl) (L := [(0, Value.pointer (some ⟨p, 0, none⟩)), (1, Value.int .i64 h), (2, Value.slice A_c c.length c_c)]) (by kernel_rfl) ?_
  intro ac hA
  have hW := Ws.start w No
  have hW := hW.arg hr_c
  have hW := hW.addG (PoolR p b V) ho_p hl_p (by simp)
  have hW := hW.objG (L := [Cel p #[Value.map (some b)] 62, mapR b (fun a : Int => Value.int .i64 a) (fun x_ : Nat => Value.map (some x_)) (outs V), SubR (fun (c_ : List (Int × Mark)) (b_ : Nat) => mapR b_ (fun a : Int => Value.int .i64 a) Mark.v c_) V]) ho_p hl_p
  clear ho_p hl_p
  refine wp_seq ?_
  refine wp_region_lit ?_
  refine st_rd (v := Value.int .i64 0) hA (by kernel_rfl) (by kernel_rfl) (by kernel_rfl) hW.cls (Rd.pure fun _ => by kernel_rfl) ?_; clear hA ac; intro ac hA
  refine st hA (by kernel_rfl) (by kernel_rfl) (by kernel_rfl) (Runs.cells (fun b => Value.pointer (some ⟨b, 0, none⟩)) #[Value.int .u64 0, Value.int .i64 0, Value.int .i64 0] 32 (fun _ => by kernel_rfl) hW ?_); clear hA ac hW; intro b1 w2 hW hb1 hfw2 ac hA
  refine st_rd (v := Value.bool false) hA (by kernel_rfl) (by kernel_rfl) (by kernel_rfl) hW.cls (Rd.pure fun _ => by kernel_rfl) ?_; clear hA ac; intro ac hA
  refine wpList_nil ?_
  refine thenN ?_
  refine wp_seq ?_
  rcases hk3 : look (outs V) (h : Int) with _ | bk4
  · skip
    first
    | (exfalso; clear hA hW; omega)
    | (
        refine wp_region_lit ?_
        refine st_rd (v := Value.pointer (some ⟨p, 0, none⟩)) hA (by kernel_rfl) (by kernel_rfl) (by kernel_rfl) hW.cls (Rd.pure fun _ => by kernel_rfl) ?_; clear hA ac; intro ac hA
        refine st_rd (v := Value.int .i64 h) hA (by kernel_rfl) (by kernel_rfl) (by kernel_rfl) hW.cls (Rd.pure fun _ => by kernel_rfl) ?_; clear hA ac; intro ac hA
        refine st hA (by kernel_rfl) (by kernel_rfl) (by kernel_rfl) (Runs.callN (v := Value.map none) (fun _ => by kernel_rfl) hW ((by have h_ := e_of p b V (h) w2 ((hW).getG 3 rfl) ((hW).glt _ (List.mem_of_getElem? (i := 3) rfl)); rw [hk3] at h_; exact h_)) ?_); clear hA ac hW; intro w5 hW hfw5 ac hA
        refine st_rd (v := Value.map none) hA (by kernel_rfl) (by kernel_rfl) (by kernel_rfl) hW.cls (Rd.pure fun _ => by kernel_rfl) ?_; clear hA ac; intro ac hA
        refine wpList_nil ?_
        refine thenN ?_
        refine wp_seq ?_
        refine wp_seq ?_
        refine wp_region_lit ?_
        refine st_rd (v := Value.map none) hA (by kernel_rfl) (by kernel_rfl) (by kernel_rfl) hW.cls (Rd.pure fun _ => by kernel_rfl) ?_; clear hA ac; intro ac hA
        refine st hA (by kernel_rfl) (by kernel_rfl) (by kernel_rfl) (Runs.call (fun _ => by kernel_rfl) (e_rising_n w5) ?_)
        rintro _ w6 ⟨g7, Ao8, co9, rfl, hw6_hp, hcco9, hu_⟩; refine ⟨_, rfl, ?_⟩; replace hW := hW.made hu_; clear hA ac; intro ac hA
        refine st_rd (v := Value.int .i64 (((g7).length : Nat) : Int)) hA (by kernel_rfl) (by kernel_rfl) (by kernel_rfl) hW.cls (Rd.pure fun _ => by kernel_rfl) ?_; clear hA ac; intro ac hA
        refine st_rd (v := Value.int .i64 0) hA (by kernel_rfl) (by kernel_rfl) (by kernel_rfl) hW.cls (Rd.pure fun _ => by kernel_rfl) ?_; clear hA ac; intro ac hA
        refine wpList_nil ?_
        refine thenN ?_
        refine wp_block ?_
        have hkl_ : g7.length ≤ 100000 := by rw [hw6_hp]; simp
        refine wp_loop_m (fun m_ ac_ wl_ => ∃ k : Nat, m_ = g7.length - k ∧ (k ≤ g7.length) ∧ (∀ x ∈ g7.take k, decide ((markAt ([] : MarkM) x).clock > getC c x) = false) ∧ Fm 36 [] [(2, Value.slice A_c c.length c_c), (7, Value.pointer (some ⟨b1, 0, none⟩)), (9, Value.map none), (16, Value.slice Ao8 (g7).length co9), (17, Value.int .i64 (((g7).length : Nat) : Int)), (18, Value.int .i64 ((k : Nat) : Int))] ac_ ∧ Ws w No [rowR 3 1 enI (Value.slice Ao8 (g7).length co9) g7, Cel b1 #[Value.int .u64 0, Value.int .i64 0, Value.int .i64 0] 32] [Cel p #[Value.map (some b)] 62, mapR b (fun a : Int => Value.int .i64 a) (fun x_ : Nat => Value.map (some x_)) (outs V), SubR (fun (c_ : List (Int × Mark)) (b_ : Nat) => mapR b_ (fun a : Int => Value.int .i64 a) Mark.v c_) V, PoolR p b V, roR A_c 1 enU c] wl_) _ ⟨0, rfl, by omega, by intro x hx; simp at hx, hA.sub ⟨⟨by kernel_rfl, by kernel_rfl⟩, ⟨by kernel_rfl, by kernel_rfl⟩, ⟨by kernel_rfl, by kernel_rfl⟩, ⟨by kernel_rfl, by kernel_rfl⟩, ⟨by kernel_rfl, by kernel_rfl⟩, ⟨by kernel_rfl, by kernel_rfl⟩, trivial⟩, (hW.pick [0, 1] (by decide) rfl).pickG [0, 1, 2, 3, 4] rfl⟩ ?_
        clear hA ac hW; rintro m_ ac w11 ⟨k, rfl, hk, hn, hA, hW⟩
        refine wp_seq ?_
        refine wp_region_lit ?_
        refine st_rd (v := Value.bool (decide ((((k : Nat) : Int) : Int) < ((((g7).length : Nat) : Int) : Int)))) hA (by kernel_rfl) (by kernel_rfl) (by kernel_rfl) hW.cls (Rd.pure fun _ => by kernel_rfl) ?_; clear hA ac; intro ac hA
        refine wpList_nil ?_
        refine thenN ?_
        refine wp_seq ?_
        refine wp_cond_split (t := decide ((((k : Nat) : Int) : Int) < ((((g7).length : Nat) : Int) : Int))) (hA.eval (by kernel_rfl)) (fun h12 => ?_) (fun h12 => ?_)
        · skip
          have h12 := of_decide_eq_true h12
          first
          | (exfalso; clear hA hW; omega)
          | (exfalso; clear hA hW; rw [hw6_hp] at h12; simp only [List.length_nil] at h12; omega; done)
          | (
              refine wp_skip ?_
              refine thenN ?_
              refine wp_seq ?_
              refine wp_block ?_
              refine wp_seq ?_
              refine wp_region_lit ?_
              obtain ⟨y13, hy13⟩ : ∃ y, g7[k]? = some y := ⟨_, List.getElem?_eq_getElem (by first | omega | (simp; done) | (simp; omega))⟩
              obtain ⟨b14, o15, rfl, hbb14⟩ := row_some (rowR_at ((hW).get 0 rfl) elt_I.len) hy13
              refine st_rd (v := Value.pointer (some ⟨b14, o15 + k * 1, none⟩)) hA (by kernel_rfl) (by kernel_rfl) (by kernel_rfl) hW.cls (Rd.indexAddr (e := 3) (sz := 1) (b := b14) (off := o15) (n := (g7).length) (c := co9) (k := k) (by kernel_rfl) (by kernel_rfl) (by first | omega | (simp; done) | (simp; omega)) (fun _ => by kernel_rfl) (fun _ => by kernel_rfl)) ?_; clear hA ac; intro ac hA
              refine st_rd (v := Value.int .i64 y13) hA (by kernel_rfl) (by kernel_rfl) (by kernel_rfl) hW.cls (Rd.loadRow (b := b14) (i := o15 + k * 1) (xs := [Value.int .i64 y13]) (by kernel_rfl) (fun _ hw => row_ld (rowR_at ((hw.1).get 0 rfl) elt_I.len) hy13 (Fr.refl No _) (fun h => h) 0 1 (by kernel_rfl)) (by kernel_rfl)) ?_; clear hA ac; intro ac hA
              refine st_rd (v := Value.int .i64 y13) hA (by kernel_rfl) (by kernel_rfl) (by kernel_rfl) hW.cls (Rd.pure fun _ => by kernel_rfl) ?_; clear hA ac; intro ac hA
              refine wpList_nil ?_
              refine thenN ?_
              refine wp_seq ?_
              refine q_region (by kernel_rfl) (by kernel_rfl) hW ?_
              refine sq_rd (v := Value.map none) hA (by kernel_rfl) (by kernel_rfl) (by kernel_rfl) (Rd.pure fun _ => by kernel_rfl) ?_; clear hA ac; intro ac hA
              refine sq_rd (v := Value.int .i64 y13) hA (by kernel_rfl) (by kernel_rfl) (by kernel_rfl) (Rd.pure fun _ => by kernel_rfl) ?_; clear hA ac; intro ac hA
              refine sq_rd (v := (⟨0, ⟨0, 0⟩⟩ : Mark).v) hA (by kernel_rfl) (by kernel_rfl) (by kernel_rfl) (Rd.lookupNil (k := 3) (e := 32) (ek := (fun a : Int => Value.int .i64 a)) (z := (⟨0, ⟨0, 0⟩⟩ : Mark).v) (y13 : Int) false (by kernel_rfl) (by kernel_rfl) (KeyE.int (by kernel_rfl)) (by kernel_rfl) (fun _ => by kernel_rfl)) ?_; clear hA ac; intro ac hA
              refine sq_rd (v := Value.int .u64 (⟨0, ⟨0, 0⟩⟩ : Mark).clock) hA (by kernel_rfl) (by kernel_rfl) (by kernel_rfl) (Rd.pure fun _ => by kernel_rfl) ?_; clear hA ac; intro ac hA
              refine sq_rd (v := Value.slice A_c c.length c_c) hA (by kernel_rfl) (by kernel_rfl) (by kernel_rfl) (Rd.pure fun _ => by kernel_rfl) ?_; clear hA ac; intro ac hA
              refine sq_rd (v := Value.int .i64 y13) hA (by kernel_rfl) (by kernel_rfl) (by kernel_rfl) (Rd.pure fun _ => by kernel_rfl) ?_; clear hA ac; intro ac hA
              refine sq_call (v := Value.int .u64 (getC c (y13))) hA (by kernel_rfl) (by kernel_rfl) (by kernel_rfl) (fun _ => by kernel_rfl) (Cls.callNC fun wx hwx => e_vget A_c c_c c (y13) wx ((hwx.1).getG 4 rfl) (by first | assumption | omega | (simp; omega) | simp) (by first | omega | assumption | exact (hP _ ‹_›).1 | exact (hP _ ‹_›).2)) ?_; clear hA ac; intro ac hA
              refine sq_rd (v := Value.bool (decide (((⟨0, ⟨0, 0⟩⟩ : Mark).clock : Int) > (getC c (y13) : Int)))) hA (by kernel_rfl) (by kernel_rfl) (by kernel_rfl) (Rd.pure fun _ => by kernel_rfl) ?_; clear hA ac; intro ac hA
              refine sq_nil ?_; intro w16 hww16; have hW := hww16.1; have hfw16 := hww16.2; clear hww16
              refine thenN ?_
              refine wp_cond_split (t := decide (((⟨0, ⟨0, 0⟩⟩ : Mark).clock : Int) > (getC c (y13) : Int))) (hA.eval (by kernel_rfl)) (fun h17 => ?_) (fun h17 => ?_)
              · skip
                have h17 := of_decide_eq_true h17
                first
                | (exfalso; clear hA hW; omega)
                | (exfalso; clear hA hW; rw [hw6_hp] at h17; simp only [List.length_nil] at h17; omega; done)
                | (
                    refine wp_seq ?_
                    refine wp_cut (fun ac_ wl_ => Fm 36 [] [(2, Value.slice A_c c.length c_c), (6, Value.int .i64 y13), (7, Value.pointer (some ⟨b1, 0, none⟩)), (8, Value.bool true), (9, Value.map none), (11, Value.int .i64 y13), (16, Value.slice (some ⟨b14, o15, none⟩) (g7).length co9), (17, Value.int .i64 (((g7).length : Nat) : Int)), (18, Value.int .i64 ((k : Nat) : Int)), (19, Value.bool (decide ((((k : Nat) : Int) : Int) < ((((g7).length : Nat) : Int) : Int)))), (20, Value.pointer (some ⟨b14, o15 + k * 1, none⟩)), (21, Value.int .i64 y13), (22, Value.map none), (23, Value.int .i64 y13), (24, (⟨0, ⟨0, 0⟩⟩ : Mark).v), (25, Value.int .u64 (⟨0, ⟨0, 0⟩⟩ : Mark).clock), (26, Value.slice A_c c.length c_c), (27, Value.int .i64 y13), (28, Value.int .u64 (getC c (y13))), (29, Value.bool (decide (((⟨0, ⟨0, 0⟩⟩ : Mark).clock : Int) > (getC c (y13) : Int))))] ac_ ∧ Ws w No [rowR 3 1 enI (Value.slice (some ⟨b14, o15, none⟩) (g7).length co9) g7, Cel b1 #[Value.int .u64 (⟨0, ⟨0, 0⟩⟩ : Mark).clock, Value.int .i64 (⟨0, ⟨0, 0⟩⟩ : Mark).site.f, Value.int .i64 (⟨0, ⟨0, 0⟩⟩ : Mark).site.pc] 32] [Cel p #[Value.map (some b)] 62, mapR b (fun a : Int => Value.int .i64 a) (fun x_ : Nat => Value.map (some x_)) (outs V), SubR (fun (c_ : List (Int × Mark)) (b_ : Nat) => mapR b_ (fun a : Int => Value.int .i64 a) Mark.v c_) V, PoolR p b V, roR A_c 1 enU c] wl_) ?_ ?_
                    · refine sr_region (m := 7) (C := Ws w No [rowR 3 1 enI (Value.slice (some ⟨b14, o15, none⟩) (g7).length co9) g7, Cel b1 #[Value.int .u64 0, Value.int .i64 0, Value.int .i64 0] 32] [Cel p #[Value.map (some b)] 62, mapR b (fun a : Int => Value.int .i64 a) (fun x_ : Nat => Value.map (some x_)) (outs V), SubR (fun (c_ : List (Int × Mark)) (b_ : Nat) => mapR b_ (fun a : Int => Value.int .i64 a) Mark.v c_) V, PoolR p b V, roR A_c 1 enU c]) (fun i => [3].contains i) (fun i => [3].contains i) (fun i => [0, 1, 2, 4, 6].contains i) (by kernel_rfl) (by kernel_rfl) (by kernel_rfl) (by kernel_rfl) hW ?_; clear hW; intro w18 hW hfw18 hR; have hC : Ws w No [rowR 3 1 enI (Value.slice (some ⟨b14, o15, none⟩) (g7).length co9) g7, Cel b1 #[Value.int .u64 0, Value.int .i64 0, Value.int .i64 0] 32] [Cel p #[Value.map (some b)] 62, mapR b (fun a : Int => Value.int .i64 a) (fun x_ : Nat => Value.map (some x_)) (outs V), SubR (fun (c_ : List (Int × Mark)) (b_ : Nat) => mapR b_ (fun a : Int => Value.int .i64 a) Mark.v c_) V, PoolR p b V, roR A_c 1 enU c] w18 := hW.pick [0, 1] (by decide) rfl
                      refine sr_pure (i := 0) (v := Value.int .i64 y13) hR (by kernel_rfl) rfl (by kernel_rfl) (by kernel_rfl) (fun _ _ _ h => h.elim) hA (by kernel_rfl) (by kernel_rfl) (by kernel_rfl) (Rd.pure fun _ => by kernel_rfl) ?_; clear hA ac; intro ac hA
                      refine sr_pure (i := 1) (v := Value.map none) hR (by kernel_rfl) rfl (by kernel_rfl) (by kernel_rfl) (fun _ _ _ h => h.elim) hA (by kernel_rfl) (by kernel_rfl) (by kernel_rfl) (Rd.pure fun _ => by kernel_rfl) ?_; clear hA ac; intro ac hA
                      refine sr_pure (i := 2) (v := Value.int .i64 y13) hR (by kernel_rfl) rfl (by kernel_rfl) (by kernel_rfl) (fun _ _ _ h => h.elim) hA (by kernel_rfl) (by kernel_rfl) (by kernel_rfl) (Rd.pure fun _ => by kernel_rfl) ?_; clear hA ac; intro ac hA
                      refine sr_take (i := 3) (v := (⟨0, ⟨0, 0⟩⟩ : Mark).v) hR (by kernel_rfl) rfl (by kernel_rfl) (by kernel_rfl) (by kernel_rfl) (fun _ _ _ h => h.elim) hA (by kernel_rfl) (by kernel_rfl) (by kernel_rfl) hC (Rd.lookupNil (k := 3) (e := 32) (ek := (fun a : Int => Value.int .i64 a)) (z := (⟨0, ⟨0, 0⟩⟩ : Mark).v) (y13 : Int) false (by kernel_rfl) (by kernel_rfl) (KeyE.int (by kernel_rfl)) (by kernel_rfl) (fun _ => by kernel_rfl)) ?_; clear hA ac; intro ac hA
                      refine sr_pure (i := 4) (v := Value.int .i64 y13) hR (by kernel_rfl) rfl (by kernel_rfl) (by kernel_rfl) (fun _ _ _ h => h.elim) hA (by kernel_rfl) (by kernel_rfl) (by kernel_rfl) (Rd.pure fun _ => by kernel_rfl) ?_; clear hA ac; intro ac hA
                      refine sr_one (i := 5) (by kernel_rfl) (sr_do rfl hA (by kernel_rfl) (by kernel_rfl) (by kernel_rfl) (Runs.store (v := (⟨0, ⟨0, 0⟩⟩ : Mark).v) (b := b1) (j := 0) (n := 3) (cs' := #[Value.int .u64 (⟨0, ⟨0, 0⟩⟩ : Mark).clock, Value.int .i64 (⟨0, ⟨0, 0⟩⟩ : Mark).site.f, Value.int .i64 (⟨0, ⟨0, 0⟩⟩ : Mark).site.pc]) (H' := [rowR 3 1 enI (Value.slice (some ⟨b14, o15, none⟩) (g7).length co9) g7, Cel b1 #[Value.int .u64 (⟨0, ⟨0, 0⟩⟩ : Mark).clock, Value.int .i64 (⟨0, ⟨0, 0⟩⟩ : Mark).site.f, Value.int .i64 (⟨0, ⟨0, 0⟩⟩ : Mark).site.pc] 32]) (by kernel_rfl) (by kernel_rfl) (by kernel_rfl) (by kernel_rfl) (by kernel_rfl) hW 1 (by rfl) (Nat.le_of_ble_eq_true (by kernel_rfl)) (by kernel_rfl) (by rfl) ?_)); clear hA ac hW; intro w19 hW ac hA
                      refine ⟨⟨fun h => absurd h (by decide), fun h => absurd h (by decide)⟩, ?_⟩
                      refine sr_pure (i := 6) (v := Value.bool true) hR (by kernel_rfl) rfl (by kernel_rfl) (by kernel_rfl) (fun _ _ _ h => h.elim) hA (by kernel_rfl) (by kernel_rfl) (by kernel_rfl) (Rd.pure fun _ => by kernel_rfl) ?_; clear hA ac; intro ac hA
                      refine sr_done (by kernel_rfl) ?_ _
                      exact ⟨hA.sub ⟨⟨by kernel_rfl, by kernel_rfl⟩, ⟨by kernel_rfl, by kernel_rfl⟩, ⟨by kernel_rfl, by kernel_rfl⟩, ⟨by kernel_rfl, by kernel_rfl⟩, ⟨by kernel_rfl, by kernel_rfl⟩, ⟨by kernel_rfl, by kernel_rfl⟩, ⟨by kernel_rfl, by kernel_rfl⟩, ⟨by kernel_rfl, by kernel_rfl⟩, ⟨by kernel_rfl, by kernel_rfl⟩, ⟨by kernel_rfl, by kernel_rfl⟩, ⟨by kernel_rfl, by kernel_rfl⟩, ⟨by kernel_rfl, by kernel_rfl⟩, ⟨by kernel_rfl, by kernel_rfl⟩, ⟨by kernel_rfl, by kernel_rfl⟩, ⟨by kernel_rfl, by kernel_rfl⟩, ⟨by kernel_rfl, by kernel_rfl⟩, ⟨by kernel_rfl, by kernel_rfl⟩, ⟨by kernel_rfl, by kernel_rfl⟩, ⟨by kernel_rfl, by kernel_rfl⟩, ⟨by kernel_rfl, by kernel_rfl⟩, trivial⟩, (hW.pick [0, 1] (by decide) rfl).pickG [0, 1, 2, 3, 4] rfl⟩
                    clear hA ac hW; rintro ac w20 ⟨hA, hW⟩
                    refine thenN ?_
                    refine wp_ret ?_
                    refine blkR ?_
                    refine thenR ?_
                    refine thenR ?_
                    refine blkR ?_
                    refine thenR ?_
                    refine ret3 (v1 := Value.int .i64 y13) (v2 := Value.agg #[Value.int .u64 (⟨0, ⟨0, 0⟩⟩ : Mark).clock, Value.int .i64 (⟨0, ⟨0, 0⟩⟩ : Mark).site.f, Value.int .i64 (⟨0, ⟨0, 0⟩⟩ : Mark).site.pc]) (v3 := Value.bool true) (by rfl) hA (Got.tmp hA (by kernel_rfl) (by kernel_rfl)) (Got.cell (b := b1) (i := 0) hA (by kernel_rfl) (by kernel_rfl) (hW.cel 1 rfl) (by kernel_rfl)) (Got.tmp hA (by kernel_rfl) (by kernel_rfl)) ?_
                    clear hA
                    exact ⟨y13, (⟨0, ⟨0, 0⟩⟩ : Mark), true, by first | rfl | (simp; done), by rw [outs_none.1 hk3]; exact ⟨[], List.Perm.refl _, List.Pairwise.nil, rfl, rfl, rfl⟩, hW.fr⟩)
              · skip
                have h17 := of_decide_eq_false h17
                first
                | (exfalso; clear hA hW; omega)
                | (exfalso; clear hA hW; rw [hw6_hp] at h17; simp only [List.length_nil] at h17; omega; done)
                | (
                    refine wp_skip ?_
                    refine blkN ?_
                    refine thenN ?_
                    refine wp_region_lit ?_
                    refine st_rd (v := Value.int .i64 ((k + 1 : Nat) : Int)) hA (by kernel_rfl) (by kernel_rfl) (by kernel_rfl) hW.cls (Rd.pureE (v0 := Value.int .i64 (IntKind.i64.wrap ((((k : Nat) : Int) : Int) + 1))) (fun _ => by kernel_rfl) (congrArg (Value.int .i64) ((w_i64 (x := (((k : Nat) : Int) : Int) + 1) (by omega) (by omega)).trans (by omega)))) ?_; clear hA ac; intro ac hA
                    refine st_rd (v := Value.int .i64 ((k + 1 : Nat) : Int)) hA (by kernel_rfl) (by kernel_rfl) (by kernel_rfl) hW.cls (Rd.pure fun _ => by kernel_rfl) ?_; clear hA ac; intro ac hA
                    refine wpList_nil ?_
                    refine thenN ?_
                    exact ⟨g7.length - (k + 1), by omega, k + 1, rfl, by omega, by intro x hx; rw [tk_snoc hy13] at hx; rcases List.mem_append.1 hx with hx | hx; exact hn x hx; (simp only [List.mem_singleton] at hx; subst hx; exact decide_eq_false h17), hA.sub ⟨⟨by kernel_rfl, by kernel_rfl⟩, ⟨by kernel_rfl, by kernel_rfl⟩, ⟨by kernel_rfl, by kernel_rfl⟩, ⟨by kernel_rfl, by kernel_rfl⟩, ⟨by kernel_rfl, by kernel_rfl⟩, ⟨by kernel_rfl, by kernel_rfl⟩, trivial⟩, (hW.pick [0, 1] (by decide) rfl).pickG [0, 1, 2, 3, 4] rfl⟩))
        · skip
          have h12 := of_decide_eq_false h12
          first
          | (exfalso; clear hA hW; omega)
          | (exfalso; clear hA hW; rw [hw6_hp] at h12; simp only [List.length_nil] at h12; omega; done)
          | (
              refine wp_exit ?_
              refine thenX ?_
              refine thenX ?_
              refine blkX ?_
              refine thenN ?_
              refine wp_seq ?_
              refine wp_region_lit ?_
              refine st_rd (v := Value.agg #[Value.int .u64 0, Value.int .i64 0, Value.int .i64 0]) hA (by kernel_rfl) (by kernel_rfl) (by kernel_rfl) hW.cls (Rd.pure fun _ => by kernel_rfl) ?_; clear hA ac; intro ac hA
              refine st_rd (v := Value.int .i64 0) hA (by kernel_rfl) (by kernel_rfl) (by kernel_rfl) hW.cls (Rd.pure fun _ => by kernel_rfl) ?_; clear hA ac; intro ac hA
              refine st hA (by kernel_rfl) (by kernel_rfl) (by kernel_rfl) (Runs.store (v := Value.agg #[Value.int .u64 0, Value.int .i64 0, Value.int .i64 0]) (b := b1) (j := 0) (n := 3) (cs' := #[Value.int .u64 0, Value.int .i64 0, Value.int .i64 0]) (H' := [rowR 3 1 enI (Value.slice Ao8 (g7).length co9) g7, Cel b1 #[Value.int .u64 0, Value.int .i64 0, Value.int .i64 0] 32]) (by kernel_rfl) (by kernel_rfl) (by kernel_rfl) (by kernel_rfl) (by kernel_rfl) hW 1 (by rfl) (Nat.le_of_ble_eq_true (by kernel_rfl)) (by kernel_rfl) (by rfl) ?_); clear hA ac hW; intro w21 hW ac hA
              refine st_rd (v := Value.bool false) hA (by kernel_rfl) (by kernel_rfl) (by kernel_rfl) hW.cls (Rd.pure fun _ => by kernel_rfl) ?_; clear hA ac; intro ac hA
              refine wpList_nil ?_
              refine thenN ?_
              refine wp_ret ?_
              refine ret3 (v1 := Value.int .i64 0) (v2 := Value.agg #[Value.int .u64 0, Value.int .i64 0, Value.int .i64 0]) (v3 := Value.bool false) (by rfl) hA (Got.tmp hA (by kernel_rfl) (by kernel_rfl)) (Got.cell (b := b1) (i := 0) hA (by kernel_rfl) (by kernel_rfl) (hW.cel 1 rfl) (by kernel_rfl)) (Got.tmp hA (by kernel_rfl) (by kernel_rfl)) ?_
              clear hA
              exact ⟨0, (⟨0, (⟨0, 0⟩ : Site)⟩ : Mark), false, by first | rfl | (simp; done), by rw [outs_none.1 hk3]; exact ⟨[], List.Perm.refl _, List.Pairwise.nil, rfl, rfl, rfl⟩, hW.fr⟩))
  · skip
    first
    | (exfalso; clear hA hW; omega)
    | (
        obtain ⟨i22, c23, hi24, hv25⟩ := outs_at hk3
        have hW := hW.subG 2 rfl hi24
        replace hW : Ws w No [Cel b1 #[Value.int .u64 0, Value.int .i64 0, Value.int .i64 0] 32] [mapR bk4 (fun a : Int => Value.int .i64 a) Mark.v c23, Cel p #[Value.map (some b)] 62, mapR b (fun a : Int => Value.int .i64 a) (fun x_ : Nat => Value.map (some x_)) (outs V), SubR (fun (c_ : List (Int × Mark)) (b_ : Nat) => mapR b_ (fun a : Int => Value.int .i64 a) Mark.v c_) V, PoolR p b V, roR A_c 1 enU c] w2 := hW
        refine wp_region_lit ?_
        refine st_rd (v := Value.pointer (some ⟨p, 0, none⟩)) hA (by kernel_rfl) (by kernel_rfl) (by kernel_rfl) hW.cls (Rd.pure fun _ => by kernel_rfl) ?_; clear hA ac; intro ac hA
        refine st_rd (v := Value.int .i64 h) hA (by kernel_rfl) (by kernel_rfl) (by kernel_rfl) hW.cls (Rd.pure fun _ => by kernel_rfl) ?_; clear hA ac; intro ac hA
        refine st hA (by kernel_rfl) (by kernel_rfl) (by kernel_rfl) (Runs.callN (v := Value.map (some bk4)) (fun _ => by kernel_rfl) hW ((by have h_ := e_of p b V (h) w2 ((hW).getG 4 rfl) ((hW).glt _ (List.mem_of_getElem? (i := 4) rfl)); rw [hk3] at h_; exact h_)) ?_); clear hA ac hW; intro w26 hW hfw26 ac hA
        refine st_rd (v := Value.map (some bk4)) hA (by kernel_rfl) (by kernel_rfl) (by kernel_rfl) hW.cls (Rd.pure fun _ => by kernel_rfl) ?_; clear hA ac; intro ac hA
        refine wpList_nil ?_
        refine thenN ?_
        refine wp_seq ?_
        refine wp_seq ?_
        refine wp_region_lit ?_
        refine st_rd (v := Value.map (some bk4)) hA (by kernel_rfl) (by kernel_rfl) (by kernel_rfl) hW.cls (Rd.pure fun _ => by kernel_rfl) ?_; clear hA ac; intro ac hA
        refine st hA (by kernel_rfl) (by kernel_rfl) (by kernel_rfl) (Runs.call (fun _ => by kernel_rfl) (e_rising_mark bk4 c23 w26 ((hW).getG 0 rfl) (by first | omega | assumption | exact (hP _ ‹_›).1 | exact (hP _ ‹_›).2) (by first | omega | assumption | exact (hP _ ‹_›).1 | exact (hP _ ‹_›).2)) ?_)
        rintro _ w27 ⟨g28, Ao29, co30, rfl, hw27_hp, hw27_hs, hcco30, hu_⟩; refine ⟨_, rfl, ?_⟩; replace hW := hW.made hu_; clear hA ac; intro ac hA
        refine st_rd (v := Value.int .i64 (((g28).length : Nat) : Int)) hA (by kernel_rfl) (by kernel_rfl) (by kernel_rfl) hW.cls (Rd.pure fun _ => by kernel_rfl) ?_; clear hA ac; intro ac hA
        refine st_rd (v := Value.int .i64 0) hA (by kernel_rfl) (by kernel_rfl) (by kernel_rfl) hW.cls (Rd.pure fun _ => by kernel_rfl) ?_; clear hA ac; intro ac hA
        refine wpList_nil ?_
        refine thenN ?_
        refine wp_block ?_
        have hkl_ : g28.length ≤ 100000 := by have h1_ := hw27_hp.length_eq; have h2_ := (hP _ hv25).1; simp only [keys, List.length_map] at h1_; omega
        refine wp_loop_m (fun m_ ac_ wl_ => ∃ k : Nat, m_ = g28.length - k ∧ (k ≤ g28.length) ∧ (∀ x ∈ g28.take k, decide ((markAt c23 x).clock > getC c x) = false) ∧ Fm 36 [] [(2, Value.slice A_c c.length c_c), (7, Value.pointer (some ⟨b1, 0, none⟩)), (9, Value.map (some bk4)), (16, Value.slice Ao29 (g28).length co30), (17, Value.int .i64 (((g28).length : Nat) : Int)), (18, Value.int .i64 ((k : Nat) : Int))] ac_ ∧ Ws w No [rowR 3 1 enI (Value.slice Ao29 (g28).length co30) g28, Cel b1 #[Value.int .u64 0, Value.int .i64 0, Value.int .i64 0] 32] [mapR bk4 (fun a : Int => Value.int .i64 a) Mark.v c23, Cel p #[Value.map (some b)] 62, mapR b (fun a : Int => Value.int .i64 a) (fun x_ : Nat => Value.map (some x_)) (outs V), SubR (fun (c_ : List (Int × Mark)) (b_ : Nat) => mapR b_ (fun a : Int => Value.int .i64 a) Mark.v c_) V, PoolR p b V, roR A_c 1 enU c] wl_) _ ⟨0, rfl, by omega, by intro x hx; simp at hx, hA.sub ⟨⟨by kernel_rfl, by kernel_rfl⟩, ⟨by kernel_rfl, by kernel_rfl⟩, ⟨by kernel_rfl, by kernel_rfl⟩, ⟨by kernel_rfl, by kernel_rfl⟩, ⟨by kernel_rfl, by kernel_rfl⟩, ⟨by kernel_rfl, by kernel_rfl⟩, trivial⟩, (hW.pick [0, 1] (by decide) rfl).pickG [0, 1, 2, 3, 4, 5] rfl⟩ ?_
        clear hA ac hW; rintro m_ ac w32 ⟨k, rfl, hk, hn, hA, hW⟩
        refine wp_seq ?_
        refine wp_region_lit ?_
        refine st_rd (v := Value.bool (decide ((((k : Nat) : Int) : Int) < ((((g28).length : Nat) : Int) : Int)))) hA (by kernel_rfl) (by kernel_rfl) (by kernel_rfl) hW.cls (Rd.pure fun _ => by kernel_rfl) ?_; clear hA ac; intro ac hA
        refine wpList_nil ?_
        refine thenN ?_
        refine wp_seq ?_
        refine wp_cond_split (t := decide ((((k : Nat) : Int) : Int) < ((((g28).length : Nat) : Int) : Int))) (hA.eval (by kernel_rfl)) (fun h33 => ?_) (fun h33 => ?_)
        · skip
          have h33 := of_decide_eq_true h33
          first
          | (exfalso; clear hA hW; omega)
          | (
              refine wp_skip ?_
              refine thenN ?_
              refine wp_seq ?_
              refine wp_block ?_
              refine wp_seq ?_
              refine wp_region_lit ?_
              obtain ⟨y34, hy34⟩ : ∃ y, g28[k]? = some y := ⟨_, List.getElem?_eq_getElem (by first | omega | (simp; done) | (simp; omega))⟩
              obtain ⟨b35, o36, rfl, hbb35⟩ := row_some (rowR_at ((hW).get 0 rfl) elt_I.len) hy34
              refine st_rd (v := Value.pointer (some ⟨b35, o36 + k * 1, none⟩)) hA (by kernel_rfl) (by kernel_rfl) (by kernel_rfl) hW.cls (Rd.indexAddr (e := 3) (sz := 1) (b := b35) (off := o36) (n := (g28).length) (c := co30) (k := k) (by kernel_rfl) (by kernel_rfl) (by first | omega | (simp; done) | (simp; omega)) (fun _ => by kernel_rfl) (fun _ => by kernel_rfl)) ?_; clear hA ac; intro ac hA
              refine st_rd (v := Value.int .i64 y34) hA (by kernel_rfl) (by kernel_rfl) (by kernel_rfl) hW.cls (Rd.loadRow (b := b35) (i := o36 + k * 1) (xs := [Value.int .i64 y34]) (by kernel_rfl) (fun _ hw => row_ld (rowR_at ((hw.1).get 0 rfl) elt_I.len) hy34 (Fr.refl No _) (fun h => h) 0 1 (by kernel_rfl)) (by kernel_rfl)) ?_; clear hA ac; intro ac hA
              refine st_rd (v := Value.int .i64 y34) hA (by kernel_rfl) (by kernel_rfl) (by kernel_rfl) hW.cls (Rd.pure fun _ => by kernel_rfl) ?_; clear hA ac; intro ac hA
              refine wpList_nil ?_
              refine thenN ?_
              refine wp_seq ?_
              refine q_region (by kernel_rfl) (by kernel_rfl) hW ?_
              refine sq_rd (v := Value.map (some bk4)) hA (by kernel_rfl) (by kernel_rfl) (by kernel_rfl) (Rd.pure fun _ => by kernel_rfl) ?_; clear hA ac; intro ac hA
              refine sq_rd (v := Value.int .i64 y34) hA (by kernel_rfl) (by kernel_rfl) (by kernel_rfl) (Rd.pure fun _ => by kernel_rfl) ?_; clear hA ac; intro ac hA
              refine sq_rd (v := ((look c23 (y34 : Int)).getD (⟨0, ⟨0, 0⟩⟩ : Mark)).v) hA (by kernel_rfl) (by kernel_rfl) (by kernel_rfl) ((Rd.lookup (k := 3) (e := 32) (ek := (fun a : Int => Value.int .i64 a)) (ev := Mark.v) (m := c23) (z := (⟨0, ⟨0, 0⟩⟩ : Mark).v) (y34 : Int) false (by kernel_rfl) (by kernel_rfl) (KeyE.int (by kernel_rfl)) (by kernel_rfl) (fun _ => by kernel_rfl) (fun _ hw => (hw.1).getG 0 rfl)).cast (by generalize look c23 (y34 : Int) = o_; cases o_ <;> rfl)) ?_; clear hA ac; intro ac hA
              refine sq_rd (v := Value.int .u64 ((look c23 (y34 : Int)).getD (⟨0, ⟨0, 0⟩⟩ : Mark)).clock) hA (by kernel_rfl) (by kernel_rfl) (by kernel_rfl) (Rd.pure fun _ => by kernel_rfl) ?_; clear hA ac; intro ac hA
              refine sq_rd (v := Value.slice A_c c.length c_c) hA (by kernel_rfl) (by kernel_rfl) (by kernel_rfl) (Rd.pure fun _ => by kernel_rfl) ?_; clear hA ac; intro ac hA
              refine sq_rd (v := Value.int .i64 y34) hA (by kernel_rfl) (by kernel_rfl) (by kernel_rfl) (Rd.pure fun _ => by kernel_rfl) ?_; clear hA ac; intro ac hA
              refine sq_call (v := Value.int .u64 (getC c (y34))) hA (by kernel_rfl) (by kernel_rfl) (by kernel_rfl) (fun _ => by kernel_rfl) (Cls.callNC fun wx hwx => e_vget A_c c_c c (y34) wx ((hwx.1).getG 5 rfl) (by first | assumption | omega | (simp; omega) | simp) (by first | omega | assumption | exact (hP _ ‹_›).1 | exact (hP _ ‹_›).2)) ?_; clear hA ac; intro ac hA
              refine sq_rd (v := Value.bool (decide ((((look c23 (y34 : Int)).getD (⟨0, ⟨0, 0⟩⟩ : Mark)).clock : Int) > (getC c (y34) : Int)))) hA (by kernel_rfl) (by kernel_rfl) (by kernel_rfl) (Rd.pure fun _ => by kernel_rfl) ?_; clear hA ac; intro ac hA
              refine sq_nil ?_; intro w37 hww37; have hW := hww37.1; have hfw37 := hww37.2; clear hww37
              refine thenN ?_
              refine wp_cond_split (t := decide ((((look c23 (y34 : Int)).getD (⟨0, ⟨0, 0⟩⟩ : Mark)).clock : Int) > (getC c (y34) : Int))) (hA.eval (by kernel_rfl)) (fun h38 => ?_) (fun h38 => ?_)
              · skip
                have h38 := of_decide_eq_true h38
                first
                | (exfalso; clear hA hW; omega)
                | (
                    refine wp_seq ?_
                    refine wp_cut (fun ac_ wl_ => Fm 36 [] [(2, Value.slice A_c c.length c_c), (6, Value.int .i64 y34), (7, Value.pointer (some ⟨b1, 0, none⟩)), (8, Value.bool true), (9, Value.map (some bk4)), (11, Value.int .i64 y34), (16, Value.slice (some ⟨b35, o36, none⟩) (g28).length co30), (17, Value.int .i64 (((g28).length : Nat) : Int)), (18, Value.int .i64 ((k : Nat) : Int)), (19, Value.bool (decide ((((k : Nat) : Int) : Int) < ((((g28).length : Nat) : Int) : Int)))), (20, Value.pointer (some ⟨b35, o36 + k * 1, none⟩)), (21, Value.int .i64 y34), (22, Value.map (some bk4)), (23, Value.int .i64 y34), (24, ((look c23 (y34 : Int)).getD (⟨0, ⟨0, 0⟩⟩ : Mark)).v), (25, Value.int .u64 ((look c23 (y34 : Int)).getD (⟨0, ⟨0, 0⟩⟩ : Mark)).clock), (26, Value.slice A_c c.length c_c), (27, Value.int .i64 y34), (28, Value.int .u64 (getC c (y34))), (29, Value.bool (decide ((((look c23 (y34 : Int)).getD (⟨0, ⟨0, 0⟩⟩ : Mark)).clock : Int) > (getC c (y34) : Int))))] ac_ ∧ Ws w No [rowR 3 1 enI (Value.slice (some ⟨b35, o36, none⟩) (g28).length co30) g28, Cel b1 #[Value.int .u64 ((look c23 (y34 : Int)).getD (⟨0, ⟨0, 0⟩⟩ : Mark)).clock, Value.int .i64 ((look c23 (y34 : Int)).getD (⟨0, ⟨0, 0⟩⟩ : Mark)).site.f, Value.int .i64 ((look c23 (y34 : Int)).getD (⟨0, ⟨0, 0⟩⟩ : Mark)).site.pc] 32] [mapR bk4 (fun a : Int => Value.int .i64 a) Mark.v c23, Cel p #[Value.map (some b)] 62, mapR b (fun a : Int => Value.int .i64 a) (fun x_ : Nat => Value.map (some x_)) (outs V), SubR (fun (c_ : List (Int × Mark)) (b_ : Nat) => mapR b_ (fun a : Int => Value.int .i64 a) Mark.v c_) V, PoolR p b V, roR A_c 1 enU c] wl_) ?_ ?_
                    · refine sr_region (m := 7) (C := Ws w No [rowR 3 1 enI (Value.slice (some ⟨b35, o36, none⟩) (g28).length co30) g28, Cel b1 #[Value.int .u64 0, Value.int .i64 0, Value.int .i64 0] 32] [mapR bk4 (fun a : Int => Value.int .i64 a) Mark.v c23, Cel p #[Value.map (some b)] 62, mapR b (fun a : Int => Value.int .i64 a) (fun x_ : Nat => Value.map (some x_)) (outs V), SubR (fun (c_ : List (Int × Mark)) (b_ : Nat) => mapR b_ (fun a : Int => Value.int .i64 a) Mark.v c_) V, PoolR p b V, roR A_c 1 enU c]) (fun i => [3].contains i) (fun i => [3].contains i) (fun i => [0, 1, 2, 4, 6].contains i) (by kernel_rfl) (by kernel_rfl) (by kernel_rfl) (by kernel_rfl) hW ?_; clear hW; intro w39 hW hfw39 hR; have hC : Ws w No [rowR 3 1 enI (Value.slice (some ⟨b35, o36, none⟩) (g28).length co30) g28, Cel b1 #[Value.int .u64 0, Value.int .i64 0, Value.int .i64 0] 32] [mapR bk4 (fun a : Int => Value.int .i64 a) Mark.v c23, Cel p #[Value.map (some b)] 62, mapR b (fun a : Int => Value.int .i64 a) (fun x_ : Nat => Value.map (some x_)) (outs V), SubR (fun (c_ : List (Int × Mark)) (b_ : Nat) => mapR b_ (fun a : Int => Value.int .i64 a) Mark.v c_) V, PoolR p b V, roR A_c 1 enU c] w39 := hW.pick [0, 1] (by decide) rfl
                      refine sr_pure (i := 0) (v := Value.int .i64 y34) hR (by kernel_rfl) rfl (by kernel_rfl) (by kernel_rfl) (fun _ _ _ h => h.elim) hA (by kernel_rfl) (by kernel_rfl) (by kernel_rfl) (Rd.pure fun _ => by kernel_rfl) ?_; clear hA ac; intro ac hA
                      refine sr_pure (i := 1) (v := Value.map (some bk4)) hR (by kernel_rfl) rfl (by kernel_rfl) (by kernel_rfl) (fun _ _ _ h => h.elim) hA (by kernel_rfl) (by kernel_rfl) (by kernel_rfl) (Rd.pure fun _ => by kernel_rfl) ?_; clear hA ac; intro ac hA
                      refine sr_pure (i := 2) (v := Value.int .i64 y34) hR (by kernel_rfl) rfl (by kernel_rfl) (by kernel_rfl) (fun _ _ _ h => h.elim) hA (by kernel_rfl) (by kernel_rfl) (by kernel_rfl) (Rd.pure fun _ => by kernel_rfl) ?_; clear hA ac; intro ac hA
                      refine sr_take (i := 3) (v := ((look c23 (y34 : Int)).getD (⟨0, ⟨0, 0⟩⟩ : Mark)).v) hR (by kernel_rfl) rfl (by kernel_rfl) (by kernel_rfl) (by kernel_rfl) (fun _ _ _ h => h.elim) hA (by kernel_rfl) (by kernel_rfl) (by kernel_rfl) hC ((Rd.lookup (k := 3) (e := 32) (ek := (fun a : Int => Value.int .i64 a)) (ev := Mark.v) (m := c23) (z := (⟨0, ⟨0, 0⟩⟩ : Mark).v) (y34 : Int) false (by kernel_rfl) (by kernel_rfl) (KeyE.int (by kernel_rfl)) (by kernel_rfl) (fun _ => by kernel_rfl) (fun _ hw => (hw).getG 0 rfl)).cast (by generalize look c23 (y34 : Int) = o_; cases o_ <;> rfl)) ?_; clear hA ac; intro ac hA
                      refine sr_pure (i := 4) (v := Value.int .i64 y34) hR (by kernel_rfl) rfl (by kernel_rfl) (by kernel_rfl) (fun _ _ _ h => h.elim) hA (by kernel_rfl) (by kernel_rfl) (by kernel_rfl) (Rd.pure fun _ => by kernel_rfl) ?_; clear hA ac; intro ac hA
                      refine sr_one (i := 5) (by kernel_rfl) (sr_do rfl hA (by kernel_rfl) (by kernel_rfl) (by kernel_rfl) (Runs.store (v := ((look c23 (y34 : Int)).getD (⟨0, ⟨0, 0⟩⟩ : Mark)).v) (b := b1) (j := 0) (n := 3) (cs' := #[Value.int .u64 ((look c23 (y34 : Int)).getD (⟨0, ⟨0, 0⟩⟩ : Mark)).clock, Value.int .i64 ((look c23 (y34 : Int)).getD (⟨0, ⟨0, 0⟩⟩ : Mark)).site.f, Value.int .i64 ((look c23 (y34 : Int)).getD (⟨0, ⟨0, 0⟩⟩ : Mark)).site.pc]) (H' := [rowR 3 1 enI (Value.slice (some ⟨b35, o36, none⟩) (g28).length co30) g28, Cel b1 #[Value.int .u64 ((look c23 (y34 : Int)).getD (⟨0, ⟨0, 0⟩⟩ : Mark)).clock, Value.int .i64 ((look c23 (y34 : Int)).getD (⟨0, ⟨0, 0⟩⟩ : Mark)).site.f, Value.int .i64 ((look c23 (y34 : Int)).getD (⟨0, ⟨0, 0⟩⟩ : Mark)).site.pc] 32]) (by kernel_rfl) (by kernel_rfl) (by kernel_rfl) (by kernel_rfl) (by kernel_rfl) hW 1 (by rfl) (Nat.le_of_ble_eq_true (by kernel_rfl)) (by kernel_rfl) (by rfl) ?_)); clear hA ac hW; intro w40 hW ac hA
                      refine ⟨⟨fun h => absurd h (by decide), fun h => absurd h (by decide)⟩, ?_⟩
                      refine sr_pure (i := 6) (v := Value.bool true) hR (by kernel_rfl) rfl (by kernel_rfl) (by kernel_rfl) (fun _ _ _ h => h.elim) hA (by kernel_rfl) (by kernel_rfl) (by kernel_rfl) (Rd.pure fun _ => by kernel_rfl) ?_; clear hA ac; intro ac hA
                      refine sr_done (by kernel_rfl) ?_ _
                      exact ⟨hA.sub ⟨⟨by kernel_rfl, by kernel_rfl⟩, ⟨by kernel_rfl, by kernel_rfl⟩, ⟨by kernel_rfl, by kernel_rfl⟩, ⟨by kernel_rfl, by kernel_rfl⟩, ⟨by kernel_rfl, by kernel_rfl⟩, ⟨by kernel_rfl, by kernel_rfl⟩, ⟨by kernel_rfl, by kernel_rfl⟩, ⟨by kernel_rfl, by kernel_rfl⟩, ⟨by kernel_rfl, by kernel_rfl⟩, ⟨by kernel_rfl, by kernel_rfl⟩, ⟨by kernel_rfl, by kernel_rfl⟩, ⟨by kernel_rfl, by kernel_rfl⟩, ⟨by kernel_rfl, by kernel_rfl⟩, ⟨by kernel_rfl, by kernel_rfl⟩, ⟨by kernel_rfl, by kernel_rfl⟩, ⟨by kernel_rfl, by kernel_rfl⟩, ⟨by kernel_rfl, by kernel_rfl⟩, ⟨by kernel_rfl, by kernel_rfl⟩, ⟨by kernel_rfl, by kernel_rfl⟩, ⟨by kernel_rfl, by kernel_rfl⟩, trivial⟩, (hW.pick [0, 1] (by decide) rfl).pickG [0, 1, 2, 3, 4, 5] rfl⟩
                    clear hA ac hW; rintro ac w41 ⟨hA, hW⟩
                    refine thenN ?_
                    refine wp_ret ?_
                    refine blkR ?_
                    refine thenR ?_
                    refine thenR ?_
                    refine blkR ?_
                    refine thenR ?_
                    refine ret3 (v1 := Value.int .i64 y34) (v2 := Value.agg #[Value.int .u64 ((look c23 (y34 : Int)).getD (⟨0, ⟨0, 0⟩⟩ : Mark)).clock, Value.int .i64 ((look c23 (y34 : Int)).getD (⟨0, ⟨0, 0⟩⟩ : Mark)).site.f, Value.int .i64 ((look c23 (y34 : Int)).getD (⟨0, ⟨0, 0⟩⟩ : Mark)).site.pc]) (v3 := Value.bool true) (by rfl) hA (Got.tmp hA (by kernel_rfl) (by kernel_rfl)) (Got.cell (b := b1) (i := 0) hA (by kernel_rfl) (by kernel_rfl) (hW.cel 1 rfl) (by kernel_rfl)) (Got.tmp hA (by kernel_rfl) (by kernel_rfl)) ?_
                    clear hA
                    exact ⟨y34, ((look c23 (y34 : Int)).getD (⟨0, ⟨0, 0⟩⟩ : Mark)), true, by first | rfl | (simp; done), by rw [hv25]; refine ⟨g28, hw27_hp, hw27_hs, ?_⟩; show match List.find? (fun i => decide ((markAt c23 i).clock > getC c i)) g28 with | some i => _ | none => _; rw [find_some hn hy34 (decide_eq_true h38)]; exact ⟨rfl, rfl, rfl⟩, hW.fr⟩)
              · skip
                have h38 := of_decide_eq_false h38
                first
                | (exfalso; clear hA hW; omega)
                | (
                    refine wp_skip ?_
                    refine blkN ?_
                    refine thenN ?_
                    refine wp_region_lit ?_
                    refine st_rd (v := Value.int .i64 ((k + 1 : Nat) : Int)) hA (by kernel_rfl) (by kernel_rfl) (by kernel_rfl) hW.cls (Rd.pureE (v0 := Value.int .i64 (IntKind.i64.wrap ((((k : Nat) : Int) : Int) + 1))) (fun _ => by kernel_rfl) (congrArg (Value.int .i64) ((w_i64 (x := (((k : Nat) : Int) : Int) + 1) (by omega) (by omega)).trans (by omega)))) ?_; clear hA ac; intro ac hA
                    refine st_rd (v := Value.int .i64 ((k + 1 : Nat) : Int)) hA (by kernel_rfl) (by kernel_rfl) (by kernel_rfl) hW.cls (Rd.pure fun _ => by kernel_rfl) ?_; clear hA ac; intro ac hA
                    refine wpList_nil ?_
                    refine thenN ?_
                    exact ⟨g28.length - (k + 1), by omega, k + 1, rfl, by omega, by intro x hx; rw [tk_snoc hy34] at hx; rcases List.mem_append.1 hx with hx | hx; exact hn x hx; (simp only [List.mem_singleton] at hx; subst hx; exact decide_eq_false h38), hA.sub ⟨⟨by kernel_rfl, by kernel_rfl⟩, ⟨by kernel_rfl, by kernel_rfl⟩, ⟨by kernel_rfl, by kernel_rfl⟩, ⟨by kernel_rfl, by kernel_rfl⟩, ⟨by kernel_rfl, by kernel_rfl⟩, ⟨by kernel_rfl, by kernel_rfl⟩, trivial⟩, (hW.pick [0, 1] (by decide) rfl).pickG [0, 1, 2, 3, 4, 5] rfl⟩))
        · skip
          have h33 := of_decide_eq_false h33
          first
          | (exfalso; clear hA hW; omega)
          | (
              refine wp_exit ?_
              refine thenX ?_
              refine thenX ?_
              refine blkX ?_
              refine thenN ?_
              refine wp_seq ?_
              refine wp_region_lit ?_
              refine st_rd (v := Value.agg #[Value.int .u64 0, Value.int .i64 0, Value.int .i64 0]) hA (by kernel_rfl) (by kernel_rfl) (by kernel_rfl) hW.cls (Rd.pure fun _ => by kernel_rfl) ?_; clear hA ac; intro ac hA
              refine st_rd (v := Value.int .i64 0) hA (by kernel_rfl) (by kernel_rfl) (by kernel_rfl) hW.cls (Rd.pure fun _ => by kernel_rfl) ?_; clear hA ac; intro ac hA
              refine st hA (by kernel_rfl) (by kernel_rfl) (by kernel_rfl) (Runs.store (v := Value.agg #[Value.int .u64 0, Value.int .i64 0, Value.int .i64 0]) (b := b1) (j := 0) (n := 3) (cs' := #[Value.int .u64 0, Value.int .i64 0, Value.int .i64 0]) (H' := [rowR 3 1 enI (Value.slice Ao29 (g28).length co30) g28, Cel b1 #[Value.int .u64 0, Value.int .i64 0, Value.int .i64 0] 32]) (by kernel_rfl) (by kernel_rfl) (by kernel_rfl) (by kernel_rfl) (by kernel_rfl) hW 1 (by rfl) (Nat.le_of_ble_eq_true (by kernel_rfl)) (by kernel_rfl) (by rfl) ?_); clear hA ac hW; intro w42 hW ac hA
              refine st_rd (v := Value.bool false) hA (by kernel_rfl) (by kernel_rfl) (by kernel_rfl) hW.cls (Rd.pure fun _ => by kernel_rfl) ?_; clear hA ac; intro ac hA
              refine wpList_nil ?_
              refine thenN ?_
              refine wp_ret ?_
              refine ret3 (v1 := Value.int .i64 0) (v2 := Value.agg #[Value.int .u64 0, Value.int .i64 0, Value.int .i64 0]) (v3 := Value.bool false) (by rfl) hA (Got.tmp hA (by kernel_rfl) (by kernel_rfl)) (Got.cell (b := b1) (i := 0) hA (by kernel_rfl) (by kernel_rfl) (hW.cel 1 rfl) (by kernel_rfl)) (Got.tmp hA (by kernel_rfl) (by kernel_rfl)) ?_
              clear hA
              exact ⟨0, (⟨0, (⟨0, 0⟩ : Site)⟩ : Mark), false, by first | rfl | (simp; done), by rw [hv25]; refine ⟨g28, hw27_hp, hw27_hs, ?_⟩; show match List.find? (fun i => decide ((markAt c23 i).clock > getC c i)) g28 with | some i => _ | none => _; rw [find_no hn (by omega)]; exact ⟨rfl, rfl, rfl⟩, hW.fr⟩))

set_option maxRecDepth 100000 in
theorem it_each (bl bo bm : Nat) (A : Option Addr) (c : Nat) (l : List Int) (m : MarkM) (hc : l.length ≤ c) (hl : l.length ≤ 1000000) : Iter Try.prog 31 #[Value.pointer (some ⟨bl, 0, none⟩), Value.pointer (some ⟨bo, 0, none⟩)] (fun x_ : Int × Mark => #[Value.int .i64 x_.1, x_.2.v]) (· = l.map (fun i_ : Int => (i_, markAt m i_))) [Cel bl #[Value.slice A l.length c] 35, roR A 1 enI l, Cel bo #[Value.map (some bm)] 69, mapR bm (fun a : Int => Value.int .i64 a) Mark.v m] := by
  intro l_ J_ Jx_ r0 w hOs_ hdis_ hR_ hJ0_ hp_ hlt_
  have hW := iterW hOs_ hdis_ hp_ hlt_; clear hOs_ hdis_ hp_ hlt_
  have _hu := hc; clear _hu
  have _hu := hl; clear _hu
  refine enter_F 15 Try.func31 rfl rfl (by kernel_rfl) (L := [(0, Value.func (.yield l_) #[] #[]), (1, Value.pointer (some ⟨bl, 0, none⟩)), (2, Value.pointer (some ⟨bo, 0, none⟩))]) (by kernel_rfl) ?_
  intro ac hA
  refine wpIn_seq ?_
  refine wpIn_region_lit ?_
  refine stF hA (by kernel_rfl) (by kernel_rfl) (by kernel_rfl) (by kernel_rfl) (RunsF.of (Runs.cells (fun b => Value.pointer (some ⟨b, 0, none⟩)) #[Value.func (.yield l_) #[] #[]] 74 (fun _ => by kernel_rfl) hW ?_)); clear hA ac hW; intro b1 w2 hW hb1 hfw2 ac hA
  refine wpListIn_nil ?_
  refine thenN ?_
  refine wpIn_scope ?_
  refine wpIn_seq ?_
  refine wpIn_label ?_
  refine thenN ?_
  refine wpIn_seq ?_
  refine wpIn_region_lit ?_
  refine st_rdF (v := Value.slice A l.length c) hA (by kernel_rfl) (by kernel_rfl) (by kernel_rfl) (by kernel_rfl) hW.cls (Rd.load (b := bl) (i := 0) (by kernel_rfl) (fun _ hw => show _ = _ from (hw.1).getG 0 rfl) (by kernel_rfl)) ?_; clear hA ac; intro ac hA
  refine stF hA (by kernel_rfl) (by kernel_rfl) (by kernel_rfl) (by kernel_rfl) (RunsF.of (Runs.call (fun _ => by kernel_rfl) (e_values_i64 A c l w2 ((hW).getG 1 rfl) (by first | assumption | omega | (simp; omega) | simp) (by first | omega | (simp; done))) ?_))
  rintro _ w3 ⟨lb4, g5, rfl, hIg5, hfg5, hfw3⟩; refine ⟨_, rfl, ?_⟩; have hW0 := hW; have hW := hW0.call hfw3; have hW := hW0.addFromAt hW hfg5 (in_cons (in_at 1 rfl) in_nil); clear hW0 hA ac; intro ac hA
  refine wpListIn_nil ?_
  refine thenN ?_
  refine wpIn_block ?_
  have hW := hW.share 0 rfl (H' := [r0]) rfl
  refine wp_range (encs := (fun x_ : Int => #[Value.int .i64 x_])) (Sx := (· = l)) hA (by kernel_rfl) (by kernel_rfl) (enters_of Try.func54 (by kernel_rfl) rfl) (by kernel_rfl) (fun _ => rfl) hIg5 (List.forall_mem_singleton.2 (List.mem_of_getElem? (i := 1) rfl)) (fun pre_ H_ => ∃ k : Nat, ∃ r_ : Res, pre_ = l.take k ∧ k ≤ l.length ∧ (J_ ((l.take k).map (fun i_ : Int => (i_, markAt m i_))) r_) ∧ H_ = [r_]) (fun c_ _ H_ => (c_ = .exit 0 ∧ ∃ q_ : List (Int × Mark), ∃ r_ : Res, (Jx_ q_ r_) ∧ H_ = [r_])) (H := [r0]) (K := []) (hW.pick [0] (by decide) rfl) ⟨0, r0, rfl, Nat.zero_le _, by exact hJ0_, rfl⟩ ?_ ?_ ?_
  · skip
    clear hA ac hW; intro l_6 rd_6 bs_6 pre_ x_ Hk_ w7 T_6 ac hrd_6 hbs_6 hbr_6 hok_ hJ_ hA hW hB_6 hT_6
    obtain ⟨k, r_, rfl, hk_, hJ, rfl⟩ := hJ_
    obtain ⟨y8, h_⟩ : ∃ y_, y_ = x_ := ⟨_, rfl⟩; subst h_; obtain ⟨hy8, hlty8, hsny8⟩ := comes_list hok_ hk_
    replace hA : Fm 15 [] [(0, Value.func (.yield l_) #[] #[]), (1, Value.pointer (some ⟨bl, 0, none⟩)), (2, Value.pointer (some ⟨bo, 0, none⟩)), (3, Value.pointer (some ⟨b1, 0, none⟩)), (5, Value.slice A l.length c), (6, Value.func (.func 54) #[] lb4), (7, Value.int .i64 y8)] ac := hA.sub ⟨⟨by kernel_rfl, by kernel_rfl⟩, ⟨by kernel_rfl, by kernel_rfl⟩, ⟨by kernel_rfl, by kernel_rfl⟩, ⟨by kernel_rfl, by kernel_rfl⟩, ⟨by kernel_rfl, by kernel_rfl⟩, ⟨by kernel_rfl, by kernel_rfl⟩, ⟨by kernel_rfl, by kernel_rfl⟩, trivial⟩
    refine wpIn_region_lit ?_
    refine st_rdF (v := Value.int .i64 y8) hA (by kernel_rfl) (by kernel_rfl) (by kernel_rfl) (by kernel_rfl) hW.cls (Rd.pure fun _ => by kernel_rfl) ?_; clear hA ac; intro ac hA
    refine wpListIn_nil ?_
    refine thenN ?_
    refine begun (bs := bs_6) (H' := [bs_6, r_]) hW 0 rfl (fun b hb => by rw [hbs_6] at hb; rw [hrd_6]; exact hb) rfl ?_; clear hW; intro w9 hW
    refine wpIn_block ?_
    refine wpIn_seq ?_
    refine wpIn_region_lit ?_
    refine st_rdF (v := Value.func (.yield l_) #[] #[]) hA (by kernel_rfl) (by kernel_rfl) (by kernel_rfl) (by kernel_rfl) hW.cls (Rd.load (b := b1) (i := 0) (by kernel_rfl) (fun _ hw => show _ = _ from (hw.1).getG 0 rfl) (by kernel_rfl)) ?_; clear hA ac; intro ac hA
    refine st_rdF (v := Value.int .i64 y8) hA (by kernel_rfl) (by kernel_rfl) (by kernel_rfl) (by kernel_rfl) hW.cls (Rd.pure fun _ => by kernel_rfl) ?_; clear hA ac; intro ac hA
    refine st_rdF (v := Value.map (some bm)) hA (by kernel_rfl) (by kernel_rfl) (by kernel_rfl) (by kernel_rfl) hW.cls (Rd.load (b := bo) (i := 0) (by kernel_rfl) (fun _ hw => show _ = _ from (hw.1).getG 4 rfl) (by kernel_rfl)) ?_; clear hA ac; intro ac hA
    refine st_rdF (v := Value.int .i64 y8) hA (by kernel_rfl) (by kernel_rfl) (by kernel_rfl) (by kernel_rfl) hW.cls (Rd.pure fun _ => by kernel_rfl) ?_; clear hA ac; intro ac hA
    refine st_rdF (v := ((look m (y8 : Int)).getD (⟨0, ⟨0, 0⟩⟩ : Mark)).v) hA (by kernel_rfl) (by kernel_rfl) (by kernel_rfl) (by kernel_rfl) hW.cls ((Rd.lookup (k := 3) (e := 32) (ek := (fun a : Int => Value.int .i64 a)) (ev := Mark.v) (m := m) (z := (⟨0, ⟨0, 0⟩⟩ : Mark).v) (y8 : Int) false (by kernel_rfl) (by kernel_rfl) (KeyE.int (by kernel_rfl)) (by kernel_rfl) (fun _ => by kernel_rfl) (fun _ hw => (hw.1).getG 5 rfl)).cast (by generalize look m (y8 : Int) = o_; cases o_ <;> rfl)) ?_; clear hA ac; intro ac hA
    refine stF hA (by kernel_rfl) (by kernel_rfl) (by kernel_rfl) (by kernel_rfl) (RunsF.yield hR_ ((l.take k).map (fun i_ : Int => (i_, markAt m i_))) ((y8, markAt m y8)) (fun _ => by kernel_rfl) hW 1 rfl (comes_map hy8) (hJ) (chainFr hB_6 hT_6 hW.fr) (chainMay hB_6 hT_6 (hW.may _ (List.mem_of_getElem? (i := 1) rfl))) ?_); clear hA ac hW; intro v10 r11 w12 hv10t hv10f hW ac hA
    refine st_rdF (v := Value.bool (!v10)) hA (by kernel_rfl) (by kernel_rfl) (by kernel_rfl) (by kernel_rfl) hW.cls (Rd.pure fun _ => by kernel_rfl) ?_; clear hA ac; intro ac hA
    refine wpListIn_nil ?_
    refine thenN ?_
    refine wpIn_cond_split (t := !v10) (hA.eval (by kernel_rfl)) (fun h13 => ?_) (fun h13 => ?_)
    · skip
      have h13 := not_t h13
      first
      | (exfalso; clear hA hW; omega)
      | (
          refine wpIn_exit ?_
          refine blkY (by kernel_rfl) ?_
          exact ⟨_, ⟨rfl, _, r11, by exact hv10f h13, rfl⟩, (hW.pick [0, 1] (by decide) rfl).pickG [0, 1, 2, 3, 4, 5] rfl⟩)
    · skip
      have h13 := not_f h13
      first
      | (exfalso; clear hA hW; omega)
      | (
          refine wpIn_skip ?_
          refine blkN ?_
          have hJn := hv10t h13; rw [map_snoc (F := (fun i_ : Int => (i_, markAt m i_))) hy8] at hJn
          exact ⟨_, ⟨k + 1, r11, hsny8, hlty8, by exact hJn, rfl⟩, (hW.pick [0, 1] (by decide) rfl).pickG [0, 1, 2, 3, 4, 5] rfl⟩)
  · skip
    clear hA ac hW; intro D14 xs_ Hk_ w15 ac hS_ hJ_ hA hW
    obtain ⟨k, r_, hpre_, hk_, hJ, rfl⟩ := hJ_
    have hke : k = l.length := by have := congrArg List.length (hS_.symm.trans hpre_); simp at this; omega
    clear hpre_ hS_
    replace hW : Ws w (· ∈ r0.fp) [r_, DefR D14] [Cel b1 #[Value.func (.yield l_) #[] #[]] 74, g5, Cel bl #[Value.slice A l.length c] 35, roR A 1 enI l, Cel bo #[Value.map (some bm)] 69, mapR bm (fun a : Int => Value.int .i64 a) Mark.v m] w15 := hW
    refine blkN ?_
    refine nogN ?_
    refine retF (.inr rfl) hA ?_
    refine leaveD (H' := [r_]) hW 1 rfl rfl ?_; clear hW; intro w16 hW
    refine leave0 (by rfl)  ?_
    clear hA
    rw [List.take_of_length_le (by omega)] at hJ; exact ranDone hW 0 rfl (.inl ⟨_, rfl, hJ⟩)
  · skip
    clear hA ac hW; intro D17 c_ pre_ Hk_ w18 ac hJ_ hA hW
    rcases hJ_ with ⟨rfl, q_, r_, hJx, rfl⟩
    · skip
      replace hW : Ws w (· ∈ r0.fp) [r_, DefR D17] [Cel b1 #[Value.func (.yield l_) #[] #[]] 74, g5, Cel bl #[Value.slice A l.length c] 35, roR A 1 enI l, Cel bo #[Value.map (some bm)] 69, mapR bm (fun a : Int => Value.int .i64 a) Mark.v m] w18 := hW
      refine wpIn_exit ?_
      refine blkX ?_
      refine nogN ?_
      refine retF (.inr rfl) hA ?_
      refine leaveD (H' := [r_]) hW 1 rfl rfl ?_; clear hW; intro w19 hW
      refine leave0 (by rfl)  ?_
      clear hA
      exact ranDone hW 0 rfl (.inr ⟨_, hJx⟩)

set_option maxRecDepth 100000 in
theorem it_eachN (bl bo : Nat) (A : Option Addr) (c : Nat) (l : List Int) (hc : l.length ≤ c) (hl : l.length ≤ 1000000) : Iter Try.prog 31 #[Value.pointer (some ⟨bl, 0, none⟩), Value.pointer (some ⟨bo, 0, none⟩)] (fun x_ : Int × Mark => #[Value.int .i64 x_.1, x_.2.v]) (· = l.map (fun i_ : Int => (i_, markAt ([] : MarkM) i_))) [Cel bl #[Value.slice A l.length c] 35, roR A 1 enI l, Cel bo #[Value.map none] 69] := by
  intro l_ J_ Jx_ r0 w hOs_ hdis_ hR_ hJ0_ hp_ hlt_
  have hW := iterW hOs_ hdis_ hp_ hlt_; clear hOs_ hdis_ hp_ hlt_
  have _hu := hc; clear _hu
  have _hu := hl; clear _hu
  refine enter_F 15 Try.func31 rfl rfl (by kernel_rfl) (L := [(0, Value.func (.yield l_) #[] #[]), (1, Value.pointer (some ⟨bl, 0, none⟩)), (2, Value.pointer (some ⟨bo, 0, none⟩))]) (by kernel_rfl) ?_
  intro ac hA
  refine wpIn_seq ?_
  refine wpIn_region_lit ?_
  refine stF hA (by kernel_rfl) (by kernel_rfl) (by kernel_rfl) (by kernel_rfl) (RunsF.of (Runs.cells (fun b => Value.pointer (some ⟨b, 0, none⟩)) #[Value.func (.yield l_) #[] #[]] 74 (fun _ => by kernel_rfl) hW ?_)); clear hA ac hW; intro b1 w2 hW hb1 hfw2 ac hA
  refine wpListIn_nil ?_
  refine thenN ?_
  refine wpIn_scope ?_
  refine wpIn_seq ?_
  refine wpIn_label ?_
  refine thenN ?_
  refine wpIn_seq ?_
  refine wpIn_region_lit ?_
  refine st_rdF (v := Value.slice A l.length c) hA (by kernel_rfl) (by kernel_rfl) (by kernel_rfl) (by kernel_rfl) hW.cls (Rd.load (b := bl) (i := 0) (by kernel_rfl) (fun _ hw => show _ = _ from (hw.1).getG 0 rfl) (by kernel_rfl)) ?_; clear hA ac; intro ac hA
  refine stF hA (by kernel_rfl) (by kernel_rfl) (by kernel_rfl) (by kernel_rfl) (RunsF.of (Runs.call (fun _ => by kernel_rfl) (e_values_i64 A c l w2 ((hW).getG 1 rfl) (by first | assumption | omega | (simp; omega) | simp) (by first | omega | (simp; done))) ?_))
  rintro _ w3 ⟨lb4, g5, rfl, hIg5, hfg5, hfw3⟩; refine ⟨_, rfl, ?_⟩; have hW0 := hW; have hW := hW0.call hfw3; have hW := hW0.addFromAt hW hfg5 (in_cons (in_at 1 rfl) in_nil); clear hW0 hA ac; intro ac hA
  refine wpListIn_nil ?_
  refine thenN ?_
  refine wpIn_block ?_
  have hW := hW.share 0 rfl (H' := [r0]) rfl
  refine wp_range (encs := (fun x_ : Int => #[Value.int .i64 x_])) (Sx := (· = l)) hA (by kernel_rfl) (by kernel_rfl) (enters_of Try.func54 (by kernel_rfl) rfl) (by kernel_rfl) (fun _ => rfl) hIg5 (List.forall_mem_singleton.2 (List.mem_of_getElem? (i := 1) rfl)) (fun pre_ H_ => ∃ k : Nat, ∃ r_ : Res, pre_ = l.take k ∧ k ≤ l.length ∧ (J_ ((l.take k).map (fun i_ : Int => (i_, markAt ([] : MarkM) i_))) r_) ∧ H_ = [r_]) (fun c_ _ H_ => (c_ = .exit 0 ∧ ∃ q_ : List (Int × Mark), ∃ r_ : Res, (Jx_ q_ r_) ∧ H_ = [r_])) (H := [r0]) (K := []) (hW.pick [0] (by decide) rfl) ⟨0, r0, rfl, Nat.zero_le _, by exact hJ0_, rfl⟩ ?_ ?_ ?_
  · skip
    clear hA ac hW; intro l_6 rd_6 bs_6 pre_ x_ Hk_ w7 T_6 ac hrd_6 hbs_6 hbr_6 hok_ hJ_ hA hW hB_6 hT_6
    obtain ⟨k, r_, rfl, hk_, hJ, rfl⟩ := hJ_
    obtain ⟨y8, h_⟩ : ∃ y_, y_ = x_ := ⟨_, rfl⟩; subst h_; obtain ⟨hy8, hlty8, hsny8⟩ := comes_list hok_ hk_
    replace hA : Fm 15 [] [(0, Value.func (.yield l_) #[] #[]), (1, Value.pointer (some ⟨bl, 0, none⟩)), (2, Value.pointer (some ⟨bo, 0, none⟩)), (3, Value.pointer (some ⟨b1, 0, none⟩)), (5, Value.slice A l.length c), (6, Value.func (.func 54) #[] lb4), (7, Value.int .i64 y8)] ac := hA.sub ⟨⟨by kernel_rfl, by kernel_rfl⟩, ⟨by kernel_rfl, by kernel_rfl⟩, ⟨by kernel_rfl, by kernel_rfl⟩, ⟨by kernel_rfl, by kernel_rfl⟩, ⟨by kernel_rfl, by kernel_rfl⟩, ⟨by kernel_rfl, by kernel_rfl⟩, ⟨by kernel_rfl, by kernel_rfl⟩, trivial⟩
    refine wpIn_region_lit ?_
    refine st_rdF (v := Value.int .i64 y8) hA (by kernel_rfl) (by kernel_rfl) (by kernel_rfl) (by kernel_rfl) hW.cls (Rd.pure fun _ => by kernel_rfl) ?_; clear hA ac; intro ac hA
    refine wpListIn_nil ?_
    refine thenN ?_
    refine begun (bs := bs_6) (H' := [bs_6, r_]) hW 0 rfl (fun b hb => by rw [hbs_6] at hb; rw [hrd_6]; exact hb) rfl ?_; clear hW; intro w9 hW
    refine wpIn_block ?_
    refine wpIn_seq ?_
    refine wpIn_region_lit ?_
    refine st_rdF (v := Value.func (.yield l_) #[] #[]) hA (by kernel_rfl) (by kernel_rfl) (by kernel_rfl) (by kernel_rfl) hW.cls (Rd.load (b := b1) (i := 0) (by kernel_rfl) (fun _ hw => show _ = _ from (hw.1).getG 0 rfl) (by kernel_rfl)) ?_; clear hA ac; intro ac hA
    refine st_rdF (v := Value.int .i64 y8) hA (by kernel_rfl) (by kernel_rfl) (by kernel_rfl) (by kernel_rfl) hW.cls (Rd.pure fun _ => by kernel_rfl) ?_; clear hA ac; intro ac hA
    refine st_rdF (v := Value.map none) hA (by kernel_rfl) (by kernel_rfl) (by kernel_rfl) (by kernel_rfl) hW.cls (Rd.load (b := bo) (i := 0) (by kernel_rfl) (fun _ hw => show _ = _ from (hw.1).getG 4 rfl) (by kernel_rfl)) ?_; clear hA ac; intro ac hA
    refine st_rdF (v := Value.int .i64 y8) hA (by kernel_rfl) (by kernel_rfl) (by kernel_rfl) (by kernel_rfl) hW.cls (Rd.pure fun _ => by kernel_rfl) ?_; clear hA ac; intro ac hA
    refine st_rdF (v := (⟨0, ⟨0, 0⟩⟩ : Mark).v) hA (by kernel_rfl) (by kernel_rfl) (by kernel_rfl) (by kernel_rfl) hW.cls (Rd.lookupNil (k := 3) (e := 32) (ek := (fun a : Int => Value.int .i64 a)) (z := (⟨0, ⟨0, 0⟩⟩ : Mark).v) (y8 : Int) false (by kernel_rfl) (by kernel_rfl) (KeyE.int (by kernel_rfl)) (by kernel_rfl) (fun _ => by kernel_rfl)) ?_; clear hA ac; intro ac hA
    refine stF hA (by kernel_rfl) (by kernel_rfl) (by kernel_rfl) (by kernel_rfl) (RunsF.yield hR_ ((l.take k).map (fun i_ : Int => (i_, markAt ([] : MarkM) i_))) ((y8, markAt ([] : MarkM) y8)) (fun _ => by kernel_rfl) hW 1 rfl (comes_map (F := (fun i_ : Int => (i_, markAt ([] : MarkM) i_))) hy8) (hJ) (chainFr hB_6 hT_6 hW.fr) (chainMay hB_6 hT_6 (hW.may _ (List.mem_of_getElem? (i := 1) rfl))) ?_); clear hA ac hW; intro v10 r11 w12 hv10t hv10f hW ac hA
    refine st_rdF (v := Value.bool (!v10)) hA (by kernel_rfl) (by kernel_rfl) (by kernel_rfl) (by kernel_rfl) hW.cls (Rd.pure fun _ => by kernel_rfl) ?_; clear hA ac; intro ac hA
    refine wpListIn_nil ?_
    refine thenN ?_
    refine wpIn_cond_split (t := !v10) (hA.eval (by kernel_rfl)) (fun h13 => ?_) (fun h13 => ?_)
    · skip
      have h13 := not_t h13
      first
      | (exfalso; clear hA hW; omega)
      | (
          refine wpIn_exit ?_
          refine blkY (by kernel_rfl) ?_
          exact ⟨_, ⟨rfl, _, r11, by exact hv10f h13, rfl⟩, (hW.pick [0, 1] (by decide) rfl).pickG [0, 1, 2, 3, 4] rfl⟩)
    · skip
      have h13 := not_f h13
      first
      | (exfalso; clear hA hW; omega)
      | (
          refine wpIn_skip ?_
          refine blkN ?_
          have hJn := hv10t h13; rw [map_snoc (F := (fun i_ : Int => (i_, markAt ([] : MarkM) i_))) hy8] at hJn
          exact ⟨_, ⟨k + 1, r11, hsny8, hlty8, by exact hJn, rfl⟩, (hW.pick [0, 1] (by decide) rfl).pickG [0, 1, 2, 3, 4] rfl⟩)
  · skip
    clear hA ac hW; intro D14 xs_ Hk_ w15 ac hS_ hJ_ hA hW
    obtain ⟨k, r_, hpre_, hk_, hJ, rfl⟩ := hJ_
    have hke : k = l.length := by have := congrArg List.length (hS_.symm.trans hpre_); simp at this; omega
    clear hpre_ hS_
    replace hW : Ws w (· ∈ r0.fp) [r_, DefR D14] [Cel b1 #[Value.func (.yield l_) #[] #[]] 74, g5, Cel bl #[Value.slice A l.length c] 35, roR A 1 enI l, Cel bo #[Value.map none] 69] w15 := hW
    refine blkN ?_
    refine nogN ?_
    refine retF (.inr rfl) hA ?_
    refine leaveD (H' := [r_]) hW 1 rfl rfl ?_; clear hW; intro w16 hW
    refine leave0 (by rfl)  ?_
    clear hA
    rw [List.take_of_length_le (by omega)] at hJ; exact ranDone hW 0 rfl (.inl ⟨_, rfl, hJ⟩)
  · skip
    clear hA ac hW; intro D17 c_ pre_ Hk_ w18 ac hJ_ hA hW
    rcases hJ_ with ⟨rfl, q_, r_, hJx, rfl⟩
    · skip
      replace hW : Ws w (· ∈ r0.fp) [r_, DefR D17] [Cel b1 #[Value.func (.yield l_) #[] #[]] 74, g5, Cel bl #[Value.slice A l.length c] 35, roR A 1 enI l, Cel bo #[Value.map none] 69] w18 := hW
      refine wpIn_exit ?_
      refine blkX ?_
      refine nogN ?_
      refine retF (.inr rfl) hA ?_
      refine leaveD (H' := [r_]) hW 1 rfl rfl ?_; clear hW; intro w19 hW
      refine leave0 (by rfl)  ?_
      clear hA
      exact ranDone hW 0 rfl (.inr ⟨_, hJx⟩)

end Go.Proofs.Ytobbocpacacnhaa.L
