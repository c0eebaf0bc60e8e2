/- Contracts, walked by program over the engine's laws. -/
import Derived.Test.YtgeikokmhkfkgaaProg
import Derived.Test.YtgeikokmhkfkgaaClone13
namespace Go.Proofs.Ytgeikokmhkfkgaa.L
open Go.RowKit

set_option maxRecDepth 100000 in
theorem e_copy (m : Nat) (b : Nat) (h : List (Int × Int)) (many : Int) (w : World) (ho_m : (MutR m b h many).p w) (hl_m : ∀ x_ ∈ (MutR m b h many).fp, x_ < w.heap.size) : Calls Try.prog 16 #[Value.pointer (some ⟨m, 0, none⟩)] w (fun e w' => ∃ nm : Nat, ∃ nb : Nat, e = .returned (Value.pointer (some ⟨nm, 0, none⟩)) ∧ Made (MutR nm nb h many) w w') := by
  have _hu := ho_m; have _hv := hl_m; clear _hu _hv
  refine enter_E 16 Try.func16 rfl rfl (by kernel_rfl) (L := [(0, Value.pointer (some ⟨m, 0, none⟩))]) (by kernel_rfl) ?_
  intro ac hA
  have hW := Ws.start w No
  have hW := hW.objG (L := [Cel m #[Value.map (some b), Value.int .i64 many] 54, mapR b (fun a : Int => Value.int .i64 a) (fun a : Int => Value.int .i64 a) h]) ho_m hl_m
  clear ho_m hl_m
  refine wp_seq ?_
  refine wp_region_lit ?_
  refine st_rd (v := Value.pointer none) hA (by kernel_rfl) (by kernel_rfl) (by kernel_rfl) hW.cls (Rd.pure fun _ => by kernel_rfl) ?_; clear hA ac; intro ac hA
  refine wpList_nil ?_
  refine thenN ?_
  refine wp_seq ?_
  refine wp_seq ?_
  refine wp_region_lit ?_
  refine st_rd (v := Value.pointer (some ⟨m, 0, none⟩)) hA (by kernel_rfl) (by kernel_rfl) (by kernel_rfl) hW.cls (Rd.pure fun _ => by kernel_rfl) ?_; clear hA ac; intro ac hA
  refine st hA (by kernel_rfl) (by kernel_rfl) (by kernel_rfl) (Runs.callS (v := Value.bool false) (fun _ => by kernel_rfl) (e_none m b (many : Int) w (show _ = _ from (hW).getG 0 rfl)) ?_); clear hA ac; intro  ac hA
  refine wpList_nil ?_
  refine thenN ?_
  refine wp_cond_false (hA.eval (by kernel_rfl)) ?_
  refine wp_skip ?_
  refine thenN ?_
  refine wp_seq ?_
  refine wp_cut (fun ac_ wl_ => ∃ br3_10 : Nat, ∃ n0r3_4 : Nat, Fm 16 [] [(0, Value.pointer (some ⟨m, 0, none⟩)), (2, Value.pointer (some ⟨br3_10, 0, none⟩)), (3, Value.pointer (some ⟨m, 0, none⟩)), (4, Value.bool false)] ac_ ∧ Ws w No [Cel br3_10 #[Value.map (some n0r3_4), Value.int .i64 many] 54, mapR n0r3_4 (fun a : Int => Value.int .i64 a) (fun a : Int => Value.int .i64 a) h] [Cel m #[Value.map (some b), Value.int .i64 many] 54, mapR b (fun a : Int => Value.int .i64 a) (fun a : Int => Value.int .i64 a) h] wl_) ?_ ?_
  · refine sr_region (m := 12) (C := Ws w No [] [Cel m #[Value.map (some b), Value.int .i64 many] 54, mapR b (fun a : Int => Value.int .i64 a) (fun a : Int => Value.int .i64 a) h]) (fun i => [3, 8].contains i) (fun i => [3, 4, 8].contains i) (fun i => [0, 1, 2, 5, 6, 7, 9, 11].contains i) (by kernel_rfl) (by kernel_rfl) (by kernel_rfl) (by kernel_rfl) hW ?_; clear hW; intro w1 hW hfw1 hR; have hC : Ws w No [] [Cel m #[Value.map (some b), Value.int .i64 many] 54, mapR b (fun a : Int => Value.int .i64 a) (fun a : Int => Value.int .i64 a) h] w1 := hW.pick [] (by decide) rfl
    refine sr_pure (i := 0) (v := Value.pointer (some ⟨m, 0, none⟩)) hR (by kernel_rfl) rfl (by kernel_rfl) (by kernel_rfl) (fun _ _ _ h => h.elim) hA (by kernel_rfl) (by kernel_rfl) (by kernel_rfl) (Rd.pure fun _ => by kernel_rfl) ?_; clear hA ac; intro ac hA
    refine sr_pure (i := 1) (v := Value.pointer (some ⟨m, 0, none⟩)) hR (by kernel_rfl) rfl (by kernel_rfl) (by kernel_rfl) (fun _ _ _ h => h.elim) hA (by kernel_rfl) (by kernel_rfl) (by kernel_rfl) (Rd.pure fun _ => by kernel_rfl) ?_; clear hA ac; intro ac hA
    refine sr_pure (i := 2) (v := Value.pointer (some ⟨m, 0, none⟩)) hR (by kernel_rfl) rfl (by kernel_rfl) (by kernel_rfl) (fun _ _ _ h => h.elim) hA (by kernel_rfl) (by kernel_rfl) (by kernel_rfl) (Rd.pure fun _ => by kernel_rfl) ?_; clear hA ac; intro ac hA
    refine sr_take (i := 3) (v := Value.map (some b)) hR (by kernel_rfl) rfl (by kernel_rfl) (by kernel_rfl) (by kernel_rfl) (fun _ _ _ h => h.elim) hA (by kernel_rfl) (by kernel_rfl) (by kernel_rfl) hC (Rd.load (b := m) (i := 0) (by kernel_rfl) (fun _ hw => show _ = _ from (hw).getG 0 rfl) (by kernel_rfl)) ?_; clear hA ac; intro ac hA
    refine sr_pure (i := 5) (v := Value.pointer (some ⟨m, 0, none⟩)) hR (by kernel_rfl) rfl (by kernel_rfl) (by kernel_rfl) (fun _ _ _ h => h.elim) hA (by kernel_rfl) (by kernel_rfl) (by kernel_rfl) (Rd.pure fun _ => by kernel_rfl) ?_; clear hA ac; intro ac hA
    refine sr_pure (i := 6) (v := Value.pointer (some ⟨m, 0, none⟩)) hR (by kernel_rfl) rfl (by kernel_rfl) (by kernel_rfl) (fun _ _ _ h => h.elim) hA (by kernel_rfl) (by kernel_rfl) (by kernel_rfl) (Rd.pure fun _ => by kernel_rfl) ?_; clear hA ac; intro ac hA
    refine sr_pure (i := 7) (v := Value.pointer (some ⟨m, 1, none⟩)) hR (by kernel_rfl) rfl (by kernel_rfl) (by kernel_rfl) (fun _ _ _ h => h.elim) hA (by kernel_rfl) (by kernel_rfl) (by kernel_rfl) (Rd.pure fun _ => by kernel_rfl) ?_; clear hA ac; intro ac hA
    refine sr_take (i := 8) (v := Value.int .i64 many) hR (by kernel_rfl) rfl (by kernel_rfl) (by kernel_rfl) (by kernel_rfl) (fun _ _ _ h => h.elim) hA (by kernel_rfl) (by kernel_rfl) (by kernel_rfl) hC (Rd.load (b := m) (i := 1) (by kernel_rfl) (fun _ hw => show _ = _ from (hw).getG 0 rfl) (by kernel_rfl)) ?_; clear hA ac; intro ac hA
    refine sr_one (i := 4) (by kernel_rfl) (sr_do rfl hA (by kernel_rfl) (by kernel_rfl) (by kernel_rfl) (Runs.call (fun _ => by kernel_rfl) (e_clone w1 ((hW).getG 1 rfl)) ?_))
    rintro _ w2 ⟨n0r3_4, rfl, hu_⟩; refine ⟨_, rfl, ?_⟩; replace hW := hW.made hu_; clear hA ac; intro ac hA
    refine ⟨⟨fun _ => (hW.pick [] (by decide) rfl).pickG [0, 1] rfl, fun h => absurd h (by decide)⟩, ?_⟩; have hC : Ws w No [] [Cel m #[Value.map (some b), Value.int .i64 many] 54, mapR b (fun a : Int => Value.int .i64 a) (fun a : Int => Value.int .i64 a) h] w2 := (hW.pick [] (by decide) rfl).pickG [0, 1] rfl
    refine sr_pure (i := 9) (v := Value.agg #[Value.map (some n0r3_4), Value.int .i64 many]) hR (by kernel_rfl) rfl (by kernel_rfl) (by kernel_rfl) (fun _ _ _ h => h.elim) hA (by kernel_rfl) (by kernel_rfl) (by kernel_rfl) (Rd.pure fun _ => by kernel_rfl) ?_; clear hA ac; intro ac hA
    refine sr_one (i := 10) (by kernel_rfl) (sr_do rfl hA (by kernel_rfl) (by kernel_rfl) (by kernel_rfl) (Runs.cells (fun b => Value.pointer (some ⟨b, 0, none⟩)) #[Value.map (some n0r3_4), Value.int .i64 many] 54 (fun _ => by kernel_rfl) hW ?_)); clear hA ac hW; intro br3_10 w3 hW hbr3_10 hfw3 ac hA
    refine ⟨⟨fun h => absurd h (by decide), fun h => absurd h (by decide)⟩, ?_⟩
    refine sr_pure (i := 11) (v := Value.pointer (some ⟨br3_10, 0, none⟩)) hR (by kernel_rfl) rfl (by kernel_rfl) (by kernel_rfl) (fun _ _ _ h => h.elim) hA (by kernel_rfl) (by kernel_rfl) (by kernel_rfl) (Rd.pure fun _ => by kernel_rfl) ?_; clear hA ac; intro ac hA
    refine sr_done (by kernel_rfl) ?_ _
    exact ⟨br3_10, n0r3_4, hA.sub ⟨⟨by kernel_rfl, by kernel_rfl⟩, ⟨by kernel_rfl, by kernel_rfl⟩, ⟨by kernel_rfl, by kernel_rfl⟩, ⟨by kernel_rfl, by kernel_rfl⟩, trivial⟩, (hW.pick [0, 1] (by decide) rfl).pickG [0, 1] rfl⟩
  clear hA ac hW; rintro ac w4 ⟨br3_10, n0r3_4, hA, hW⟩
  refine thenN ?_
  refine wp_ret ?_
  refine ret1 (v := Value.pointer (some ⟨br3_10, 0, none⟩)) (by rfl) hA (Got.tmp hA (by kernel_rfl) (by kernel_rfl)) ?_
  clear hA
  exact ⟨br3_10, n0r3_4, rfl, (Ws.pack (K := []) (show Ws w No ([Cel br3_10 #[Value.map (some n0r3_4), Value.int .i64 many] 54, mapR n0r3_4 (fun a : Int => Value.int .i64 a) (fun a : Int => Value.int .i64 a) h] ++ []) [Cel m #[Value.map (some b), Value.int .i64 many] 54, mapR b (fun a : Int => Value.int .i64 a) (fun a : Int => Value.int .i64 a) h] _ from hW.pick [0, 1] (by decide) rfl)).madeDone 0 rfl⟩

set_option maxRecDepth 100000 in
theorem e_same (m : Nat) (b : Nat) (h : List (Int × Int)) (many : Int) (m2 : Nat) (b2 : Nat) (g : List (Int × Int)) (many2 : Int) (w : World) (ho_m : (MutR m b h many).p w) (hl_m : ∀ x_ ∈ (MutR m b h many).fp, x_ < w.heap.size) (ho_n : (MutR m2 b2 g many2).p w) (hl_n : ∀ x_ ∈ (MutR m2 b2 g many2).fp, x_ < w.heap.size) (hl : h.length ≤ 1000 ∧ g.length ≤ 1000) : Calls Try.prog 18 #[Value.pointer (some ⟨m, 0, none⟩), Value.pointer (some ⟨m2, 0, none⟩)] w (fun e w' => e = .returned (Value.bool (decide (many = many2) && decide (mEq h g))) ∧ Fr No w w') := by
  have _hu := ho_m; have _hv := hl_m; clear _hu _hv
  have _hu := ho_n; have _hv := hl_n; clear _hu _hv
  have _hu := hl; clear _hu
  refine enter_E 37 Try.func18 rfl rfl (by kernel_rfl) (L := [(0, Value.pointer (some ⟨m, 0, none⟩)), (1, Value.pointer (some ⟨m2, 0, none⟩))]) (by kernel_rfl) ?_
  intro ac hA
  have hW := Ws.start w No
  have hW := hW.objG (L := [Cel m #[Value.map (some b), Value.int .i64 many] 54, mapR b (fun a : Int => Value.int .i64 a) (fun a : Int => Value.int .i64 a) h]) ho_m hl_m
  clear ho_m hl_m
  have hW := hW.objG (L := [Cel m2 #[Value.map (some b2), Value.int .i64 many2] 54, mapR b2 (fun a : Int => Value.int .i64 a) (fun a : Int => Value.int .i64 a) g]) ho_n hl_n
  clear ho_n hl_n
  refine wp_seq ?_
  refine wp_region_lit ?_
  refine st_rd (v := Value.bool false) hA (by kernel_rfl) (by kernel_rfl) (by kernel_rfl) hW.cls (Rd.pure fun _ => by kernel_rfl) ?_; clear hA ac; intro ac hA
  refine wpList_nil ?_
  refine thenN ?_
  refine wp_seq ?_
  refine wp_seq ?_
  refine wp_region_lit ?_
  refine st_rd (v := Value.pointer (some ⟨m, 0, none⟩)) hA (by kernel_rfl) (by kernel_rfl) (by kernel_rfl) hW.cls (Rd.pure fun _ => by kernel_rfl) ?_; clear hA ac; intro ac hA
  refine st hA (by kernel_rfl) (by kernel_rfl) (by kernel_rfl) (Runs.callS (v := Value.bool false) (fun _ => by kernel_rfl) (e_none m b (many : Int) w (show _ = _ from (hW).getG 2 rfl)) ?_); clear hA ac; intro  ac hA
  refine st_rd (v := Value.bool false) hA (by kernel_rfl) (by kernel_rfl) (by kernel_rfl) hW.cls (Rd.pure fun _ => by kernel_rfl) ?_; clear hA ac; intro ac hA
  refine st_rd (v := Value.pointer (some ⟨m2, 0, none⟩)) hA (by kernel_rfl) (by kernel_rfl) (by kernel_rfl) hW.cls (Rd.pure fun _ => by kernel_rfl) ?_; clear hA ac; intro ac hA
  refine st hA (by kernel_rfl) (by kernel_rfl) (by kernel_rfl) (Runs.callS (v := Value.bool false) (fun _ => by kernel_rfl) (e_none m2 b2 (many2 : Int) w (show _ = _ from (hW).getG 0 rfl)) ?_); clear hA ac; intro  ac hA
  refine st_rd (v := Value.bool false) hA (by kernel_rfl) (by kernel_rfl) (by kernel_rfl) hW.cls (Rd.pure fun _ => by kernel_rfl) ?_; clear hA ac; intro ac hA
  refine wpList_nil ?_
  refine thenN ?_
  refine wp_cond_false (hA.eval (by kernel_rfl)) ?_
  refine wp_skip ?_
  refine thenN ?_
  refine wp_seq ?_
  refine q_region (by kernel_rfl) (by kernel_rfl) hW ?_
  refine sq_rd (v := Value.pointer (some ⟨m, 0, none⟩)) hA (by kernel_rfl) (by kernel_rfl) (by kernel_rfl) (Rd.pure fun _ => by kernel_rfl) ?_; clear hA ac; intro ac hA
  refine sq_rd (v := Value.pointer (some ⟨m, 0, none⟩)) hA (by kernel_rfl) (by kernel_rfl) (by kernel_rfl) (Rd.pure fun _ => by kernel_rfl) ?_; clear hA ac; intro ac hA
  refine sq_rd (v := Value.pointer (some ⟨m, 1, none⟩)) hA (by kernel_rfl) (by kernel_rfl) (by kernel_rfl) (Rd.pure fun _ => by kernel_rfl) ?_; clear hA ac; intro ac hA
  refine sq_rd (v := Value.int .i64 many) hA (by kernel_rfl) (by kernel_rfl) (by kernel_rfl) (Rd.load (b := m) (i := 1) (by kernel_rfl) (fun _ hw => show _ = _ from (hw.1).getG 2 rfl) (by kernel_rfl)) ?_; clear hA ac; intro ac hA
  refine sq_rd (v := Value.pointer (some ⟨m2, 0, none⟩)) hA (by kernel_rfl) (by kernel_rfl) (by kernel_rfl) (Rd.pure fun _ => by kernel_rfl) ?_; clear hA ac; intro ac hA
  refine sq_rd (v := Value.pointer (some ⟨m2, 0, none⟩)) hA (by kernel_rfl) (by kernel_rfl) (by kernel_rfl) (Rd.pure fun _ => by kernel_rfl) ?_; clear hA ac; intro ac hA
  refine sq_rd (v := Value.pointer (some ⟨m2, 1, none⟩)) hA (by kernel_rfl) (by kernel_rfl) (by kernel_rfl) (Rd.pure fun _ => by kernel_rfl) ?_; clear hA ac; intro ac hA
  refine sq_rd (v := Value.int .i64 many2) hA (by kernel_rfl) (by kernel_rfl) (by kernel_rfl) (Rd.load (b := m2) (i := 1) (by kernel_rfl) (fun _ hw => show _ = _ from (hw.1).getG 0 rfl) (by kernel_rfl)) ?_; clear hA ac; intro ac hA
  refine sq_rd (v := Value.bool ((many : Int) == (many2 : Int))) hA (by kernel_rfl) (by kernel_rfl) (by kernel_rfl) (Rd.pure fun _ => by kernel_rfl) ?_; clear hA ac; intro ac hA
  refine sq_rd (v := Value.bool ((many : Int) == (many2 : Int))) hA (by kernel_rfl) (by kernel_rfl) (by kernel_rfl) (Rd.pure fun _ => by kernel_rfl) ?_; clear hA ac; intro ac hA
  rcases Bool.eq_false_or_eq_true ((many : Int) == (many2 : Int)) with h1 | h1
  · skip
    rw [h1] at hA
    have h1 := eq_of_beq h1
    first
    | (exfalso; clear hA hW; omega)
    | (
        refine sq_rd (v := Value.pointer (some ⟨m, 0, none⟩)) hA (by kernel_rfl) (by kernel_rfl) (by kernel_rfl) (Rd.pure fun _ => by kernel_rfl) ?_; clear hA ac; intro ac hA
        refine sq_rd (v := Value.pointer (some ⟨m, 0, none⟩)) hA (by kernel_rfl) (by kernel_rfl) (by kernel_rfl) (Rd.pure fun _ => by kernel_rfl) ?_; clear hA ac; intro ac hA
        refine sq_rd (v := Value.pointer (some ⟨m, 0, none⟩)) hA (by kernel_rfl) (by kernel_rfl) (by kernel_rfl) (Rd.pure fun _ => by kernel_rfl) ?_; clear hA ac; intro ac hA
        refine sq_rd (v := Value.map (some b)) hA (by kernel_rfl) (by kernel_rfl) (by kernel_rfl) (Rd.load (b := m) (i := 0) (by kernel_rfl) (fun _ hw => show _ = _ from (hw.1).getG 2 rfl) (by kernel_rfl)) ?_; clear hA ac; intro ac hA
        refine sq_rd (v := Value.pointer (some ⟨m2, 0, none⟩)) hA (by kernel_rfl) (by kernel_rfl) (by kernel_rfl) (Rd.pure fun _ => by kernel_rfl) ?_; clear hA ac; intro ac hA
        refine sq_rd (v := Value.pointer (some ⟨m2, 0, none⟩)) hA (by kernel_rfl) (by kernel_rfl) (by kernel_rfl) (Rd.pure fun _ => by kernel_rfl) ?_; clear hA ac; intro ac hA
        refine sq_rd (v := Value.pointer (some ⟨m2, 0, none⟩)) hA (by kernel_rfl) (by kernel_rfl) (by kernel_rfl) (Rd.pure fun _ => by kernel_rfl) ?_; clear hA ac; intro ac hA
        refine sq_rd (v := Value.map (some b2)) hA (by kernel_rfl) (by kernel_rfl) (by kernel_rfl) (Rd.load (b := m2) (i := 0) (by kernel_rfl) (fun _ hw => show _ = _ from (hw.1).getG 0 rfl) (by kernel_rfl)) ?_; clear hA ac; intro ac hA
        refine sq_call (v := Value.bool (decide (mEq h g))) hA (by kernel_rfl) (by kernel_rfl) (by kernel_rfl) (fun _ => by kernel_rfl) (Cls.callNC fun wx hwx => e_mapsEqual b h b2 g wx ((hwx.1).getG 3 rfl) ((hwx.1).getG 1 rfl) (by first | assumption | omega)) ?_; clear hA ac; intro ac hA
        refine sq_rd (v := Value.bool (decide (mEq h g))) hA (by kernel_rfl) (by kernel_rfl) (by kernel_rfl) (Rd.pure fun _ => by kernel_rfl) ?_; clear hA ac; intro ac hA
        refine sq_rd (v := Value.bool (decide (mEq h g))) hA (by kernel_rfl) (by kernel_rfl) (by kernel_rfl) (Rd.pure fun _ => by kernel_rfl) ?_; clear hA ac; intro ac hA
        refine sq_nil ?_; intro w2 hww2; have hW := hww2.1; have hfw2 := hww2.2; clear hww2
        refine thenN ?_
        refine wp_ret ?_
        refine ret1 (v := Value.bool (decide (mEq h g))) (by rfl) hA (Got.tmp hA (by kernel_rfl) (by kernel_rfl)) ?_
        clear hA
        exact ⟨retv (by first | (simp [decide_eq_true_eq]; done) | (simp [decide_eq_true_eq]; omega) | (simp [decide_eq_true_eq, *]; done) | (simp [decide_eq_true_eq, *]; omega) | (simp_all [decide_eq_true_eq]; done) | (simp_all [decide_eq_true_eq]; omega) | (refine congrArg Value.bool (Bool.eq_iff_iff.2 ?_); simp [decide_eq_true_eq]; (try simp only [*]); (try simp); omega) | (simp [decide_eq_true_eq]; repeat' split; all_goals omega)), hW.fr⟩)
  · skip
    rw [h1] at hA
    have h1 := ne_of_beq_false h1
    first
    | (exfalso; clear hA hW; omega)
    | (
        refine sq_skip hA (by kernel_rfl) (by kernel_rfl) ?_; clear hA ac; intro ac hA
        refine sq_skip hA (by kernel_rfl) (by kernel_rfl) ?_; clear hA ac; intro ac hA
        refine sq_skip hA (by kernel_rfl) (by kernel_rfl) ?_; clear hA ac; intro ac hA
        refine sq_skip hA (by kernel_rfl) (by kernel_rfl) ?_; clear hA ac; intro ac hA
        refine sq_skip hA (by kernel_rfl) (by kernel_rfl) ?_; clear hA ac; intro ac hA
        refine sq_skip hA (by kernel_rfl) (by kernel_rfl) ?_; clear hA ac; intro ac hA
        refine sq_skip hA (by kernel_rfl) (by kernel_rfl) ?_; clear hA ac; intro ac hA
        refine sq_skip hA (by kernel_rfl) (by kernel_rfl) ?_; clear hA ac; intro ac hA
        refine sq_skip hA (by kernel_rfl) (by kernel_rfl) ?_; clear hA ac; intro ac hA
        refine sq_rd (v := Value.bool false) hA (by kernel_rfl) (by kernel_rfl) (by kernel_rfl) (Rd.pure fun _ => by kernel_rfl) ?_; clear hA ac; intro ac hA
        refine sq_rd (v := Value.bool false) hA (by kernel_rfl) (by kernel_rfl) (by kernel_rfl) (Rd.pure fun _ => by kernel_rfl) ?_; clear hA ac; intro ac hA
        refine sq_nil ?_; intro w3 hww3; have hW := hww3.1; have hfw3 := hww3.2; clear hww3
        refine thenN ?_
        refine wp_ret ?_
        refine ret1 (v := Value.bool false) (by rfl) hA (Got.tmp hA (by kernel_rfl) (by kernel_rfl)) ?_
        clear hA
        exact ⟨retv (by first | (simp [decide_eq_true_eq]; done) | (simp [decide_eq_true_eq]; omega) | (simp [decide_eq_true_eq, *]; done) | (simp [decide_eq_true_eq, *]; omega) | (simp_all [decide_eq_true_eq]; done) | (simp_all [decide_eq_true_eq]; omega) | (refine congrArg Value.bool (Bool.eq_iff_iff.2 ?_); simp [decide_eq_true_eq]; (try simp only [*]); (try simp); omega) | (simp [decide_eq_true_eq]; repeat' split; all_goals omega)), hW.fr⟩)

end Go.Proofs.Ytgeikokmhkfkgaa.L
