/- Contracts, walked by program over the engine's laws. -/
import Derived.Test.YtgkhaoogfpnbbaaProg
import Derived.Test.YtgkhaoogfpnbbaaT6
import Derived.Test.YtgkhaoogfpnbbaaFlagRow
namespace Go.Proofs.Ytgkhaoogfpnbbaa.L
open Go.RowKit

theorem of_nil_yes {most m' : Int} {L' : List Flag} {P' : List Pair} {bad : Int} (h : OfRel most [] m' L' P' bad) (hm : 0 ≤ most ∧ most ≤ 65536) : bad = 0 ∧ m' = most ∧ L' = [] ∧ P' = [] := by
  unfold OfRel at h; rw [if_pos ⟨hm.1, hm.2, by simp⟩] at h
  obtain ⟨h1, h2, h3⟩ := h
  have h4 : (⟨most, L', P'⟩ : RT) = ⟨most, [], []⟩ := h3
  cases h4; exact ⟨h1, h2, rfl, rfl⟩
theorem of_nil_no {most m' : Int} {L' : List Flag} {P' : List Pair} {bad : Int} (h : OfRel most [] m' L' P' bad) (hm : ¬ (0 ≤ most ∧ most ≤ 65536)) : bad = 2 := by
  unfold OfRel at h; rw [if_neg (fun hh => hm ⟨hh.1, hh.2.1⟩)] at h
  exact h.1
theorem runs_step {T0 T : Tab} {l : List Flag} {k : Nat} {y : Flag} (hT : T = T0.runs (l.take k)) (hy : l[k]? = some y) (hok : y.ok = true) : (T.take y).1 = T0.runs (l.take (k + 1)) := by
  rw [take_snoc hy, runs_snoc, ← hT]; unfold Tab.come; rw [if_pos hok]
theorem runs_skip {T0 T : Tab} {l : List Flag} {k : Nat} {y : Flag} (hT : T = T0.runs (l.take k)) (hy : l[k]? = some y) (hok : y.ok = false) : T = T0.runs (l.take (k + 1)) := by
  rw [take_snoc hy, runs_snoc, ← hT]; unfold Tab.come; rw [if_neg (by rw [hok]; simp)]
set_option maxRecDepth 100000 in
theorem e_reportTakesY (most : Int) (A_l : Option Addr) (c_l : Nat) (l : List Flag) (w : World) (hr_l : RowAt w A_l 10 enFlag l) (hc_l : l.length ≤ c_l) (hm : 0 ≤ most ∧ most ≤ 65536) : Calls Try.prog 5 #[Value.int .i64 most, Value.slice A_l l.length c_l] w (fun e w' => e = .returned (Value.bool true) ∧ Fr No w w') := by
  have _hu := hc_l; have _hv := hr_l; clear _hu _hv
  have _hu := hm; clear _hu
  refine enter_E 131 Try.func5 rfl rfl (by kernel_rfl) (L := [(0, Value.int .i64 most), (1, Value.slice A_l l.length c_l)]) (by kernel_rfl) ?_
  intro ac hA
  have hW := Ws.start w No
  have hW := hW.arg hr_l
  refine wp_seq ?_
  refine wp_region_lit ?_
  refine st_rd (v := Value.bool false) hA (by kernel_rfl) (by kernel_rfl) (by kernel_rfl) hW.cls (Rd.pure fun _ => by kernel_rfl) ?_; clear hA ac; intro ac hA
  refine wpList_nil ?_
  refine thenN ?_
  refine wp_seq ?_
  refine wp_seq ?_
  refine wp_region_lit ?_
  refine st_rd (v := Value.slice A_l l.length c_l) hA (by kernel_rfl) (by kernel_rfl) (by kernel_rfl) hW.cls (Rd.pure fun _ => by kernel_rfl) ?_; clear hA ac; intro ac hA
  refine st_rd (v := Value.int .i64 ((l.length : Nat) : Int)) hA (by kernel_rfl) (by kernel_rfl) (by kernel_rfl) hW.cls (Rd.pure fun _ => by kernel_rfl) ?_; clear hA ac; intro ac hA
  refine st_rd (v := Value.bool (decide ((((l.length : Nat) : Int) : Int) > (40 : Int)))) hA (by kernel_rfl) (by kernel_rfl) (by kernel_rfl) hW.cls (Rd.pure fun _ => by kernel_rfl) ?_; clear hA ac; intro ac hA
  refine wpList_nil ?_
  refine thenN ?_
  refine wp_cond_split (t := decide ((((l.length : Nat) : Int) : Int) > (40 : Int))) (hA.eval (by kernel_rfl)) (fun h1 => ?_) (fun h1 => ?_)
  · skip
    have h1 := of_decide_eq_true h1
    first
    | (exfalso; clear hA hW; omega)
    | (
        refine wp_seq ?_
        refine wp_region_lit ?_
        refine st hA (by kernel_rfl) (by kernel_rfl) (by kernel_rfl) (Runs.callN (v := Value.bool true) (fun _ => by kernel_rfl) hW (works27_any w) ?_); clear hA ac hW; intro w2 hW hfw2 ac hA
        refine st_rd (v := Value.bool true) hA (by kernel_rfl) (by kernel_rfl) (by kernel_rfl) hW.cls (Rd.pure fun _ => by kernel_rfl) ?_; clear hA ac; intro ac hA
        refine wpList_nil ?_
        refine thenN ?_
        refine wp_ret ?_
        refine thenR ?_
        refine ret1 (v := Value.bool true) (by rfl) hA (Got.tmp hA (by kernel_rfl) (by kernel_rfl)) ?_
        clear hA
        exact ⟨retv (by rfl), hW.fr⟩)
  · skip
    have h1 := of_decide_eq_false h1
    first
    | (exfalso; clear hA hW; omega)
    | (
        refine wp_skip ?_
        refine thenN ?_
        refine wp_seq ?_
        refine wp_region_lit ?_
        refine st_rd (v := Value.int .i64 most) hA (by kernel_rfl) (by kernel_rfl) (by kernel_rfl) hW.cls (Rd.pure fun _ => by kernel_rfl) ?_; clear hA ac; intro ac hA
        refine st hA (by kernel_rfl) (by kernel_rfl) (by kernel_rfl) (Runs.call (fun _ => by kernel_rfl) (New_C w (most) hm) ?_)
        rintro _ w3 ⟨n4, n5, n6, rfl, hu_⟩; refine ⟨_, rfl, ?_⟩; replace hW := hW.made hu_; clear hA ac; intro ac hA
        refine st_rd (v := Value.tuple #[Value.pointer (some ⟨n4, 0, none⟩), Value.int .i64 0]) hA (by kernel_rfl) (by kernel_rfl) (by kernel_rfl) hW.cls (Rd.pure fun _ => by kernel_rfl) ?_; clear hA ac; intro ac hA
        refine st_rd (v := Value.pointer (some ⟨n4, 0, none⟩)) hA (by kernel_rfl) (by kernel_rfl) (by kernel_rfl) hW.cls (Rd.pure fun _ => by kernel_rfl) ?_; clear hA ac; intro ac hA
        refine st_rd (v := Value.int .i64 0) hA (by kernel_rfl) (by kernel_rfl) (by kernel_rfl) hW.cls (Rd.pure fun _ => by kernel_rfl) ?_; clear hA ac; intro ac hA
        refine st_rd (v := Value.pointer (some ⟨n4, 0, none⟩)) hA (by kernel_rfl) (by kernel_rfl) (by kernel_rfl) hW.cls (Rd.pure fun _ => by kernel_rfl) ?_; clear hA ac; intro ac hA
        refine st_rd (v := Value.int .i64 0) hA (by kernel_rfl) (by kernel_rfl) (by kernel_rfl) hW.cls (Rd.pure fun _ => by kernel_rfl) ?_; clear hA ac; intro ac hA
        refine wpList_nil ?_
        refine thenN ?_
        refine wp_seq ?_
        refine wp_region_lit ?_
        refine st_rd (v := Value.int .i64 most) hA (by kernel_rfl) (by kernel_rfl) (by kernel_rfl) hW.cls (Rd.pure fun _ => by kernel_rfl) ?_; clear hA ac; intro ac hA
        refine st hA (by kernel_rfl) (by kernel_rfl) (by kernel_rfl) (Runs.call (fun _ => by kernel_rfl) (e_of27 (most) none 0 ([] : List Flag) w3 (RowAt.nil' _ _) (by first | assumption | omega | (simp; omega) | simp) (by first | omega | assumption | simp)) ?_)
        rintro _ w7 ⟨g8, g9, g10, g11, Ao112, co113, Ao214, co215, rfl, hw7_hO, hcco113, hcco215, hfco113, hfco215, hfw7⟩; refine ⟨_, rfl, ?_⟩; have hW0 := hW; have hW := hW0.call hfw7
        have hW := hW0.addFromAt hW hfco113 (in_cons in_none in_nil)
        have hW := hW0.addFromAt hW hfco215 (in_cons in_none in_nil)
        clear hW0 hA ac; intro ac hA
        refine st_rd (v := Value.tuple #[Value.agg #[Value.int .i64 g8, Value.slice Ao112 (g9).length co113, Value.slice Ao214 (g10).length co215], Value.int .i64 g11]) hA (by kernel_rfl) (by kernel_rfl) (by kernel_rfl) hW.cls (Rd.pure fun _ => by kernel_rfl) ?_; clear hA ac; intro ac hA
        refine st_rd (v := Value.agg #[Value.int .i64 g8, Value.slice Ao112 (g9).length co113, Value.slice Ao214 (g10).length co215]) hA (by kernel_rfl) (by kernel_rfl) (by kernel_rfl) hW.cls (Rd.pure fun _ => by kernel_rfl) ?_; clear hA ac; intro ac hA
        refine st_rd (v := Value.int .i64 g11) hA (by kernel_rfl) (by kernel_rfl) (by kernel_rfl) hW.cls (Rd.pure fun _ => by kernel_rfl) ?_; clear hA ac; intro ac hA
        refine st hA (by kernel_rfl) (by kernel_rfl) (by kernel_rfl) (Runs.cells (fun b => Value.pointer (some ⟨b, 0, none⟩)) #[Value.int .i64 0, Value.slice none 0 0, Value.slice none 0 0] 29 (fun _ => by kernel_rfl) hW ?_); clear hA ac hW; intro b16 w17 hW hb16 hfw17 ac hA
        refine st hA (by kernel_rfl) (by kernel_rfl) (by kernel_rfl) (Runs.store (v := Value.agg #[Value.int .i64 g8, Value.slice Ao112 (g9).length co113, Value.slice Ao214 (g10).length co215]) (b := b16) (j := 0) (n := 3) (cs' := #[Value.int .i64 g8, Value.slice Ao112 (g9).length co113, Value.slice Ao214 (g10).length co215]) (H' := [Cel b16 #[Value.int .i64 g8, Value.slice Ao112 (g9).length co113, Value.slice Ao214 (g10).length co215] 29, TabR n4 n5 n6 none 0 (⟨(most), 0, [], []⟩)]) (by kernel_rfl) (by kernel_rfl) (by kernel_rfl) (by kernel_rfl) (by kernel_rfl) hW 0 (by rfl) (Nat.le_of_ble_eq_true (by kernel_rfl)) (by kernel_rfl) (by rfl) ?_); clear hA ac hW; intro w18 hW ac hA
        refine st_rd (v := Value.int .i64 g11) hA (by kernel_rfl) (by kernel_rfl) (by kernel_rfl) hW.cls (Rd.pure fun _ => by kernel_rfl) ?_; clear hA ac; intro ac hA
        refine wpList_nil ?_
        refine thenN ?_
        refine wp_seq ?_
        refine wp_seq ?_
        obtain ⟨hb0, hm0, hL0, hP0⟩ := of_nil_yes hw7_hO hm; have hL1 := congrArg List.length hL0; have hP1 := congrArg List.length hP0; simp only [List.length_nil] at hL1 hP1
        refine wp_region_lit ?_
        refine st_rd (v := Value.int .i64 0) hA (by kernel_rfl) (by kernel_rfl) (by kernel_rfl) hW.cls (Rd.pure fun _ => by kernel_rfl) ?_; clear hA ac; intro ac hA
        refine st hA (by kernel_rfl) (by kernel_rfl) (by kernel_rfl) (Runs.callS (v := Value.int .i64 (0)) (fun _ => by kernel_rfl) (num27_any (0) w18) ?_); clear hA ac; intro  ac hA
        refine st_rd (v := Value.int .i64 g11) hA (by kernel_rfl) (by kernel_rfl) (by kernel_rfl) hW.cls (Rd.pure fun _ => by kernel_rfl) ?_; clear hA ac; intro ac hA
        refine st_rd (v := Value.bool (((0) : Int) != (g11 : Int))) hA (by kernel_rfl) (by kernel_rfl) (by kernel_rfl) hW.cls (Rd.pure fun _ => by kernel_rfl) ?_; clear hA ac; intro ac hA
        refine st_rd (v := Value.bool (((0) : Int) != (g11 : Int))) hA (by kernel_rfl) (by kernel_rfl) (by kernel_rfl) hW.cls (Rd.pure fun _ => by kernel_rfl) ?_; clear hA ac; intro ac hA
        rcases Bool.eq_false_or_eq_true (((0) : Int) != (g11 : Int)) with h19 | h19
        · skip
          rw [h19] at hA
          have h19 := bne_iff_ne.1 h19
          first
          | (exfalso; clear hA hW; omega)
          | (exfalso; clear hA hW; rw [hb0] at h19; exact absurd rfl h19; done)
          | (
              refine st_skip hA (by kernel_rfl) (by kernel_rfl) ?_; clear hA ac; intro ac hA
              refine st_skip hA (by kernel_rfl) (by kernel_rfl) ?_; clear hA ac; intro ac hA
              refine st_skip hA (by kernel_rfl) (by kernel_rfl) ?_; clear hA ac; intro ac hA
              refine st_skip hA (by kernel_rfl) (by kernel_rfl) ?_; clear hA ac; intro ac hA
              refine st_skip hA (by kernel_rfl) (by kernel_rfl) ?_; clear hA ac; intro ac hA
              refine st_rd (v := Value.bool true) hA (by kernel_rfl) (by kernel_rfl) (by kernel_rfl) hW.cls (Rd.pure fun _ => by kernel_rfl) ?_; clear hA ac; intro ac hA
              refine wpList_nil ?_
              refine thenN ?_
              refine wp_cond_true (hA.eval (by kernel_rfl)) ?_
              refine wp_seq ?_
              refine wp_region_lit ?_
              refine st_rd (v := Value.bool false) hA (by kernel_rfl) (by kernel_rfl) (by kernel_rfl) hW.cls (Rd.pure fun _ => by kernel_rfl) ?_; clear hA ac; intro ac hA
              refine wpList_nil ?_
              refine thenN ?_
              refine wp_ret ?_
              refine thenR ?_
              refine ret1 (v := Value.bool false) (by rfl) hA (Got.tmp hA (by kernel_rfl) (by kernel_rfl)) ?_
              clear hA
              exact ⟨retv (by rfl), hW.fr⟩)
        · skip
          rw [h19] at hA
          have h19 := of_bne_f h19
          first
          | (exfalso; clear hA hW; omega)
          | (exfalso; clear hA hW; rw [hb0] at h19; exact absurd rfl h19; done)
          | (
              refine st_rd (v := Value.pointer (some ⟨n4, 0, none⟩)) hA (by kernel_rfl) (by kernel_rfl) (by kernel_rfl) hW.cls (Rd.pure fun _ => by kernel_rfl) ?_; clear hA ac; intro ac hA
              refine st_rd (v := Value.bool true) hA (by kernel_rfl) (by kernel_rfl) (by kernel_rfl) hW.cls (Rd.pure fun _ => by kernel_rfl) ?_; clear hA ac; intro ac hA
              refine st_rd (v := Value.int .i64 g11) hA (by kernel_rfl) (by kernel_rfl) (by kernel_rfl) hW.cls (Rd.pure fun _ => by kernel_rfl) ?_; clear hA ac; intro ac hA
              refine st_rd (v := Value.bool ((g11 : Int) == (0 : Int))) hA (by kernel_rfl) (by kernel_rfl) (by kernel_rfl) hW.cls (Rd.pure fun _ => by kernel_rfl) ?_; clear hA ac; intro ac hA
              refine st_rd (v := Value.bool (!(true == ((g11 : Int) == (0 : Int))))) hA (by kernel_rfl) (by kernel_rfl) (by kernel_rfl) hW.cls (Rd.pure fun _ => by kernel_rfl) ?_; clear hA ac; intro ac hA
              refine st_rd (v := Value.bool (!(true == ((g11 : Int) == (0 : Int))))) hA (by kernel_rfl) (by kernel_rfl) (by kernel_rfl) hW.cls (Rd.pure fun _ => by kernel_rfl) ?_; clear hA ac; intro ac hA
              refine wpList_nil ?_
              refine thenN ?_
              refine wp_cond_split (t := !(true == ((g11 : Int) == (0 : Int)))) (hA.eval (by kernel_rfl)) (fun h20 => ?_) (fun h20 => ?_)
              · skip
                have h20 := bbne_t h20
                first
                | (exfalso; clear hA hW; omega)
                | (exfalso; clear hA hW; rw [hb0] at h20; exact absurd rfl h20; done)
                | (
                    refine wp_seq ?_
                    refine wp_region_lit ?_
                    refine st_rd (v := Value.bool false) hA (by kernel_rfl) (by kernel_rfl) (by kernel_rfl) hW.cls (Rd.pure fun _ => by kernel_rfl) ?_; clear hA ac; intro ac hA
                    refine wpList_nil ?_
                    refine thenN ?_
                    refine wp_ret ?_
                    refine thenR ?_
                    refine ret1 (v := Value.bool false) (by rfl) hA (Got.tmp hA (by kernel_rfl) (by kernel_rfl)) ?_
                    clear hA
                    exact ⟨retv (by rfl), hW.fr⟩)
              · skip
                have h20 := bbne_f h20
                first
                | (exfalso; clear hA hW; omega)
                | (exfalso; clear hA hW; rw [hb0] at h20; exact absurd rfl h20; done)
                | (
                    refine wp_skip ?_
                    refine thenN ?_
                    refine wp_seq ?_
                    refine wp_seq ?_
                    refine wp_region_lit ?_
                    refine st_rd (v := Value.int .i64 g11) hA (by kernel_rfl) (by kernel_rfl) (by kernel_rfl) hW.cls (Rd.pure fun _ => by kernel_rfl) ?_; clear hA ac; intro ac hA
                    refine st_rd (v := Value.bool ((g11 : Int) != (0 : Int))) hA (by kernel_rfl) (by kernel_rfl) (by kernel_rfl) hW.cls (Rd.pure fun _ => by kernel_rfl) ?_; clear hA ac; intro ac hA
                    refine wpList_nil ?_
                    refine thenN ?_
                    refine wp_cond_split (t := (g11 : Int) != (0 : Int)) (hA.eval (by kernel_rfl)) (fun h21 => ?_) (fun h21 => ?_)
                    · skip
                      have h21 := bne_iff_ne.1 h21
                      first
                      | (exfalso; clear hA hW; omega)
                      | (exfalso; clear hA hW; rw [hb0] at h21; exact absurd rfl h21; done)
                      | (
                          refine wp_seq ?_
                          refine wp_region_lit ?_
                          refine st hA (by kernel_rfl) (by kernel_rfl) (by kernel_rfl) (Runs.callN (v := Value.bool true) (fun _ => by kernel_rfl) hW (works27_any w18) ?_); clear hA ac hW; intro w22 hW hfw22 ac hA
                          refine st_rd (v := Value.bool true) hA (by kernel_rfl) (by kernel_rfl) (by kernel_rfl) hW.cls (Rd.pure fun _ => by kernel_rfl) ?_; clear hA ac; intro ac hA
                          refine wpList_nil ?_
                          refine thenN ?_
                          refine wp_ret ?_
                          refine thenR ?_
                          refine ret1 (v := Value.bool true) (by rfl) hA (Got.tmp hA (by kernel_rfl) (by kernel_rfl)) ?_
                          clear hA
                          exact ⟨retv (by rfl), hW.fr⟩)
                    · skip
                      have h21 := of_bne_f h21
                      first
                      | (exfalso; clear hA hW; omega)
                      | (exfalso; clear hA hW; rw [hb0] at h21; exact absurd rfl h21; done)
                      | (
                          refine wp_skip ?_
                          refine thenN ?_
                          refine wp_seq ?_
                          refine wp_seq ?_
                          refine wp_region_lit ?_
                          refine st_rd (v := Value.int .i64 0) hA (by kernel_rfl) (by kernel_rfl) (by kernel_rfl) hW.cls (Rd.pure fun _ => by kernel_rfl) ?_; clear hA ac; intro ac hA
                          refine wpList_nil ?_
                          refine thenN ?_
                          refine wp_block ?_
                          refine wp_loop_m (fun m_ ac_ wl_ => ∃ k : Nat, ∃ A : Option Addr, ∃ c : Nat, ∃ T : Tab, ∃ m : Int, ∃ Lk : List Flag, ∃ Pk : List Pair, ∃ A1 : Option Addr, ∃ c1 : Nat, ∃ A2 : Option Addr, ∃ c2 : Nat, m_ = l.length - k ∧ (k ≤ l.length) ∧ (T = Tab.runs ⟨most, 0, [], []⟩ (l.take k)) ∧ (Agree ⟨m, Lk, Pk⟩ T) ∧ (Lk.length ≤ k) ∧ (Pk.length ≤ k) ∧ (Lk.length ≤ c1) ∧ (Pk.length ≤ c2) ∧ Fm 131 [] [(0, Value.int .i64 most), (1, Value.slice A_l l.length c_l), (5, Value.pointer (some ⟨n4, 0, none⟩)), (7, Value.pointer (some ⟨b16, 0, none⟩)), (9, Value.int .i64 ((k : Nat) : Int))] ac_ ∧ Ws w No [Cel b16 #[Value.int .i64 m, Value.slice A1 Lk.length c1, Value.slice A2 Pk.length c2] 29, TabR n4 n5 n6 A c T] [roR A1 10 enFlag Lk, roR A2 4 enPair Pk, roR A_l 10 enFlag l] wl_) _ ⟨0, none, 0, ⟨(most), 0, [], []⟩, g8, g9, g10, Ao112, co113, Ao214, co215, rfl, by omega, by rfl, by rw [hm0, hL0, hP0]; exact Agree.start most, by omega, by omega, by exact hcco113, by exact hcco215, hA.sub ⟨⟨by kernel_rfl, by kernel_rfl⟩, ⟨by kernel_rfl, by kernel_rfl⟩, ⟨by kernel_rfl, by kernel_rfl⟩, ⟨by kernel_rfl, by kernel_rfl⟩, ⟨by kernel_rfl, by kernel_rfl⟩, trivial⟩, (hW.pick [0, 1] (by decide) rfl).pickG [1, 0, 2] rfl⟩ ?_
                          clear hA ac hW; rintro m_ ac w23 ⟨k, A, c, T, m, Lk, Pk, A1, c1, A2, c2, rfl, hk, hT, hG, h1, h2, hcc1, hcc2, hA, hW⟩
                          refine wp_seq ?_
                          refine wp_seq ?_
                          refine wp_region_lit ?_
                          refine st_rd (v := Value.int .i64 ((k : Nat) : Int)) hA (by kernel_rfl) (by kernel_rfl) (by kernel_rfl) hW.cls (Rd.pure fun _ => by kernel_rfl) ?_; clear hA ac; intro ac hA
                          refine st_rd (v := Value.slice A_l l.length c_l) hA (by kernel_rfl) (by kernel_rfl) (by kernel_rfl) hW.cls (Rd.pure fun _ => by kernel_rfl) ?_; clear hA ac; intro ac hA
                          refine st_rd (v := Value.int .i64 ((l.length : Nat) : Int)) hA (by kernel_rfl) (by kernel_rfl) (by kernel_rfl) hW.cls (Rd.pure fun _ => by kernel_rfl) ?_; clear hA ac; intro ac hA
                          refine st_rd (v := Value.bool (decide ((((k : Nat) : Int) : Int) < (((l.length : Nat) : Int) : Int)))) hA (by kernel_rfl) (by kernel_rfl) (by kernel_rfl) hW.cls (Rd.pure fun _ => by kernel_rfl) ?_; clear hA ac; intro ac hA
                          refine wpList_nil ?_
                          refine thenN ?_
                          refine wp_cond_split (t := decide ((((k : Nat) : Int) : Int) < (((l.length : Nat) : Int) : Int))) (hA.eval (by kernel_rfl)) (fun h24 => ?_) (fun h24 => ?_)
                          · skip
                            have h24 := of_decide_eq_true h24
                            first
                            | (exfalso; clear hA hW; omega)
                            | (exfalso; clear hA hW; rw [hb0] at h24; exact absurd rfl h24; done)
                            | (
                                refine wp_skip ?_
                                refine thenN ?_
                                refine wp_seq ?_
                                refine wp_block ?_
                                refine wp_seq ?_
                                obtain ⟨y, hy⟩ : ∃ y, l[k]? = some y := ⟨_, List.getElem?_eq_getElem (by omega)⟩
                                rcases Bool.eq_false_or_eq_true (Flag.ok y) with h25 | h25
                                · skip
                                  first
                                  | (exfalso; clear hA hW; omega)
                                  | (exfalso; clear hA hW; rw [hb0] at h25; exact absurd rfl h25; done)
                                  | (exfalso; clear hA hW; rw [h25] at h25; exact absurd rfl h25; done)
                                  | (exfalso; clear hA hW; rw [h25] at h25; cases h25; done)
                                  | (
                                      refine wp_region_lit ?_
                                      refine st_rd (v := Value.pointer (some ⟨n4, 0, none⟩)) hA (by kernel_rfl) (by kernel_rfl) (by kernel_rfl) hW.cls (Rd.pure fun _ => by kernel_rfl) ?_; clear hA ac; intro ac hA
                                      refine st_rd (v := Value.slice A_l l.length c_l) hA (by kernel_rfl) (by kernel_rfl) (by kernel_rfl) hW.cls (Rd.pure fun _ => by kernel_rfl) ?_; clear hA ac; intro ac hA
                                      refine st_rd (v := Value.int .i64 ((k : Nat) : Int)) hA (by kernel_rfl) (by kernel_rfl) (by kernel_rfl) hW.cls (Rd.pure fun _ => by kernel_rfl) ?_; clear hA ac; intro ac hA
                                      obtain ⟨b26, o27, rfl, hbb26⟩ := row_some ((hW).getG 2 rfl) hy
                                      refine st_rd (v := Value.pointer (some ⟨b26, o27 + k * 10, none⟩)) hA (by kernel_rfl) (by kernel_rfl) (by kernel_rfl) hW.cls (Rd.indexAddr (e := 43) (sz := 10) (b := b26) (off := o27) (n := l.length) (c := c_l) (k := k) (by kernel_rfl) (by kernel_rfl) (by first | omega | (simp; done) | (simp; omega)) (fun _ => by kernel_rfl) (fun _ => by kernel_rfl)) ?_; clear hA ac; intro ac hA
                                      refine st_rd (v := Value.agg #[Value.int .i64 y.at_, Value.int .u32 y.addr, Value.int .i64 y.e.g, Value.int .i64 y.e.s.f, Value.int .i64 y.e.s.pc, Value.int .i64 y.e.k, Value.int .i64 y.l.g, Value.int .i64 y.l.s.f, Value.int .i64 y.l.s.pc, Value.int .i64 y.l.k]) hA (by kernel_rfl) (by kernel_rfl) (by kernel_rfl) hW.cls (Rd.loadRow (b := b26) (i := o27 + k * 10) (xs := [Value.int .i64 y.at_, Value.int .u32 y.addr, Value.int .i64 y.e.g, Value.int .i64 y.e.s.f, Value.int .i64 y.e.s.pc, Value.int .i64 y.e.k, Value.int .i64 y.l.g, Value.int .i64 y.l.s.f, Value.int .i64 y.l.s.pc, Value.int .i64 y.l.k]) (by kernel_rfl) (fun _ hw => row_ld ((hw.1).getG 2 rfl) hy (Fr.refl No _) (fun h => h) 0 10 (by kernel_rfl)) (by kernel_rfl)) ?_; clear hA ac; intro ac hA
                                      refine st hA (by kernel_rfl) (by kernel_rfl) (by kernel_rfl) (Runs.call (fun _ => by kernel_rfl) (Take_U w23 n4 n5 n6 A c T y ((hW).get 1 rfl) ((hW).lt _ (List.mem_of_getElem? (i := 1) rfl)) h25 (⟨_, hT ▸ (Tab.Fine.start most).runs (l.take k), by simp; omega⟩)) ?_)
                                      rintro _ w28 ⟨u29, u30, rfl, hu_⟩; refine ⟨_, rfl, ?_⟩; replace hW := hW.upd (H' := [Cel b16 #[Value.int .i64 m, Value.slice A1 Lk.length c1, Value.slice A2 Pk.length c2] 29, TabR n4 n5 n6 u29 u30 (Tab.take T y).1]) 1 rfl hu_ rfl; clear hA ac; intro ac hA
                                      refine st_rd (v := Value.tuple #[Value.bool (Tab.take T y).2, Value.int .i64 0]) hA (by kernel_rfl) (by kernel_rfl) (by kernel_rfl) hW.cls (Rd.pure fun _ => by kernel_rfl) ?_; clear hA ac; intro ac hA
                                      refine st_rd (v := Value.bool (Tab.take T y).2) hA (by kernel_rfl) (by kernel_rfl) (by kernel_rfl) hW.cls (Rd.pure fun _ => by kernel_rfl) ?_; clear hA ac; intro ac hA
                                      refine st_rd (v := Value.int .i64 0) hA (by kernel_rfl) (by kernel_rfl) (by kernel_rfl) hW.cls (Rd.pure fun _ => by kernel_rfl) ?_; clear hA ac; intro ac hA
                                      refine st_rd (v := Value.bool (Tab.take T y).2) hA (by kernel_rfl) (by kernel_rfl) (by kernel_rfl) hW.cls (Rd.pure fun _ => by kernel_rfl) ?_; clear hA ac; intro ac hA
                                      refine st_rd (v := Value.int .i64 0) hA (by kernel_rfl) (by kernel_rfl) (by kernel_rfl) hW.cls (Rd.pure fun _ => by kernel_rfl) ?_; clear hA ac; intro ac hA
                                      refine wpList_nil ?_
                                      refine thenN ?_
                                      refine wp_seq ?_
                                      refine wp_seq ?_
                                      refine wp_region_lit ?_
                                      refine st_rd (v := Value.slice (some ⟨b26, o27, none⟩) l.length c_l) hA (by kernel_rfl) (by kernel_rfl) (by kernel_rfl) hW.cls (Rd.pure fun _ => by kernel_rfl) ?_; clear hA ac; intro ac hA
                                      refine st_rd (v := Value.int .i64 ((k : Nat) : Int)) hA (by kernel_rfl) (by kernel_rfl) (by kernel_rfl) hW.cls (Rd.pure fun _ => by kernel_rfl) ?_; clear hA ac; intro ac hA
                                      refine st_rd (v := Value.pointer (some ⟨b26, o27 + k * 10, none⟩)) hA (by kernel_rfl) (by kernel_rfl) (by kernel_rfl) hW.cls (Rd.indexAddr (e := 43) (sz := 10) (b := b26) (off := o27) (n := l.length) (c := c_l) (k := k) (by kernel_rfl) (by kernel_rfl) (by first | omega | (simp; done) | (simp; omega)) (fun _ => by kernel_rfl) (fun _ => by kernel_rfl)) ?_; clear hA ac; intro ac hA
                                      refine st_rd (v := Value.agg #[Value.int .i64 y.at_, Value.int .u32 y.addr, Value.int .i64 y.e.g, Value.int .i64 y.e.s.f, Value.int .i64 y.e.s.pc, Value.int .i64 y.e.k, Value.int .i64 y.l.g, Value.int .i64 y.l.s.f, Value.int .i64 y.l.s.pc, Value.int .i64 y.l.k]) hA (by kernel_rfl) (by kernel_rfl) (by kernel_rfl) hW.cls (Rd.loadRow (b := b26) (i := o27 + k * 10) (xs := [Value.int .i64 y.at_, Value.int .u32 y.addr, Value.int .i64 y.e.g, Value.int .i64 y.e.s.f, Value.int .i64 y.e.s.pc, Value.int .i64 y.e.k, Value.int .i64 y.l.g, Value.int .i64 y.l.s.f, Value.int .i64 y.l.s.pc, Value.int .i64 y.l.k]) (by kernel_rfl) (fun _ hw => row_ld ((hw.1).getG 2 rfl) hy (Fr.refl No _) (fun h => h) 0 10 (by kernel_rfl)) (by kernel_rfl)) ?_; clear hA ac; intro ac hA
                                      refine st hA (by kernel_rfl) (by kernel_rfl) (by kernel_rfl) (Runs.callN (v := Value.bool (Flag.ok y)) (fun _ => by kernel_rfl) hW (e_right27 y w28) ?_); clear hA ac hW; intro w31 hW hfw31 ac hA
                                      refine st_rd (v := Value.bool (!(Flag.ok y))) hA (by kernel_rfl) (by kernel_rfl) (by kernel_rfl) hW.cls (Rd.pure fun _ => by kernel_rfl) ?_; clear hA ac; intro ac hA
                                      refine wpList_nil ?_
                                      refine thenN ?_
                                      refine wp_cond_split (t := !(Flag.ok y)) (hA.eval (by kernel_rfl)) (fun h32 => ?_) (fun h32 => ?_)
                                      · skip
                                        have h32 := not_t h32
                                        first
                                        | (exfalso; clear hA hW; omega)
                                        | (exfalso; clear hA hW; rw [hb0] at h32; exact absurd rfl h32; done)
                                        | (exfalso; clear hA hW; rw [h25] at h32; exact absurd rfl h32; done)
                                        | (exfalso; clear hA hW; rw [h25] at h32; cases h32; done)
                                        | (
                                            refine wp_seq ?_
                                            refine wp_seq ?_
                                            refine wp_region_lit ?_
                                            refine st_rd (v := Value.bool (Tab.take T y).2) hA (by kernel_rfl) (by kernel_rfl) (by kernel_rfl) hW.cls (Rd.pure fun _ => by kernel_rfl) ?_; clear hA ac; intro ac hA
                                            refine st_rd (v := Value.bool (Tab.take T y).2) hA (by kernel_rfl) (by kernel_rfl) (by kernel_rfl) hW.cls (Rd.pure fun _ => by kernel_rfl) ?_; clear hA ac; intro ac hA
                                            rcases Bool.eq_false_or_eq_true ((Tab.take T y).2) with h33 | h33
                                            · skip
                                              rw [h33] at hA
                                              first
                                              | (exfalso; clear hA hW; omega)
                                              | (exfalso; clear hA hW; rw [hb0] at h33; exact absurd rfl h33; done)
                                              | (exfalso; clear hA hW; rw [h25] at h33; exact absurd rfl h33; done)
                                              | (exfalso; clear hA hW; rw [h25] at h33; cases h33; done)
                                              | (
                                                  refine st_skip hA (by kernel_rfl) (by kernel_rfl) ?_; clear hA ac; intro ac hA
                                                  refine st_skip hA (by kernel_rfl) (by kernel_rfl) ?_; clear hA ac; intro ac hA
                                                  refine st_skip hA (by kernel_rfl) (by kernel_rfl) ?_; clear hA ac; intro ac hA
                                                  refine st_rd (v := Value.bool true) hA (by kernel_rfl) (by kernel_rfl) (by kernel_rfl) hW.cls (Rd.pure fun _ => by kernel_rfl) ?_; clear hA ac; intro ac hA
                                                  refine st_rd (v := Value.bool true) hA (by kernel_rfl) (by kernel_rfl) (by kernel_rfl) hW.cls (Rd.pure fun _ => by kernel_rfl) ?_; clear hA ac; intro ac hA
                                                  refine st_skip hA (by kernel_rfl) (by kernel_rfl) ?_; clear hA ac; intro ac hA
                                                  refine st_skip hA (by kernel_rfl) (by kernel_rfl) ?_; clear hA ac; intro ac hA
                                                  refine st_skip hA (by kernel_rfl) (by kernel_rfl) ?_; clear hA ac; intro ac hA
                                                  refine st_skip hA (by kernel_rfl) (by kernel_rfl) ?_; clear hA ac; intro ac hA
                                                  refine st_skip hA (by kernel_rfl) (by kernel_rfl) ?_; clear hA ac; intro ac hA
                                                  refine st_skip hA (by kernel_rfl) (by kernel_rfl) ?_; clear hA ac; intro ac hA
                                                  refine st_skip hA (by kernel_rfl) (by kernel_rfl) ?_; clear hA ac; intro ac hA
                                                  refine st_rd (v := Value.bool true) hA (by kernel_rfl) (by kernel_rfl) (by kernel_rfl) hW.cls (Rd.pure fun _ => by kernel_rfl) ?_; clear hA ac; intro ac hA
                                                  refine wpList_nil ?_
                                                  refine thenN ?_
                                                  refine wp_cond_true (hA.eval (by kernel_rfl)) ?_
                                                  refine wp_seq ?_
                                                  refine wp_region_lit ?_
                                                  refine st_rd (v := Value.bool false) hA (by kernel_rfl) (by kernel_rfl) (by kernel_rfl) hW.cls (Rd.pure fun _ => by kernel_rfl) ?_; clear hA ac; intro ac hA
                                                  refine wpList_nil ?_
                                                  refine thenN ?_
                                                  refine wp_ret ?_
                                                  refine thenR ?_
                                                  refine thenR ?_
                                                  refine blkR ?_
                                                  refine thenR ?_
                                                  refine thenR ?_
                                                  refine blkR ?_
                                                  refine thenR ?_
                                                  refine ret1 (v := Value.bool false) (by rfl) hA (Got.tmp hA (by kernel_rfl) (by kernel_rfl)) ?_
                                                  clear hA
                                                  exact ⟨retv (by rfl), hW.fr⟩)
                                            · skip
                                              rw [h33] at hA
                                              first
                                              | (exfalso; clear hA hW; omega)
                                              | (exfalso; clear hA hW; rw [hb0] at h33; exact absurd rfl h33; done)
                                              | (exfalso; clear hA hW; rw [h25] at h33; exact absurd rfl h33; done)
                                              | (exfalso; clear hA hW; rw [h25] at h33; cases h33; done)
                                              | (
                                                  refine st_rd (v := Value.int .i64 0) hA (by kernel_rfl) (by kernel_rfl) (by kernel_rfl) hW.cls (Rd.pure fun _ => by kernel_rfl) ?_; clear hA ac; intro ac hA
                                                  refine st hA (by kernel_rfl) (by kernel_rfl) (by kernel_rfl) (Runs.callS (v := Value.int .i64 (0)) (fun _ => by kernel_rfl) (num27_any (0) w31) ?_); clear hA ac; intro  ac hA
                                                  refine st_rd (v := Value.bool (((0) : Int) != (2 : Int))) hA (by kernel_rfl) (by kernel_rfl) (by kernel_rfl) hW.cls (Rd.pure fun _ => by kernel_rfl) ?_; clear hA ac; intro ac hA
                                                  refine st_rd (v := Value.bool (((0) : Int) != (2 : Int))) hA (by kernel_rfl) (by kernel_rfl) (by kernel_rfl) hW.cls (Rd.pure fun _ => by kernel_rfl) ?_; clear hA ac; intro ac hA
                                                  refine st_rd (v := Value.bool (((0) : Int) != (2 : Int))) hA (by kernel_rfl) (by kernel_rfl) (by kernel_rfl) hW.cls (Rd.pure fun _ => by kernel_rfl) ?_; clear hA ac; intro ac hA
                                                  rcases Bool.eq_false_or_eq_true (((0) : Int) != (2 : Int)) with h34 | h34
                                                  · skip
                                                    rw [h34] at hA
                                                    have h34 := bne_iff_ne.1 h34
                                                    first
                                                    | (exfalso; clear hA hW; omega)
                                                    | (exfalso; clear hA hW; rw [hb0] at h34; exact absurd rfl h34; done)
                                                    | (exfalso; clear hA hW; rw [h25] at h34; exact absurd rfl h34; done)
                                                    | (exfalso; clear hA hW; rw [h25] at h34; cases h34; done)
                                                    | (
                                                        refine st_skip hA (by kernel_rfl) (by kernel_rfl) ?_; clear hA ac; intro ac hA
                                                        refine st_skip hA (by kernel_rfl) (by kernel_rfl) ?_; clear hA ac; intro ac hA
                                                        refine st_skip hA (by kernel_rfl) (by kernel_rfl) ?_; clear hA ac; intro ac hA
                                                        refine st_skip hA (by kernel_rfl) (by kernel_rfl) ?_; clear hA ac; intro ac hA
                                                        refine st_skip hA (by kernel_rfl) (by kernel_rfl) ?_; clear hA ac; intro ac hA
                                                        refine st_skip hA (by kernel_rfl) (by kernel_rfl) ?_; clear hA ac; intro ac hA
                                                        refine st_skip hA (by kernel_rfl) (by kernel_rfl) ?_; clear hA ac; intro ac hA
                                                        refine st_rd (v := Value.bool true) hA (by kernel_rfl) (by kernel_rfl) (by kernel_rfl) hW.cls (Rd.pure fun _ => by kernel_rfl) ?_; clear hA ac; intro ac hA
                                                        refine wpList_nil ?_
                                                        refine thenN ?_
                                                        refine wp_cond_true (hA.eval (by kernel_rfl)) ?_
                                                        refine wp_seq ?_
                                                        refine wp_region_lit ?_
                                                        refine st_rd (v := Value.bool false) hA (by kernel_rfl) (by kernel_rfl) (by kernel_rfl) hW.cls (Rd.pure fun _ => by kernel_rfl) ?_; clear hA ac; intro ac hA
                                                        refine wpList_nil ?_
                                                        refine thenN ?_
                                                        refine wp_ret ?_
                                                        refine thenR ?_
                                                        refine thenR ?_
                                                        refine blkR ?_
                                                        refine thenR ?_
                                                        refine thenR ?_
                                                        refine blkR ?_
                                                        refine thenR ?_
                                                        refine ret1 (v := Value.bool false) (by rfl) hA (Got.tmp hA (by kernel_rfl) (by kernel_rfl)) ?_
                                                        clear hA
                                                        exact ⟨retv (by rfl), hW.fr⟩)
                                                  · skip
                                                    rw [h34] at hA
                                                    have h34 := of_bne_f h34
                                                    first
                                                    | (exfalso; clear hA hW; omega)
                                                    | (exfalso; clear hA hW; rw [hb0] at h34; exact absurd rfl h34; done)
                                                    | (exfalso; clear hA hW; rw [h25] at h34; exact absurd rfl h34; done)
                                                    | (exfalso; clear hA hW; rw [h25] at h34; cases h34; done)
                                                    | (
                                                        refine st_rd (v := Value.slice (some ⟨b26, o27, none⟩) l.length c_l) hA (by kernel_rfl) (by kernel_rfl) (by kernel_rfl) hW.cls (Rd.pure fun _ => by kernel_rfl) ?_; clear hA ac; intro ac hA
                                                        refine st_rd (v := Value.int .i64 ((k : Nat) : Int)) hA (by kernel_rfl) (by kernel_rfl) (by kernel_rfl) hW.cls (Rd.pure fun _ => by kernel_rfl) ?_; clear hA ac; intro ac hA
                                                        refine st_rd (v := Value.pointer (some ⟨b26, o27 + k * 10, none⟩)) hA (by kernel_rfl) (by kernel_rfl) (by kernel_rfl) hW.cls (Rd.indexAddr (e := 43) (sz := 10) (b := b26) (off := o27) (n := l.length) (c := c_l) (k := k) (by kernel_rfl) (by kernel_rfl) (by first | omega | (simp; done) | (simp; omega)) (fun _ => by kernel_rfl) (fun _ => by kernel_rfl)) ?_; clear hA ac; intro ac hA
                                                        refine st_rd (v := Value.agg #[Value.int .i64 y.at_, Value.int .u32 y.addr, Value.int .i64 y.e.g, Value.int .i64 y.e.s.f, Value.int .i64 y.e.s.pc, Value.int .i64 y.e.k, Value.int .i64 y.l.g, Value.int .i64 y.l.s.f, Value.int .i64 y.l.s.pc, Value.int .i64 y.l.k]) hA (by kernel_rfl) (by kernel_rfl) (by kernel_rfl) hW.cls (Rd.loadRow (b := b26) (i := o27 + k * 10) (xs := [Value.int .i64 y.at_, Value.int .u32 y.addr, Value.int .i64 y.e.g, Value.int .i64 y.e.s.f, Value.int .i64 y.e.s.pc, Value.int .i64 y.e.k, Value.int .i64 y.l.g, Value.int .i64 y.l.s.f, Value.int .i64 y.l.s.pc, Value.int .i64 y.l.k]) (by kernel_rfl) (fun _ hw => row_ld ((hw.1).getG 2 rfl) hy (Fr.refl No _) (fun h => h) 0 10 (by kernel_rfl)) (by kernel_rfl)) ?_; clear hA ac; intro ac hA
                                                        refine st hA (by kernel_rfl) (by kernel_rfl) (by kernel_rfl) (Runs.callN (v := Value.int .i64 (argErr (Flag.ok y))) (fun _ => by kernel_rfl) hW (fcheck_any y w31) ?_); clear hA ac hW; intro w35 hW hfw35 ac hA
                                                        refine st hA (by kernel_rfl) (by kernel_rfl) (by kernel_rfl) (Runs.callS (v := Value.int .i64 (argErr (Flag.ok y))) (fun _ => by kernel_rfl) (num27_any (argErr (Flag.ok y)) w35) ?_); clear hA ac; intro  ac hA
                                                        refine st_rd (v := Value.bool (((argErr (Flag.ok y)) : Int) != (2 : Int))) hA (by kernel_rfl) (by kernel_rfl) (by kernel_rfl) hW.cls (Rd.pure fun _ => by kernel_rfl) ?_; clear hA ac; intro ac hA
                                                        refine st_rd (v := Value.bool (((argErr (Flag.ok y)) : Int) != (2 : Int))) hA (by kernel_rfl) (by kernel_rfl) (by kernel_rfl) hW.cls (Rd.pure fun _ => by kernel_rfl) ?_; clear hA ac; intro ac hA
                                                        refine wpList_nil ?_
                                                        refine thenN ?_
                                                        refine wp_cond_split (t := ((argErr (Flag.ok y)) : Int) != (2 : Int)) (hA.eval (by kernel_rfl)) (fun h36 => ?_) (fun h36 => ?_)
                                                        · skip
                                                          have h36 := bne_iff_ne.1 h36
                                                          first
                                                          | (exfalso; clear hA hW; omega)
                                                          | (exfalso; clear hA hW; rw [hb0] at h36; exact absurd rfl h36; done)
                                                          | (exfalso; clear hA hW; rw [h25] at h36; exact absurd rfl h36; done)
                                                          | (exfalso; clear hA hW; rw [h25] at h36; cases h36; done)
                                                          | (
                                                              refine wp_seq ?_
                                                              refine wp_region_lit ?_
                                                              refine st_rd (v := Value.bool false) hA (by kernel_rfl) (by kernel_rfl) (by kernel_rfl) hW.cls (Rd.pure fun _ => by kernel_rfl) ?_; clear hA ac; intro ac hA
                                                              refine wpList_nil ?_
                                                              refine thenN ?_
                                                              refine wp_ret ?_
                                                              refine thenR ?_
                                                              refine thenR ?_
                                                              refine blkR ?_
                                                              refine thenR ?_
                                                              refine thenR ?_
                                                              refine blkR ?_
                                                              refine thenR ?_
                                                              refine ret1 (v := Value.bool false) (by rfl) hA (Got.tmp hA (by kernel_rfl) (by kernel_rfl)) ?_
                                                              clear hA
                                                              exact ⟨retv (by rfl), hW.fr⟩)
                                                        · skip
                                                          have h36 := of_bne_f h36
                                                          first
                                                          | (exfalso; clear hA hW; omega)
                                                          | (exfalso; clear hA hW; rw [hb0] at h36; exact absurd rfl h36; done)
                                                          | (exfalso; clear hA hW; rw [h25] at h36; exact absurd rfl h36; done)
                                                          | (exfalso; clear hA hW; rw [h25] at h36; cases h36; done)
                                                          | (
                                                              fail))))
                                      · skip
                                        have h32 := not_f h32
                                        first
                                        | (exfalso; clear hA hW; omega)
                                        | (exfalso; clear hA hW; rw [hb0] at h32; exact absurd rfl h32; done)
                                        | (exfalso; clear hA hW; rw [h25] at h32; exact absurd rfl h32; done)
                                        | (exfalso; clear hA hW; rw [h25] at h32; cases h32; done)
                                        | (
                                            refine wp_skip ?_
                                            refine thenN ?_
                                            refine wp_seq ?_
                                            refine wp_cut (fun ac_ wl_ => ∃ Ao1r16_5 : Option Addr, ∃ Ao2r16_5 : Option Addr, ∃ br16_9 : Nat, ∃ co1r16_5 : Nat, ∃ co2r16_5 : Nat, ∃ g0r16_5 : List Flag, ∃ g1r16_5 : List Pair, ∃ g2r16_5 : Bool, ((g0r16_5).length ≤ co1r16_5) ∧ ((g1r16_5).length ≤ co2r16_5) ∧ (RT.Takes ⟨(m), Lk, Pk⟩ y ⟨(m), g0r16_5, g1r16_5⟩ g2r16_5) ∧ Fm 131 [] [(0, Value.int .i64 most), (1, Value.slice (some ⟨b26, o27, none⟩) l.length c_l), (5, Value.pointer (some ⟨n4, 0, none⟩)), (7, Value.pointer (some ⟨b16, 0, none⟩)), (9, Value.int .i64 ((k : Nat) : Int)), (10, Value.bool (Tab.take T y).2), (11, Value.int .i64 0), (12, Value.pointer (some ⟨br16_9, 0, none⟩)), (13, Value.bool g2r16_5), (42, Value.int .i64 ((k : Nat) : Int)), (43, Value.slice (some ⟨b26, o27, none⟩) l.length c_l), (44, Value.int .i64 ((l.length : Nat) : Int)), (45, Value.bool (decide ((((k : Nat) : Int) : Int) < (((l.length : Nat) : Int) : Int)))), (48, Value.tuple #[Value.bool (Tab.take T y).2, Value.int .i64 0]), (49, Value.pointer (some ⟨n4, 0, none⟩)), (50, Value.slice (some ⟨b26, o27, none⟩) l.length c_l), (51, Value.int .i64 ((k : Nat) : Int)), (52, Value.pointer (some ⟨b26, o27 + k * 10, none⟩)), (53, Value.agg #[Value.int .i64 y.at_, Value.int .u32 y.addr, Value.int .i64 y.e.g, Value.int .i64 y.e.s.f, Value.int .i64 y.e.s.pc, Value.int .i64 y.e.k, Value.int .i64 y.l.g, Value.int .i64 y.l.s.f, Value.int .i64 y.l.s.pc, Value.int .i64 y.l.k]), (54, Value.tuple #[Value.bool (Tab.take T y).2, Value.int .i64 0]), (55, Value.bool (Tab.take T y).2), (56, Value.int .i64 0), (57, Value.slice (some ⟨b26, o27, none⟩) l.length c_l), (58, Value.int .i64 ((k : Nat) : Int)), (59, Value.pointer (some ⟨b26, o27 + k * 10, none⟩)), (60, Value.agg #[Value.int .i64 y.at_, Value.int .u32 y.addr, Value.int .i64 y.e.g, Value.int .i64 y.e.s.f, Value.int .i64 y.e.s.pc, Value.int .i64 y.e.k, Value.int .i64 y.l.g, Value.int .i64 y.l.s.f, Value.int .i64 y.l.s.pc, Value.int .i64 y.l.k]), (61, Value.bool (Flag.ok y)), (62, Value.bool (!(Flag.ok y)))] ac_ ∧ Ws w No [Cel br16_9 #[Value.int .i64 (m), Value.slice Ao1r16_5 (g0r16_5).length co1r16_5, Value.slice Ao2r16_5 (g1r16_5).length co2r16_5] 29, Cel b16 #[Value.int .i64 m, Value.slice A1 Lk.length c1, Value.slice A2 Pk.length c2] 29, TabR n4 n5 n6 u29 u30 (Tab.take T y).1] [roR Ao2r16_5 4 enPair g1r16_5, roR Ao1r16_5 10 enFlag g0r16_5, roR A1 10 enFlag Lk, roR A2 4 enPair Pk, roR (some ⟨b26, o27, none⟩) 10 enFlag l] wl_) ?_ ?_
                                            · refine sr_region (m := 12) (C := Ws w No [Cel b16 #[Value.int .i64 m, Value.slice A1 Lk.length c1, Value.slice A2 Pk.length c2] 29, TabR n4 n5 n6 u29 u30 (Tab.take T y).1] [roR A1 10 enFlag Lk, roR A2 4 enPair Pk, roR (some ⟨b26, o27, none⟩) 10 enFlag l]) (fun i => [0, 4].contains i) (fun i => [0, 4, 9].contains i) (fun i => [1, 2, 3, 6, 7, 8, 11].contains i) (by kernel_rfl) (by kernel_rfl) (by kernel_rfl) (by kernel_rfl) hW ?_; clear hW; intro w37 hW hfw37 hR; have hC : Ws w No [Cel b16 #[Value.int .i64 m, Value.slice A1 Lk.length c1, Value.slice A2 Pk.length c2] 29, TabR n4 n5 n6 u29 u30 (Tab.take T y).1] [roR A1 10 enFlag Lk, roR A2 4 enPair Pk, roR (some ⟨b26, o27, none⟩) 10 enFlag l] w37 := hW.pick [0, 1] (by decide) rfl
                                              refine sr_take (i := 0) (v := Value.agg #[Value.int .i64 m, Value.slice A1 Lk.length c1, Value.slice A2 Pk.length c2]) hR (by kernel_rfl) rfl (by kernel_rfl) (by kernel_rfl) (by kernel_rfl) (fun _ _ _ h => h.elim) hA (by kernel_rfl) (by kernel_rfl) (by kernel_rfl) hC (Rd.load (b := b16) (i := 0) (by kernel_rfl) (fun _ hw => (hw).cel 0 rfl) (by kernel_rfl)) ?_; clear hA ac; intro ac hA
                                              refine sr_pure (i := 1) (v := Value.slice (some ⟨b26, o27, none⟩) l.length c_l) hR (by kernel_rfl) rfl (by kernel_rfl) (by kernel_rfl) (fun _ _ _ h => h.elim) hA (by kernel_rfl) (by kernel_rfl) (by kernel_rfl) (Rd.pure fun _ => by kernel_rfl) ?_; clear hA ac; intro ac hA
                                              refine sr_pure (i := 2) (v := Value.int .i64 ((k : Nat) : Int)) hR (by kernel_rfl) rfl (by kernel_rfl) (by kernel_rfl) (fun _ _ _ h => h.elim) hA (by kernel_rfl) (by kernel_rfl) (by kernel_rfl) (Rd.pure fun _ => by kernel_rfl) ?_; clear hA ac; intro ac hA
                                              refine sr_pure (i := 3) (v := Value.pointer (some ⟨b26, o27 + k * 10, none⟩)) hR (by kernel_rfl) rfl (by kernel_rfl) (by kernel_rfl) (fun _ _ _ h => h.elim) hA (by kernel_rfl) (by kernel_rfl) (by kernel_rfl) (Rd.indexAddr (e := 43) (sz := 10) (b := b26) (off := o27) (n := l.length) (c := c_l) (k := k) (by kernel_rfl) (by kernel_rfl) (by first | omega | (simp; done) | (simp; omega)) (fun _ => by kernel_rfl) (fun _ => by kernel_rfl)) ?_; clear hA ac; intro ac hA
                                              refine sr_take (i := 4) (v := Value.agg #[Value.int .i64 y.at_, Value.int .u32 y.addr, Value.int .i64 y.e.g, Value.int .i64 y.e.s.f, Value.int .i64 y.e.s.pc, Value.int .i64 y.e.k, Value.int .i64 y.l.g, Value.int .i64 y.l.s.f, Value.int .i64 y.l.s.pc, Value.int .i64 y.l.k]) hR (by kernel_rfl) rfl (by kernel_rfl) (by kernel_rfl) (by kernel_rfl) (fun _ _ _ h => h.elim) hA (by kernel_rfl) (by kernel_rfl) (by kernel_rfl) hC (Rd.loadRow (b := b26) (i := o27 + k * 10) (xs := [Value.int .i64 y.at_, Value.int .u32 y.addr, Value.int .i64 y.e.g, Value.int .i64 y.e.s.f, Value.int .i64 y.e.s.pc, Value.int .i64 y.e.k, Value.int .i64 y.l.g, Value.int .i64 y.l.s.f, Value.int .i64 y.l.s.pc, Value.int .i64 y.l.k]) (by kernel_rfl) (fun _ hw => row_ld ((hw).getG 2 rfl) hy (Fr.refl No _) (fun h => h) 0 10 (by kernel_rfl)) (by kernel_rfl)) ?_; clear hA ac; intro ac hA
                                              refine sr_two (i := 5) (j := 9) (by kernel_rfl) ?_ ?_
                                              · skip
                                                refine (sr_do rfl hA (by kernel_rfl) (by kernel_rfl) (by kernel_rfl) (Runs.call (fun _ => by kernel_rfl) (e_take27 (m) A1 c1 Lk A2 c2 Pk y w37 ((hW).getG 0 rfl) (by first | assumption | omega | (simp; omega) | simp) ((hW).getG 1 rfl) (by first | assumption | omega | (simp; omega) | simp) (by first | omega | assumption | simp) (by first | omega | assumption | simp)) ?_))
                                                rintro _ w38 ⟨g0r16_5, g1r16_5, g2r16_5, Ao1r16_5, co1r16_5, Ao2r16_5, co2r16_5, rfl, hr16_5_hT, hcco1r16_5, hcco2r16_5, hfco1r16_5, hfco2r16_5, hfw38⟩; refine ⟨_, rfl, ?_⟩; have hW0 := hW; have hW := hW0.call hfw38
                                                have hW := hW0.addFromAt hW hfco1r16_5 (in_cons (in_at 0 rfl) (in_cons (in_at 1 rfl) in_nil))
                                                have hW := hW0.addFromAt hW hfco2r16_5 (in_cons (in_at 0 rfl) (in_cons (in_at 1 rfl) in_nil))
                                                clear hW0 hA ac; intro ac hA
                                                refine ⟨⟨fun h => absurd h (by decide), fun h => absurd h (by decide)⟩, ?_⟩
                                                refine sr_pure (i := 6) (v := Value.tuple #[Value.agg #[Value.int .i64 (m), Value.slice Ao1r16_5 (g0r16_5).length co1r16_5, Value.slice Ao2r16_5 (g1r16_5).length co2r16_5], Value.bool g2r16_5]) hR (by kernel_rfl) rfl (by kernel_rfl) (by kernel_rfl) (fun _ _ _ h => h.elim) hA (by kernel_rfl) (by kernel_rfl) (by kernel_rfl) (Rd.pure fun _ => by kernel_rfl) ?_; clear hA ac; intro ac hA
                                                refine sr_pure (i := 7) (v := Value.agg #[Value.int .i64 (m), Value.slice Ao1r16_5 (g0r16_5).length co1r16_5, Value.slice Ao2r16_5 (g1r16_5).length co2r16_5]) hR (by kernel_rfl) rfl (by kernel_rfl) (by kernel_rfl) (fun _ _ _ h => h.elim) hA (by kernel_rfl) (by kernel_rfl) (by kernel_rfl) (Rd.pure fun _ => by kernel_rfl) ?_; clear hA ac; intro ac hA
                                                refine sr_pure (i := 8) (v := Value.bool g2r16_5) hR (by kernel_rfl) rfl (by kernel_rfl) (by kernel_rfl) (fun _ _ _ h => h.elim) hA (by kernel_rfl) (by kernel_rfl) (by kernel_rfl) (Rd.pure fun _ => by kernel_rfl) ?_; clear hA ac; intro ac hA
                                                refine sr_one (i := 9) (by kernel_rfl) (sr_do rfl hA (by kernel_rfl) (by kernel_rfl) (by kernel_rfl) (Runs.cells (fun b => Value.pointer (some ⟨b, 0, none⟩)) #[Value.int .i64 0, Value.slice none 0 0, Value.slice none 0 0] 29 (fun _ => by kernel_rfl) hW ?_)); clear hA ac hW; intro br16_9 w39 hW hbr16_9 hfw39 ac hA
                                                refine ⟨⟨fun _ => (hW.pick [1, 2] (by decide) rfl).pickG [2, 3, 4] rfl, fun h => absurd h (by decide)⟩, ?_⟩; have hC : Ws w No [Cel b16 #[Value.int .i64 m, Value.slice A1 Lk.length c1, Value.slice A2 Pk.length c2] 29, TabR n4 n5 n6 u29 u30 (Tab.take T y).1] [roR A1 10 enFlag Lk, roR A2 4 enPair Pk, roR (some ⟨b26, o27, none⟩) 10 enFlag l] w39 := (hW.pick [1, 2] (by decide) rfl).pickG [2, 3, 4] rfl
                                                refine sr_one (i := 10) (by kernel_rfl) (sr_do rfl hA (by kernel_rfl) (by kernel_rfl) (by kernel_rfl) (Runs.store (v := Value.agg #[Value.int .i64 (m), Value.slice Ao1r16_5 (g0r16_5).length co1r16_5, Value.slice Ao2r16_5 (g1r16_5).length co2r16_5]) (b := br16_9) (j := 0) (n := 3) (cs' := #[Value.int .i64 (m), Value.slice Ao1r16_5 (g0r16_5).length co1r16_5, Value.slice Ao2r16_5 (g1r16_5).length co2r16_5]) (H' := [Cel br16_9 #[Value.int .i64 (m), Value.slice Ao1r16_5 (g0r16_5).length co1r16_5, Value.slice Ao2r16_5 (g1r16_5).length co2r16_5] 29, Cel b16 #[Value.int .i64 m, Value.slice A1 Lk.length c1, Value.slice A2 Pk.length c2] 29, TabR n4 n5 n6 u29 u30 (Tab.take T y).1]) (by kernel_rfl) (by kernel_rfl) (by kernel_rfl) (by kernel_rfl) (by kernel_rfl) hW 0 (by rfl) (Nat.le_of_ble_eq_true (by kernel_rfl)) (by kernel_rfl) (by rfl) ?_)); clear hA ac hW; intro w40 hW ac hA
                                                refine ⟨⟨fun h => absurd h (by decide), fun h => absurd h (by decide)⟩, ?_⟩
                                                refine sr_pure (i := 11) (v := Value.bool g2r16_5) hR (by kernel_rfl) rfl (by kernel_rfl) (by kernel_rfl) (fun _ _ _ h => h.elim) hA (by kernel_rfl) (by kernel_rfl) (by kernel_rfl) (Rd.pure fun _ => by kernel_rfl) ?_; clear hA ac; intro ac hA
                                                refine sr_done (by kernel_rfl) ?_ _
                                                exact ⟨Ao1r16_5, Ao2r16_5, br16_9, co1r16_5, co2r16_5, g0r16_5, g1r16_5, g2r16_5, hcco1r16_5, hcco2r16_5, hr16_5_hT, hA.sub ⟨⟨by kernel_rfl, by kernel_rfl⟩, ⟨by kernel_rfl, by kernel_rfl⟩, ⟨by kernel_rfl, by kernel_rfl⟩, ⟨by kernel_rfl, by kernel_rfl⟩, ⟨by kernel_rfl, by kernel_rfl⟩, ⟨by kernel_rfl, by kernel_rfl⟩, ⟨by kernel_rfl, by kernel_rfl⟩, ⟨by kernel_rfl, by kernel_rfl⟩, ⟨by kernel_rfl, by kernel_rfl⟩, ⟨by kernel_rfl, by kernel_rfl⟩, ⟨by kernel_rfl, by kernel_rfl⟩, ⟨by kernel_rfl, by kernel_rfl⟩, ⟨by kernel_rfl, by kernel_rfl⟩, ⟨by kernel_rfl, by kernel_rfl⟩, ⟨by kernel_rfl, by kernel_rfl⟩, ⟨by kernel_rfl, by kernel_rfl⟩, ⟨by kernel_rfl, by kernel_rfl⟩, ⟨by kernel_rfl, by kernel_rfl⟩, ⟨by kernel_rfl, by kernel_rfl⟩, ⟨by kernel_rfl, by kernel_rfl⟩, ⟨by kernel_rfl, by kernel_rfl⟩, ⟨by kernel_rfl, by kernel_rfl⟩, ⟨by kernel_rfl, by kernel_rfl⟩, ⟨by kernel_rfl, by kernel_rfl⟩, ⟨by kernel_rfl, by kernel_rfl⟩, ⟨by kernel_rfl, by kernel_rfl⟩, ⟨by kernel_rfl, by kernel_rfl⟩, ⟨by kernel_rfl, by kernel_rfl⟩, trivial⟩, (hW.pick [0, 1, 2] (by decide) rfl).pickG [0, 1, 2, 3, 4] rfl⟩
                                              · skip
                                                refine (sr_do rfl hA (by kernel_rfl) (by kernel_rfl) (by kernel_rfl) (Runs.cells (fun b => Value.pointer (some ⟨b, 0, none⟩)) #[Value.int .i64 0, Value.slice none 0 0, Value.slice none 0 0] 29 (fun _ => by kernel_rfl) hW ?_)); clear hA ac hW; intro br16_9 w41 hW hbr16_9 hfw41 ac hA
                                                refine ⟨⟨fun _ => (hW.pick [1, 2] (by decide) rfl).pickG [0, 1, 2] rfl, fun h => absurd h (by decide)⟩, ?_⟩; have hC : Ws w No [Cel b16 #[Value.int .i64 m, Value.slice A1 Lk.length c1, Value.slice A2 Pk.length c2] 29, TabR n4 n5 n6 u29 u30 (Tab.take T y).1] [roR A1 10 enFlag Lk, roR A2 4 enPair Pk, roR (some ⟨b26, o27, none⟩) 10 enFlag l] w41 := (hW.pick [1, 2] (by decide) rfl).pickG [0, 1, 2] rfl
                                                refine sr_one (i := 5) (by kernel_rfl) (sr_do rfl hA (by kernel_rfl) (by kernel_rfl) (by kernel_rfl) (Runs.call (fun _ => by kernel_rfl) (e_take27 (m) A1 c1 Lk A2 c2 Pk y w41 ((hW).getG 0 rfl) (by first | assumption | omega | (simp; omega) | simp) ((hW).getG 1 rfl) (by first | assumption | omega | (simp; omega) | simp) (by first | omega | assumption | simp) (by first | omega | assumption | simp)) ?_))
                                                rintro _ w42 ⟨g0r16_5, g1r16_5, g2r16_5, Ao1r16_5, co1r16_5, Ao2r16_5, co2r16_5, rfl, hr16_5_hT, hcco1r16_5, hcco2r16_5, hfco1r16_5, hfco2r16_5, hfw42⟩; refine ⟨_, rfl, ?_⟩; have hW0 := hW; have hW := hW0.call hfw42
                                                have hW := hW0.addFromAt hW hfco1r16_5 (in_cons (in_at 0 rfl) (in_cons (in_at 1 rfl) in_nil))
                                                have hW := hW0.addFromAt hW hfco2r16_5 (in_cons (in_at 0 rfl) (in_cons (in_at 1 rfl) in_nil))
                                                clear hW0 hA ac; intro ac hA
                                                refine ⟨⟨fun h => absurd h (by decide), fun h => absurd h (by decide)⟩, ?_⟩
                                                refine sr_pure (i := 6) (v := Value.tuple #[Value.agg #[Value.int .i64 (m), Value.slice Ao1r16_5 (g0r16_5).length co1r16_5, Value.slice Ao2r16_5 (g1r16_5).length co2r16_5], Value.bool g2r16_5]) hR (by kernel_rfl) rfl (by kernel_rfl) (by kernel_rfl) (fun _ _ _ h => h.elim) hA (by kernel_rfl) (by kernel_rfl) (by kernel_rfl) (Rd.pure fun _ => by kernel_rfl) ?_; clear hA ac; intro ac hA
                                                refine sr_pure (i := 7) (v := Value.agg #[Value.int .i64 (m), Value.slice Ao1r16_5 (g0r16_5).length co1r16_5, Value.slice Ao2r16_5 (g1r16_5).length co2r16_5]) hR (by kernel_rfl) rfl (by kernel_rfl) (by kernel_rfl) (fun _ _ _ h => h.elim) hA (by kernel_rfl) (by kernel_rfl) (by kernel_rfl) (Rd.pure fun _ => by kernel_rfl) ?_; clear hA ac; intro ac hA
                                                refine sr_pure (i := 8) (v := Value.bool g2r16_5) hR (by kernel_rfl) rfl (by kernel_rfl) (by kernel_rfl) (fun _ _ _ h => h.elim) hA (by kernel_rfl) (by kernel_rfl) (by kernel_rfl) (Rd.pure fun _ => by kernel_rfl) ?_; clear hA ac; intro ac hA
                                                refine sr_one (i := 10) (by kernel_rfl) (sr_do rfl hA (by kernel_rfl) (by kernel_rfl) (by kernel_rfl) (Runs.store (v := Value.agg #[Value.int .i64 (m), Value.slice Ao1r16_5 (g0r16_5).length co1r16_5, Value.slice Ao2r16_5 (g1r16_5).length co2r16_5]) (b := br16_9) (j := 0) (n := 3) (cs' := #[Value.int .i64 (m), Value.slice Ao1r16_5 (g0r16_5).length co1r16_5, Value.slice Ao2r16_5 (g1r16_5).length co2r16_5]) (H' := [Cel br16_9 #[Value.int .i64 (m), Value.slice Ao1r16_5 (g0r16_5).length co1r16_5, Value.slice Ao2r16_5 (g1r16_5).length co2r16_5] 29, Cel b16 #[Value.int .i64 m, Value.slice A1 Lk.length c1, Value.slice A2 Pk.length c2] 29, TabR n4 n5 n6 u29 u30 (Tab.take T y).1]) (by kernel_rfl) (by kernel_rfl) (by kernel_rfl) (by kernel_rfl) (by kernel_rfl) hW 0 (by rfl) (Nat.le_of_ble_eq_true (by kernel_rfl)) (by kernel_rfl) (by rfl) ?_)); clear hA ac hW; intro w43 hW ac hA
                                                refine ⟨⟨fun h => absurd h (by decide), fun h => absurd h (by decide)⟩, ?_⟩
                                                refine sr_pure (i := 11) (v := Value.bool g2r16_5) hR (by kernel_rfl) rfl (by kernel_rfl) (by kernel_rfl) (fun _ _ _ h => h.elim) hA (by kernel_rfl) (by kernel_rfl) (by kernel_rfl) (Rd.pure fun _ => by kernel_rfl) ?_; clear hA ac; intro ac hA
                                                refine sr_done (by kernel_rfl) ?_ _
                                                exact ⟨Ao1r16_5, Ao2r16_5, br16_9, co1r16_5, co2r16_5, g0r16_5, g1r16_5, g2r16_5, hcco1r16_5, hcco2r16_5, hr16_5_hT, hA.sub ⟨⟨by kernel_rfl, by kernel_rfl⟩, ⟨by kernel_rfl, by kernel_rfl⟩, ⟨by kernel_rfl, by kernel_rfl⟩, ⟨by kernel_rfl, by kernel_rfl⟩, ⟨by kernel_rfl, by kernel_rfl⟩, ⟨by kernel_rfl, by kernel_rfl⟩, ⟨by kernel_rfl, by kernel_rfl⟩, ⟨by kernel_rfl, by kernel_rfl⟩, ⟨by kernel_rfl, by kernel_rfl⟩, ⟨by kernel_rfl, by kernel_rfl⟩, ⟨by kernel_rfl, by kernel_rfl⟩, ⟨by kernel_rfl, by kernel_rfl⟩, ⟨by kernel_rfl, by kernel_rfl⟩, ⟨by kernel_rfl, by kernel_rfl⟩, ⟨by kernel_rfl, by kernel_rfl⟩, ⟨by kernel_rfl, by kernel_rfl⟩, ⟨by kernel_rfl, by kernel_rfl⟩, ⟨by kernel_rfl, by kernel_rfl⟩, ⟨by kernel_rfl, by kernel_rfl⟩, ⟨by kernel_rfl, by kernel_rfl⟩, ⟨by kernel_rfl, by kernel_rfl⟩, ⟨by kernel_rfl, by kernel_rfl⟩, ⟨by kernel_rfl, by kernel_rfl⟩, ⟨by kernel_rfl, by kernel_rfl⟩, ⟨by kernel_rfl, by kernel_rfl⟩, ⟨by kernel_rfl, by kernel_rfl⟩, ⟨by kernel_rfl, by kernel_rfl⟩, ⟨by kernel_rfl, by kernel_rfl⟩, trivial⟩, (hW.pick [0, 1, 2] (by decide) rfl).pickG [0, 1, 2, 3, 4] rfl⟩
                                            clear hA ac hW; rintro ac w44 ⟨Ao1r16_5, Ao2r16_5, br16_9, co1r16_5, co2r16_5, g0r16_5, g1r16_5, g2r16_5, hcco1r16_5, hcco2r16_5, hr16_5_hT, hA, hW⟩
                                            refine thenN ?_
                                            refine wp_seq ?_
                                            refine wp_region_lit ?_
                                            refine st_rd (v := Value.agg #[Value.int .i64 (m), Value.slice Ao1r16_5 (g0r16_5).length co1r16_5, Value.slice Ao2r16_5 (g1r16_5).length co2r16_5]) hA (by kernel_rfl) (by kernel_rfl) (by kernel_rfl) hW.cls (Rd.load (b := br16_9) (i := 0) (by kernel_rfl) (fun _ hw => (hw.1).cel 0 rfl) (by kernel_rfl)) ?_; clear hA ac; intro ac hA
                                            refine st hA (by kernel_rfl) (by kernel_rfl) (by kernel_rfl) (Runs.store (v := Value.agg #[Value.int .i64 (m), Value.slice Ao1r16_5 (g0r16_5).length co1r16_5, Value.slice Ao2r16_5 (g1r16_5).length co2r16_5]) (b := b16) (j := 0) (n := 3) (cs' := #[Value.int .i64 (m), Value.slice Ao1r16_5 (g0r16_5).length co1r16_5, Value.slice Ao2r16_5 (g1r16_5).length co2r16_5]) (H' := [Cel br16_9 #[Value.int .i64 (m), Value.slice Ao1r16_5 (g0r16_5).length co1r16_5, Value.slice Ao2r16_5 (g1r16_5).length co2r16_5] 29, Cel b16 #[Value.int .i64 (m), Value.slice Ao1r16_5 (g0r16_5).length co1r16_5, Value.slice Ao2r16_5 (g1r16_5).length co2r16_5] 29, TabR n4 n5 n6 u29 u30 (Tab.take T y).1]) (by kernel_rfl) (by kernel_rfl) (by kernel_rfl) (by kernel_rfl) (by kernel_rfl) hW 1 (by rfl) (Nat.le_of_ble_eq_true (by kernel_rfl)) (by kernel_rfl) (by rfl) ?_); clear hA ac hW; intro w45 hW ac hA
                                            refine wpList_nil ?_
                                            refine thenN ?_
                                            refine wp_seq ?_
                                            have hae : argErr (Flag.ok y) = 0 := by rw [h25]; rfl
                                            obtain ⟨hG2, hr2⟩ := hG.takes hr16_5_hT; have hl2 := RT.Takes.len hr16_5_hT; simp only at hl2; have hl3 : g0r16_5.length = (Tab.take T y).1.l.length := congrArg List.length hG2.l_
                                            refine q_region (by kernel_rfl) (by kernel_rfl) hW ?_
                                            refine sq_rd (v := Value.bool (Tab.take T y).2) hA (by kernel_rfl) (by kernel_rfl) (by kernel_rfl) (Rd.pure fun _ => by kernel_rfl) ?_; clear hA ac; intro ac hA
                                            refine sq_rd (v := Value.bool g2r16_5) hA (by kernel_rfl) (by kernel_rfl) (by kernel_rfl) (Rd.pure fun _ => by kernel_rfl) ?_; clear hA ac; intro ac hA
                                            refine sq_rd (v := Value.bool (!((Tab.take T y).2 == g2r16_5))) hA (by kernel_rfl) (by kernel_rfl) (by kernel_rfl) (Rd.pure fun _ => by kernel_rfl) ?_; clear hA ac; intro ac hA
                                            refine sq_rd (v := Value.bool (!((Tab.take T y).2 == g2r16_5))) hA (by kernel_rfl) (by kernel_rfl) (by kernel_rfl) (Rd.pure fun _ => by kernel_rfl) ?_; clear hA ac; intro ac hA
                                            rcases Bool.eq_false_or_eq_true (!((Tab.take T y).2 == g2r16_5)) with h46 | h46
                                            · skip
                                              rw [h46] at hA
                                              have h46 := bbne_t h46
                                              first
                                              | (exfalso; clear hA hW; omega)
                                              | (exfalso; clear hA hW; rw [hb0] at h46; exact absurd rfl h46; done)
                                              | (exfalso; clear hA hW; rw [h25] at h46; exact absurd rfl h46; done)
                                              | (exfalso; clear hA hW; rw [h25] at h46; cases h46; done)
                                              | (exfalso; clear hA hW; exact absurd hr2.symm h46; done)
                                              | (
                                                  refine sq_skip hA (by kernel_rfl) (by kernel_rfl) ?_; clear hA ac; intro ac hA
                                                  refine sq_skip hA (by kernel_rfl) (by kernel_rfl) ?_; clear hA ac; intro ac hA
                                                  refine sq_skip hA (by kernel_rfl) (by kernel_rfl) ?_; clear hA ac; intro ac hA
                                                  refine sq_skip hA (by kernel_rfl) (by kernel_rfl) ?_; clear hA ac; intro ac hA
                                                  refine sq_skip hA (by kernel_rfl) (by kernel_rfl) ?_; clear hA ac; intro ac hA
                                                  refine sq_skip hA (by kernel_rfl) (by kernel_rfl) ?_; clear hA ac; intro ac hA
                                                  refine sq_skip hA (by kernel_rfl) (by kernel_rfl) ?_; clear hA ac; intro ac hA
                                                  refine sq_skip hA (by kernel_rfl) (by kernel_rfl) ?_; clear hA ac; intro ac hA
                                                  refine sq_skip hA (by kernel_rfl) (by kernel_rfl) ?_; clear hA ac; intro ac hA
                                                  refine sq_skip hA (by kernel_rfl) (by kernel_rfl) ?_; clear hA ac; intro ac hA
                                                  refine sq_rd (v := Value.bool true) hA (by kernel_rfl) (by kernel_rfl) (by kernel_rfl) (Rd.pure fun _ => by kernel_rfl) ?_; clear hA ac; intro ac hA
                                                  refine sq_rd (v := Value.bool true) hA (by kernel_rfl) (by kernel_rfl) (by kernel_rfl) (Rd.pure fun _ => by kernel_rfl) ?_; clear hA ac; intro ac hA
                                                  refine sq_skip hA (by kernel_rfl) (by kernel_rfl) ?_; clear hA ac; intro ac hA
                                                  refine sq_skip hA (by kernel_rfl) (by kernel_rfl) ?_; clear hA ac; intro ac hA
                                                  refine sq_skip hA (by kernel_rfl) (by kernel_rfl) ?_; clear hA ac; intro ac hA
                                                  refine sq_skip hA (by kernel_rfl) (by kernel_rfl) ?_; clear hA ac; intro ac hA
                                                  refine sq_skip hA (by kernel_rfl) (by kernel_rfl) ?_; clear hA ac; intro ac hA
                                                  refine sq_skip hA (by kernel_rfl) (by kernel_rfl) ?_; clear hA ac; intro ac hA
                                                  refine sq_skip hA (by kernel_rfl) (by kernel_rfl) ?_; clear hA ac; intro ac hA
                                                  refine sq_skip hA (by kernel_rfl) (by kernel_rfl) ?_; clear hA ac; intro ac hA
                                                  refine sq_skip hA (by kernel_rfl) (by kernel_rfl) ?_; clear hA ac; intro ac hA
                                                  refine sq_skip hA (by kernel_rfl) (by kernel_rfl) ?_; clear hA ac; intro ac hA
                                                  refine sq_skip hA (by kernel_rfl) (by kernel_rfl) ?_; clear hA ac; intro ac hA
                                                  refine sq_skip hA (by kernel_rfl) (by kernel_rfl) ?_; clear hA ac; intro ac hA
                                                  refine sq_skip hA (by kernel_rfl) (by kernel_rfl) ?_; clear hA ac; intro ac hA
                                                  refine sq_skip hA (by kernel_rfl) (by kernel_rfl) ?_; clear hA ac; intro ac hA
                                                  refine sq_skip hA (by kernel_rfl) (by kernel_rfl) ?_; clear hA ac; intro ac hA
                                                  refine sq_skip hA (by kernel_rfl) (by kernel_rfl) ?_; clear hA ac; intro ac hA
                                                  refine sq_skip hA (by kernel_rfl) (by kernel_rfl) ?_; clear hA ac; intro ac hA
                                                  refine sq_skip hA (by kernel_rfl) (by kernel_rfl) ?_; clear hA ac; intro ac hA
                                                  refine sq_skip hA (by kernel_rfl) (by kernel_rfl) ?_; clear hA ac; intro ac hA
                                                  refine sq_rd (v := Value.bool true) hA (by kernel_rfl) (by kernel_rfl) (by kernel_rfl) (Rd.pure fun _ => by kernel_rfl) ?_; clear hA ac; intro ac hA
                                                  refine sq_nil ?_; intro w47 hww47; have hW := hww47.1; have hfw47 := hww47.2; clear hww47
                                                  refine thenN ?_
                                                  refine wp_cond_true (hA.eval (by kernel_rfl)) ?_
                                                  refine wp_seq ?_
                                                  refine wp_region_lit ?_
                                                  refine st_rd (v := Value.bool false) hA (by kernel_rfl) (by kernel_rfl) (by kernel_rfl) hW.cls (Rd.pure fun _ => by kernel_rfl) ?_; clear hA ac; intro ac hA
                                                  refine wpList_nil ?_
                                                  refine thenN ?_
                                                  refine wp_ret ?_
                                                  refine blkR ?_
                                                  refine thenR ?_
                                                  refine thenR ?_
                                                  refine blkR ?_
                                                  refine thenR ?_
                                                  refine ret1 (v := Value.bool false) (by rfl) hA (Got.tmp hA (by kernel_rfl) (by kernel_rfl)) ?_
                                                  clear hA
                                                  exact ⟨retv (by rfl), hW.fr⟩)
                                            · skip
                                              rw [h46] at hA
                                              have h46 := bbne_f h46
                                              first
                                              | (exfalso; clear hA hW; omega)
                                              | (exfalso; clear hA hW; rw [hb0] at h46; exact absurd rfl h46; done)
                                              | (exfalso; clear hA hW; rw [h25] at h46; exact absurd rfl h46; done)
                                              | (exfalso; clear hA hW; rw [h25] at h46; cases h46; done)
                                              | (exfalso; clear hA hW; exact absurd hr2.symm h46; done)
                                              | (
                                                  refine sq_rd (v := Value.int .i64 0) hA (by kernel_rfl) (by kernel_rfl) (by kernel_rfl) (Rd.pure fun _ => by kernel_rfl) ?_; clear hA ac; intro ac hA
                                                  refine sq_call (v := Value.int .i64 (0)) hA (by kernel_rfl) (by kernel_rfl) (by kernel_rfl) (fun _ => by kernel_rfl) (Cls.callSC fun wx hwx => num27_any (0) wx) ?_; clear hA ac; intro ac hA
                                                  refine sq_rd (v := Value.slice (some ⟨b26, o27, none⟩) l.length c_l) hA (by kernel_rfl) (by kernel_rfl) (by kernel_rfl) (Rd.pure fun _ => by kernel_rfl) ?_; clear hA ac; intro ac hA
                                                  refine sq_rd (v := Value.int .i64 ((k : Nat) : Int)) hA (by kernel_rfl) (by kernel_rfl) (by kernel_rfl) (Rd.pure fun _ => by kernel_rfl) ?_; clear hA ac; intro ac hA
                                                  refine sq_rd (v := Value.pointer (some ⟨b26, o27 + k * 10, none⟩)) hA (by kernel_rfl) (by kernel_rfl) (by kernel_rfl) (Rd.indexAddr (e := 43) (sz := 10) (b := b26) (off := o27) (n := l.length) (c := c_l) (k := k) (by kernel_rfl) (by kernel_rfl) (by first | omega | (simp; done) | (simp; omega)) (fun _ => by kernel_rfl) (fun _ => by kernel_rfl)) ?_; clear hA ac; intro ac hA
                                                  refine sq_rd (v := Value.agg #[Value.int .i64 y.at_, Value.int .u32 y.addr, Value.int .i64 y.e.g, Value.int .i64 y.e.s.f, Value.int .i64 y.e.s.pc, Value.int .i64 y.e.k, Value.int .i64 y.l.g, Value.int .i64 y.l.s.f, Value.int .i64 y.l.s.pc, Value.int .i64 y.l.k]) hA (by kernel_rfl) (by kernel_rfl) (by kernel_rfl) (Rd.loadRow (b := b26) (i := o27 + k * 10) (xs := [Value.int .i64 y.at_, Value.int .u32 y.addr, Value.int .i64 y.e.g, Value.int .i64 y.e.s.f, Value.int .i64 y.e.s.pc, Value.int .i64 y.e.k, Value.int .i64 y.l.g, Value.int .i64 y.l.s.f, Value.int .i64 y.l.s.pc, Value.int .i64 y.l.k]) (by kernel_rfl) (fun _ hw => row_ld ((hw.1).getG 4 rfl) hy (Fr.refl No _) (fun h => h) 0 10 (by kernel_rfl)) (by kernel_rfl)) ?_; clear hA ac; intro ac hA
                                                  refine sq_call (v := Value.int .i64 (argErr (Flag.ok y))) hA (by kernel_rfl) (by kernel_rfl) (by kernel_rfl) (fun _ => by kernel_rfl) (Cls.callNC fun wx hwx => fcheck_any y wx) ?_; clear hA ac; intro ac hA
                                                  refine sq_call (v := Value.int .i64 (argErr (Flag.ok y))) hA (by kernel_rfl) (by kernel_rfl) (by kernel_rfl) (fun _ => by kernel_rfl) (Cls.callSC fun wx hwx => num27_any (argErr (Flag.ok y)) wx) ?_; clear hA ac; intro ac hA
                                                  refine sq_rd (v := Value.int .i64 (((0) : Int) + (argErr (Flag.ok y)))) hA (by kernel_rfl) (by kernel_rfl) (by kernel_rfl) (Rd.pureE (v0 := Value.int .i64 (IntKind.i64.wrap (((0) : Int) + (argErr (Flag.ok y))))) (fun _ => by kernel_rfl) (congrArg (Value.int .i64) ((w_i64 (x := ((0) : Int) + (argErr (Flag.ok y))) (by omega) (by omega)).trans (by omega)))) ?_; clear hA ac; intro ac hA
                                                  refine sq_rd (v := Value.bool ((((0) : Int) + (argErr (Flag.ok y)) : Int) != (0 : Int))) hA (by kernel_rfl) (by kernel_rfl) (by kernel_rfl) (Rd.pure fun _ => by kernel_rfl) ?_; clear hA ac; intro ac hA
                                                  refine sq_rd (v := Value.bool ((((0) : Int) + (argErr (Flag.ok y)) : Int) != (0 : Int))) hA (by kernel_rfl) (by kernel_rfl) (by kernel_rfl) (Rd.pure fun _ => by kernel_rfl) ?_; clear hA ac; intro ac hA
                                                  refine sq_rd (v := Value.bool ((((0) : Int) + (argErr (Flag.ok y)) : Int) != (0 : Int))) hA (by kernel_rfl) (by kernel_rfl) (by kernel_rfl) (Rd.pure fun _ => by kernel_rfl) ?_; clear hA ac; intro ac hA
                                                  rcases Bool.eq_false_or_eq_true ((((0) : Int) + (argErr (Flag.ok y)) : Int) != (0 : Int)) with h48 | h48
                                                  · skip
                                                    rw [h48] at hA
                                                    have h48 := bne_iff_ne.1 h48
                                                    first
                                                    | (exfalso; clear hA hW; omega)
                                                    | (exfalso; clear hA hW; rw [hb0] at h48; exact absurd rfl h48; done)
                                                    | (exfalso; clear hA hW; rw [h25] at h48; exact absurd rfl h48; done)
                                                    | (exfalso; clear hA hW; rw [h25] at h48; cases h48; done)
                                                    | (exfalso; clear hA hW; exact absurd hr2.symm h48; done)
                                                    | (
                                                        refine sq_skip hA (by kernel_rfl) (by kernel_rfl) ?_; clear hA ac; intro ac hA
                                                        refine sq_skip hA (by kernel_rfl) (by kernel_rfl) ?_; clear hA ac; intro ac hA
                                                        refine sq_skip hA (by kernel_rfl) (by kernel_rfl) ?_; clear hA ac; intro ac hA
                                                        refine sq_skip hA (by kernel_rfl) (by kernel_rfl) ?_; clear hA ac; intro ac hA
                                                        refine sq_skip hA (by kernel_rfl) (by kernel_rfl) ?_; clear hA ac; intro ac hA
                                                        refine sq_skip hA (by kernel_rfl) (by kernel_rfl) ?_; clear hA ac; intro ac hA
                                                        refine sq_skip hA (by kernel_rfl) (by kernel_rfl) ?_; clear hA ac; intro ac hA
                                                        refine sq_skip hA (by kernel_rfl) (by kernel_rfl) ?_; clear hA ac; intro ac hA
                                                        refine sq_skip hA (by kernel_rfl) (by kernel_rfl) ?_; clear hA ac; intro ac hA
                                                        refine sq_skip hA (by kernel_rfl) (by kernel_rfl) ?_; clear hA ac; intro ac hA
                                                        refine sq_skip hA (by kernel_rfl) (by kernel_rfl) ?_; clear hA ac; intro ac hA
                                                        refine sq_skip hA (by kernel_rfl) (by kernel_rfl) ?_; clear hA ac; intro ac hA
                                                        refine sq_skip hA (by kernel_rfl) (by kernel_rfl) ?_; clear hA ac; intro ac hA
                                                        refine sq_skip hA (by kernel_rfl) (by kernel_rfl) ?_; clear hA ac; intro ac hA
                                                        refine sq_skip hA (by kernel_rfl) (by kernel_rfl) ?_; clear hA ac; intro ac hA
                                                        refine sq_skip hA (by kernel_rfl) (by kernel_rfl) ?_; clear hA ac; intro ac hA
                                                        refine sq_skip hA (by kernel_rfl) (by kernel_rfl) ?_; clear hA ac; intro ac hA
                                                        refine sq_skip hA (by kernel_rfl) (by kernel_rfl) ?_; clear hA ac; intro ac hA
                                                        refine sq_skip hA (by kernel_rfl) (by kernel_rfl) ?_; clear hA ac; intro ac hA
                                                        refine sq_rd (v := Value.bool true) hA (by kernel_rfl) (by kernel_rfl) (by kernel_rfl) (Rd.pure fun _ => by kernel_rfl) ?_; clear hA ac; intro ac hA
                                                        refine sq_nil ?_; intro w49 hww49; have hW := hww49.1; have hfw49 := hww49.2; clear hww49
                                                        refine thenN ?_
                                                        refine wp_cond_true (hA.eval (by kernel_rfl)) ?_
                                                        refine wp_seq ?_
                                                        refine wp_region_lit ?_
                                                        refine st_rd (v := Value.bool false) hA (by kernel_rfl) (by kernel_rfl) (by kernel_rfl) hW.cls (Rd.pure fun _ => by kernel_rfl) ?_; clear hA ac; intro ac hA
                                                        refine wpList_nil ?_
                                                        refine thenN ?_
                                                        refine wp_ret ?_
                                                        refine blkR ?_
                                                        refine thenR ?_
                                                        refine thenR ?_
                                                        refine blkR ?_
                                                        refine thenR ?_
                                                        refine ret1 (v := Value.bool false) (by rfl) hA (Got.tmp hA (by kernel_rfl) (by kernel_rfl)) ?_
                                                        clear hA
                                                        exact ⟨retv (by rfl), hW.fr⟩)
                                                  · skip
                                                    rw [h48] at hA
                                                    have h48 := of_bne_f h48
                                                    first
                                                    | (exfalso; clear hA hW; omega)
                                                    | (exfalso; clear hA hW; rw [hb0] at h48; exact absurd rfl h48; done)
                                                    | (exfalso; clear hA hW; rw [h25] at h48; exact absurd rfl h48; done)
                                                    | (exfalso; clear hA hW; rw [h25] at h48; cases h48; done)
                                                    | (exfalso; clear hA hW; exact absurd hr2.symm h48; done)
                                                    | (
                                                        refine sq_rd (v := Value.pointer (some ⟨n4, 0, none⟩)) hA (by kernel_rfl) (by kernel_rfl) (by kernel_rfl) (Rd.pure fun _ => by kernel_rfl) ?_; clear hA ac; intro ac hA
                                                        refine sq_rd (v := Value.agg #[Value.int .i64 (m), Value.slice Ao1r16_5 (g0r16_5).length co1r16_5, Value.slice Ao2r16_5 (g1r16_5).length co2r16_5]) hA (by kernel_rfl) (by kernel_rfl) (by kernel_rfl) (Rd.load (b := b16) (i := 0) (by kernel_rfl) (fun _ hw => (hw.1).cel 1 rfl) (by kernel_rfl)) ?_; clear hA ac; intro ac hA
                                                        refine sq_rd (v := Value.slice (some ⟨b26, o27, none⟩) l.length c_l) hA (by kernel_rfl) (by kernel_rfl) (by kernel_rfl) (Rd.pure fun _ => by kernel_rfl) ?_; clear hA ac; intro ac hA
                                                        refine sq_rd (v := Value.int .i64 ((k : Nat) : Int)) hA (by kernel_rfl) (by kernel_rfl) (by kernel_rfl) (Rd.pure fun _ => by kernel_rfl) ?_; clear hA ac; intro ac hA
                                                        refine sq_rd (v := Value.pointer (some ⟨b26, o27 + k * 10, none⟩)) hA (by kernel_rfl) (by kernel_rfl) (by kernel_rfl) (Rd.indexAddr (e := 43) (sz := 10) (b := b26) (off := o27) (n := l.length) (c := c_l) (k := k) (by kernel_rfl) (by kernel_rfl) (by first | omega | (simp; done) | (simp; omega)) (fun _ => by kernel_rfl) (fun _ => by kernel_rfl)) ?_; clear hA ac; intro ac hA
                                                        refine sq_rd (v := Value.pointer (some ⟨b26, o27 + k * 10 + 2, none⟩)) hA (by kernel_rfl) (by kernel_rfl) (by kernel_rfl) (Rd.pure fun _ => by kernel_rfl) ?_; clear hA ac; intro ac hA
                                                        refine sq_rd (v := Value.pointer (some ⟨b26, o27 + k * 10 + 2 + 1, none⟩)) hA (by kernel_rfl) (by kernel_rfl) (by kernel_rfl) (Rd.pure fun _ => by kernel_rfl) ?_; clear hA ac; intro ac hA
                                                        refine sq_rd (v := Value.agg #[Value.int .i64 y.e.s.f, Value.int .i64 y.e.s.pc]) hA (by kernel_rfl) (by kernel_rfl) (by kernel_rfl) (Rd.loadRow (b := b26) (i := o27 + k * 10 + 2 + 1) (xs := [Value.int .i64 y.e.s.f, Value.int .i64 y.e.s.pc]) (by kernel_rfl) (fun _ hw => row_ld ((hw.1).getG 4 rfl) hy (Fr.refl No _) (fun h => h) 3 2 (by kernel_rfl)) (by kernel_rfl)) ?_; clear hA ac; intro ac hA
                                                        refine sq_rd (v := Value.slice (some ⟨b26, o27, none⟩) l.length c_l) hA (by kernel_rfl) (by kernel_rfl) (by kernel_rfl) (Rd.pure fun _ => by kernel_rfl) ?_; clear hA ac; intro ac hA
                                                        refine sq_rd (v := Value.int .i64 ((k : Nat) : Int)) hA (by kernel_rfl) (by kernel_rfl) (by kernel_rfl) (Rd.pure fun _ => by kernel_rfl) ?_; clear hA ac; intro ac hA
                                                        refine sq_rd (v := Value.pointer (some ⟨b26, o27 + k * 10, none⟩)) hA (by kernel_rfl) (by kernel_rfl) (by kernel_rfl) (Rd.indexAddr (e := 43) (sz := 10) (b := b26) (off := o27) (n := l.length) (c := c_l) (k := k) (by kernel_rfl) (by kernel_rfl) (by first | omega | (simp; done) | (simp; omega)) (fun _ => by kernel_rfl) (fun _ => by kernel_rfl)) ?_; clear hA ac; intro ac hA
                                                        refine sq_rd (v := Value.pointer (some ⟨b26, o27 + k * 10 + 6, none⟩)) hA (by kernel_rfl) (by kernel_rfl) (by kernel_rfl) (Rd.pure fun _ => by kernel_rfl) ?_; clear hA ac; intro ac hA
                                                        refine sq_rd (v := Value.pointer (some ⟨b26, o27 + k * 10 + 6 + 1, none⟩)) hA (by kernel_rfl) (by kernel_rfl) (by kernel_rfl) (Rd.pure fun _ => by kernel_rfl) ?_; clear hA ac; intro ac hA
                                                        refine sq_rd (v := Value.agg #[Value.int .i64 y.l.s.f, Value.int .i64 y.l.s.pc]) hA (by kernel_rfl) (by kernel_rfl) (by kernel_rfl) (Rd.loadRow (b := b26) (i := o27 + k * 10 + 6 + 1) (xs := [Value.int .i64 y.l.s.f, Value.int .i64 y.l.s.pc]) (by kernel_rfl) (fun _ hw => row_ld ((hw.1).getG 4 rfl) hy (Fr.refl No _) (fun h => h) 7 2 (by kernel_rfl)) (by kernel_rfl)) ?_; clear hA ac; intro ac hA
                                                        refine sq_rd (v := Value.agg #[Value.int .i64 y.e.s.f, Value.int .i64 y.e.s.pc, Value.int .i64 y.l.s.f, Value.int .i64 y.l.s.pc]) hA (by kernel_rfl) (by kernel_rfl) (by kernel_rfl) (Rd.pure fun _ => by kernel_rfl) ?_; clear hA ac; intro ac hA
                                                        refine sq_rd (v := Value.int .i64 ((k : Nat) : Int)) hA (by kernel_rfl) (by kernel_rfl) (by kernel_rfl) (Rd.pure fun _ => by kernel_rfl) ?_; clear hA ac; intro ac hA
                                                        refine sq_rd (v := Value.int .i64 ((k % 4 : Nat) : Int)) hA (by kernel_rfl) (by kernel_rfl) (by kernel_rfl) (Rd.pureE (v0 := Value.int .i64 (Int.tmod (((k : Nat) : Int) : Int) 4)) (fun _ => by kernel_rfl) (congrArg (Value.int .i64) (rem_ (x := ((k : Nat) : Int)) (by omega)))) ?_; clear hA ac; intro ac hA
                                                        refine sq_call (v := Value.bool true) hA (by kernel_rfl) (by kernel_rfl) (by kernel_rfl) (fun _ => by kernel_rfl) (Cls.callNC fun wx hwx => e_is27 n4 n5 n6 u29 u30 (Tab.take T y).1 ((m)) Ao1r16_5 co1r16_5 g0r16_5 Ao2r16_5 co2r16_5 g1r16_5 (⟨y.e.s, y.l.s⟩ : Pair) (((k % 4 : Nat) : Int)) wx ((hwx.1).get 2 rfl) ((hwx.1).lt _ (List.mem_of_getElem? (i := 2) rfl)) ((hwx.1).getG 1 rfl) (by first | assumption | omega | (simp; omega) | simp) ((hwx.1).getG 0 rfl) (by first | assumption | omega | (simp; omega) | simp) (by first | omega | assumption | simp) (by first | omega | assumption | simp) (by first | omega | assumption | simp) (by first | omega | assumption | simp)) ?_; clear hA ac; intro ac hA
                                                        refine sq_rd (v := Value.bool false) hA (by kernel_rfl) (by kernel_rfl) (by kernel_rfl) (Rd.pure fun _ => by kernel_rfl) ?_; clear hA ac; intro ac hA
                                                        refine sq_rd (v := Value.bool false) hA (by kernel_rfl) (by kernel_rfl) (by kernel_rfl) (Rd.pure fun _ => by kernel_rfl) ?_; clear hA ac; intro ac hA
                                                        refine sq_nil ?_; intro w50 hww50; have hW := hww50.1; have hfw50 := hww50.2; clear hww50
                                                        refine thenN ?_
                                                        refine wp_cond_false (hA.eval (by kernel_rfl)) ?_
                                                        refine wp_skip ?_
                                                        refine blkN ?_
                                                        refine thenN ?_
                                                        refine wp_region_lit ?_
                                                        refine st_rd (v := Value.int .i64 ((k : Nat) : Int)) hA (by kernel_rfl) (by kernel_rfl) (by kernel_rfl) hW.cls (Rd.pure fun _ => by kernel_rfl) ?_; clear hA ac; intro ac hA
                                                        refine st_rd (v := Value.int .i64 ((k + 1 : Nat) : Int)) hA (by kernel_rfl) (by kernel_rfl) (by kernel_rfl) hW.cls (Rd.pureE (v0 := Value.int .i64 (IntKind.i64.wrap ((((k : Nat) : Int) : Int) + 1))) (fun _ => by kernel_rfl) (congrArg (Value.int .i64) ((w_i64 (x := (((k : Nat) : Int) : Int) + 1) (by omega) (by omega)).trans (by omega)))) ?_; clear hA ac; intro ac hA
                                                        refine st_rd (v := Value.int .i64 ((k + 1 : Nat) : Int)) hA (by kernel_rfl) (by kernel_rfl) (by kernel_rfl) hW.cls (Rd.pure fun _ => by kernel_rfl) ?_; clear hA ac; intro ac hA
                                                        refine wpList_nil ?_
                                                        refine thenN ?_
                                                        exact ⟨l.length - (k + 1), by omega, k + 1, u29, u30, (Tab.take T y).1, (m), g0r16_5, g1r16_5, Ao1r16_5, co1r16_5, Ao2r16_5, co2r16_5, rfl, by omega, by exact runs_step hT hy h25, by exact hG2, by omega, by omega, by exact hcco1r16_5, by exact hcco2r16_5, hA.sub ⟨⟨by kernel_rfl, by kernel_rfl⟩, ⟨by kernel_rfl, by kernel_rfl⟩, ⟨by kernel_rfl, by kernel_rfl⟩, ⟨by kernel_rfl, by kernel_rfl⟩, ⟨by kernel_rfl, by kernel_rfl⟩, trivial⟩, (hW.pick [1, 2] (by decide) rfl).pickG [1, 0, 4] rfl⟩))))
                                · skip
                                  first
                                  | (exfalso; clear hA hW; omega)
                                  | (exfalso; clear hA hW; rw [hb0] at h25; exact absurd rfl h25; done)
                                  | (exfalso; clear hA hW; rw [h25] at h25; exact absurd rfl h25; done)
                                  | (exfalso; clear hA hW; rw [h25] at h25; cases h25; done)
                                  | (
                                      refine wp_region_lit ?_
                                      refine st_rd (v := Value.pointer (some ⟨n4, 0, none⟩)) hA (by kernel_rfl) (by kernel_rfl) (by kernel_rfl) hW.cls (Rd.pure fun _ => by kernel_rfl) ?_; clear hA ac; intro ac hA
                                      refine st_rd (v := Value.slice A_l l.length c_l) hA (by kernel_rfl) (by kernel_rfl) (by kernel_rfl) hW.cls (Rd.pure fun _ => by kernel_rfl) ?_; clear hA ac; intro ac hA
                                      refine st_rd (v := Value.int .i64 ((k : Nat) : Int)) hA (by kernel_rfl) (by kernel_rfl) (by kernel_rfl) hW.cls (Rd.pure fun _ => by kernel_rfl) ?_; clear hA ac; intro ac hA
                                      obtain ⟨b51, o52, rfl, hbb51⟩ := row_some ((hW).getG 2 rfl) hy
                                      refine st_rd (v := Value.pointer (some ⟨b51, o52 + k * 10, none⟩)) hA (by kernel_rfl) (by kernel_rfl) (by kernel_rfl) hW.cls (Rd.indexAddr (e := 43) (sz := 10) (b := b51) (off := o52) (n := l.length) (c := c_l) (k := k) (by kernel_rfl) (by kernel_rfl) (by first | omega | (simp; done) | (simp; omega)) (fun _ => by kernel_rfl) (fun _ => by kernel_rfl)) ?_; clear hA ac; intro ac hA
                                      refine st_rd (v := Value.agg #[Value.int .i64 y.at_, Value.int .u32 y.addr, Value.int .i64 y.e.g, Value.int .i64 y.e.s.f, Value.int .i64 y.e.s.pc, Value.int .i64 y.e.k, Value.int .i64 y.l.g, Value.int .i64 y.l.s.f, Value.int .i64 y.l.s.pc, Value.int .i64 y.l.k]) hA (by kernel_rfl) (by kernel_rfl) (by kernel_rfl) hW.cls (Rd.loadRow (b := b51) (i := o52 + k * 10) (xs := [Value.int .i64 y.at_, Value.int .u32 y.addr, Value.int .i64 y.e.g, Value.int .i64 y.e.s.f, Value.int .i64 y.e.s.pc, Value.int .i64 y.e.k, Value.int .i64 y.l.g, Value.int .i64 y.l.s.f, Value.int .i64 y.l.s.pc, Value.int .i64 y.l.k]) (by kernel_rfl) (fun _ hw => row_ld ((hw.1).getG 2 rfl) hy (Fr.refl No _) (fun h => h) 0 10 (by kernel_rfl)) (by kernel_rfl)) ?_; clear hA ac; intro ac hA
                                      refine st hA (by kernel_rfl) (by kernel_rfl) (by kernel_rfl) (Runs.callN (v := Value.tuple #[Value.bool false, Value.int .i64 2]) (fun _ => by kernel_rfl) hW (Take_no w23 0 n4 n5 n6 _ T (TabR.tx ((hW).get 1 rfl)) y h25) ?_); clear hA ac hW; intro w53 hW hfw53 ac hA
                                      refine st_rd (v := Value.tuple #[Value.bool false, Value.int .i64 2]) hA (by kernel_rfl) (by kernel_rfl) (by kernel_rfl) hW.cls (Rd.pure fun _ => by kernel_rfl) ?_; clear hA ac; intro ac hA
                                      refine st_rd (v := Value.bool false) hA (by kernel_rfl) (by kernel_rfl) (by kernel_rfl) hW.cls (Rd.pure fun _ => by kernel_rfl) ?_; clear hA ac; intro ac hA
                                      refine st_rd (v := Value.int .i64 2) hA (by kernel_rfl) (by kernel_rfl) (by kernel_rfl) hW.cls (Rd.pure fun _ => by kernel_rfl) ?_; clear hA ac; intro ac hA
                                      refine st_rd (v := Value.bool false) hA (by kernel_rfl) (by kernel_rfl) (by kernel_rfl) hW.cls (Rd.pure fun _ => by kernel_rfl) ?_; clear hA ac; intro ac hA
                                      refine st_rd (v := Value.int .i64 2) hA (by kernel_rfl) (by kernel_rfl) (by kernel_rfl) hW.cls (Rd.pure fun _ => by kernel_rfl) ?_; clear hA ac; intro ac hA
                                      refine wpList_nil ?_
                                      refine thenN ?_
                                      refine wp_seq ?_
                                      refine wp_seq ?_
                                      refine wp_region_lit ?_
                                      refine st_rd (v := Value.slice (some ⟨b51, o52, none⟩) l.length c_l) hA (by kernel_rfl) (by kernel_rfl) (by kernel_rfl) hW.cls (Rd.pure fun _ => by kernel_rfl) ?_; clear hA ac; intro ac hA
                                      refine st_rd (v := Value.int .i64 ((k : Nat) : Int)) hA (by kernel_rfl) (by kernel_rfl) (by kernel_rfl) hW.cls (Rd.pure fun _ => by kernel_rfl) ?_; clear hA ac; intro ac hA
                                      refine st_rd (v := Value.pointer (some ⟨b51, o52 + k * 10, none⟩)) hA (by kernel_rfl) (by kernel_rfl) (by kernel_rfl) hW.cls (Rd.indexAddr (e := 43) (sz := 10) (b := b51) (off := o52) (n := l.length) (c := c_l) (k := k) (by kernel_rfl) (by kernel_rfl) (by first | omega | (simp; done) | (simp; omega)) (fun _ => by kernel_rfl) (fun _ => by kernel_rfl)) ?_; clear hA ac; intro ac hA
                                      refine st_rd (v := Value.agg #[Value.int .i64 y.at_, Value.int .u32 y.addr, Value.int .i64 y.e.g, Value.int .i64 y.e.s.f, Value.int .i64 y.e.s.pc, Value.int .i64 y.e.k, Value.int .i64 y.l.g, Value.int .i64 y.l.s.f, Value.int .i64 y.l.s.pc, Value.int .i64 y.l.k]) hA (by kernel_rfl) (by kernel_rfl) (by kernel_rfl) hW.cls (Rd.loadRow (b := b51) (i := o52 + k * 10) (xs := [Value.int .i64 y.at_, Value.int .u32 y.addr, Value.int .i64 y.e.g, Value.int .i64 y.e.s.f, Value.int .i64 y.e.s.pc, Value.int .i64 y.e.k, Value.int .i64 y.l.g, Value.int .i64 y.l.s.f, Value.int .i64 y.l.s.pc, Value.int .i64 y.l.k]) (by kernel_rfl) (fun _ hw => row_ld ((hw.1).getG 2 rfl) hy (Fr.refl No _) (fun h => h) 0 10 (by kernel_rfl)) (by kernel_rfl)) ?_; clear hA ac; intro ac hA
                                      refine st hA (by kernel_rfl) (by kernel_rfl) (by kernel_rfl) (Runs.callN (v := Value.bool (Flag.ok y)) (fun _ => by kernel_rfl) hW (e_right27 y w53) ?_); clear hA ac hW; intro w54 hW hfw54 ac hA
                                      refine st_rd (v := Value.bool (!(Flag.ok y))) hA (by kernel_rfl) (by kernel_rfl) (by kernel_rfl) hW.cls (Rd.pure fun _ => by kernel_rfl) ?_; clear hA ac; intro ac hA
                                      refine wpList_nil ?_
                                      refine thenN ?_
                                      refine wp_cond_split (t := !(Flag.ok y)) (hA.eval (by kernel_rfl)) (fun h55 => ?_) (fun h55 => ?_)
                                      · skip
                                        have h55 := not_t h55
                                        first
                                        | (exfalso; clear hA hW; omega)
                                        | (exfalso; clear hA hW; rw [hb0] at h55; exact absurd rfl h55; done)
                                        | (exfalso; clear hA hW; rw [h25] at h55; exact absurd rfl h55; done)
                                        | (exfalso; clear hA hW; rw [h25] at h55; cases h55; done)
                                        | (
                                            refine wp_seq ?_
                                            refine wp_seq ?_
                                            refine wp_region_lit ?_
                                            refine st_rd (v := Value.bool false) hA (by kernel_rfl) (by kernel_rfl) (by kernel_rfl) hW.cls (Rd.pure fun _ => by kernel_rfl) ?_; clear hA ac; intro ac hA
                                            refine st_rd (v := Value.bool false) hA (by kernel_rfl) (by kernel_rfl) (by kernel_rfl) hW.cls (Rd.pure fun _ => by kernel_rfl) ?_; clear hA ac; intro ac hA
                                            refine st_rd (v := Value.int .i64 2) hA (by kernel_rfl) (by kernel_rfl) (by kernel_rfl) hW.cls (Rd.pure fun _ => by kernel_rfl) ?_; clear hA ac; intro ac hA
                                            refine st hA (by kernel_rfl) (by kernel_rfl) (by kernel_rfl) (Runs.callS (v := Value.int .i64 (2)) (fun _ => by kernel_rfl) (num27_any (2) w54) ?_); clear hA ac; intro  ac hA
                                            refine st_rd (v := Value.bool (((2) : Int) != (2 : Int))) hA (by kernel_rfl) (by kernel_rfl) (by kernel_rfl) hW.cls (Rd.pure fun _ => by kernel_rfl) ?_; clear hA ac; intro ac hA
                                            refine st_rd (v := Value.bool (((2) : Int) != (2 : Int))) hA (by kernel_rfl) (by kernel_rfl) (by kernel_rfl) hW.cls (Rd.pure fun _ => by kernel_rfl) ?_; clear hA ac; intro ac hA
                                            refine st_rd (v := Value.bool (((2) : Int) != (2 : Int))) hA (by kernel_rfl) (by kernel_rfl) (by kernel_rfl) hW.cls (Rd.pure fun _ => by kernel_rfl) ?_; clear hA ac; intro ac hA
                                            rcases Bool.eq_false_or_eq_true (((2) : Int) != (2 : Int)) with h56 | h56
                                            · skip
                                              rw [h56] at hA
                                              have h56 := bne_iff_ne.1 h56
                                              first
                                              | (exfalso; clear hA hW; omega)
                                              | (exfalso; clear hA hW; rw [hb0] at h56; exact absurd rfl h56; done)
                                              | (exfalso; clear hA hW; rw [h25] at h56; exact absurd rfl h56; done)
                                              | (exfalso; clear hA hW; rw [h25] at h56; cases h56; done)
                                              | (
                                                  refine st_skip hA (by kernel_rfl) (by kernel_rfl) ?_; clear hA ac; intro ac hA
                                                  refine st_skip hA (by kernel_rfl) (by kernel_rfl) ?_; clear hA ac; intro ac hA
                                                  refine st_skip hA (by kernel_rfl) (by kernel_rfl) ?_; clear hA ac; intro ac hA
                                                  refine st_skip hA (by kernel_rfl) (by kernel_rfl) ?_; clear hA ac; intro ac hA
                                                  refine st_skip hA (by kernel_rfl) (by kernel_rfl) ?_; clear hA ac; intro ac hA
                                                  refine st_skip hA (by kernel_rfl) (by kernel_rfl) ?_; clear hA ac; intro ac hA
                                                  refine st_skip hA (by kernel_rfl) (by kernel_rfl) ?_; clear hA ac; intro ac hA
                                                  refine st_rd (v := Value.bool true) hA (by kernel_rfl) (by kernel_rfl) (by kernel_rfl) hW.cls (Rd.pure fun _ => by kernel_rfl) ?_; clear hA ac; intro ac hA
                                                  refine wpList_nil ?_
                                                  refine thenN ?_
                                                  refine wp_cond_true (hA.eval (by kernel_rfl)) ?_
                                                  refine wp_seq ?_
                                                  refine wp_region_lit ?_
                                                  refine st_rd (v := Value.bool false) hA (by kernel_rfl) (by kernel_rfl) (by kernel_rfl) hW.cls (Rd.pure fun _ => by kernel_rfl) ?_; clear hA ac; intro ac hA
                                                  refine wpList_nil ?_
                                                  refine thenN ?_
                                                  refine wp_ret ?_
                                                  refine thenR ?_
                                                  refine thenR ?_
                                                  refine blkR ?_
                                                  refine thenR ?_
                                                  refine thenR ?_
                                                  refine blkR ?_
                                                  refine thenR ?_
                                                  refine ret1 (v := Value.bool false) (by rfl) hA (Got.tmp hA (by kernel_rfl) (by kernel_rfl)) ?_
                                                  clear hA
                                                  exact ⟨retv (by rfl), hW.fr⟩)
                                            · skip
                                              rw [h56] at hA
                                              have h56 := of_bne_f h56
                                              first
                                              | (exfalso; clear hA hW; omega)
                                              | (exfalso; clear hA hW; rw [hb0] at h56; exact absurd rfl h56; done)
                                              | (exfalso; clear hA hW; rw [h25] at h56; exact absurd rfl h56; done)
                                              | (exfalso; clear hA hW; rw [h25] at h56; cases h56; done)
                                              | (
                                                  refine st_rd (v := Value.slice (some ⟨b51, o52, none⟩) l.length c_l) hA (by kernel_rfl) (by kernel_rfl) (by kernel_rfl) hW.cls (Rd.pure fun _ => by kernel_rfl) ?_; clear hA ac; intro ac hA
                                                  refine st_rd (v := Value.int .i64 ((k : Nat) : Int)) hA (by kernel_rfl) (by kernel_rfl) (by kernel_rfl) hW.cls (Rd.pure fun _ => by kernel_rfl) ?_; clear hA ac; intro ac hA
                                                  refine st_rd (v := Value.pointer (some ⟨b51, o52 + k * 10, none⟩)) hA (by kernel_rfl) (by kernel_rfl) (by kernel_rfl) hW.cls (Rd.indexAddr (e := 43) (sz := 10) (b := b51) (off := o52) (n := l.length) (c := c_l) (k := k) (by kernel_rfl) (by kernel_rfl) (by first | omega | (simp; done) | (simp; omega)) (fun _ => by kernel_rfl) (fun _ => by kernel_rfl)) ?_; clear hA ac; intro ac hA
                                                  refine st_rd (v := Value.agg #[Value.int .i64 y.at_, Value.int .u32 y.addr, Value.int .i64 y.e.g, Value.int .i64 y.e.s.f, Value.int .i64 y.e.s.pc, Value.int .i64 y.e.k, Value.int .i64 y.l.g, Value.int .i64 y.l.s.f, Value.int .i64 y.l.s.pc, Value.int .i64 y.l.k]) hA (by kernel_rfl) (by kernel_rfl) (by kernel_rfl) hW.cls (Rd.loadRow (b := b51) (i := o52 + k * 10) (xs := [Value.int .i64 y.at_, Value.int .u32 y.addr, Value.int .i64 y.e.g, Value.int .i64 y.e.s.f, Value.int .i64 y.e.s.pc, Value.int .i64 y.e.k, Value.int .i64 y.l.g, Value.int .i64 y.l.s.f, Value.int .i64 y.l.s.pc, Value.int .i64 y.l.k]) (by kernel_rfl) (fun _ hw => row_ld ((hw.1).getG 2 rfl) hy (Fr.refl No _) (fun h => h) 0 10 (by kernel_rfl)) (by kernel_rfl)) ?_; clear hA ac; intro ac hA
                                                  refine st hA (by kernel_rfl) (by kernel_rfl) (by kernel_rfl) (Runs.callN (v := Value.int .i64 (argErr (Flag.ok y))) (fun _ => by kernel_rfl) hW (fcheck_any y w54) ?_); clear hA ac hW; intro w57 hW hfw57 ac hA
                                                  refine st hA (by kernel_rfl) (by kernel_rfl) (by kernel_rfl) (Runs.callS (v := Value.int .i64 (argErr (Flag.ok y))) (fun _ => by kernel_rfl) (num27_any (argErr (Flag.ok y)) w57) ?_); clear hA ac; intro  ac hA
                                                  refine st_rd (v := Value.bool (((argErr (Flag.ok y)) : Int) != (2 : Int))) hA (by kernel_rfl) (by kernel_rfl) (by kernel_rfl) hW.cls (Rd.pure fun _ => by kernel_rfl) ?_; clear hA ac; intro ac hA
                                                  refine st_rd (v := Value.bool (((argErr (Flag.ok y)) : Int) != (2 : Int))) hA (by kernel_rfl) (by kernel_rfl) (by kernel_rfl) hW.cls (Rd.pure fun _ => by kernel_rfl) ?_; clear hA ac; intro ac hA
                                                  refine wpList_nil ?_
                                                  refine thenN ?_
                                                  refine wp_cond_split (t := ((argErr (Flag.ok y)) : Int) != (2 : Int)) (hA.eval (by kernel_rfl)) (fun h58 => ?_) (fun h58 => ?_)
                                                  · skip
                                                    have h58 := bne_iff_ne.1 h58
                                                    first
                                                    | (exfalso; clear hA hW; omega)
                                                    | (exfalso; clear hA hW; rw [hb0] at h58; exact absurd rfl h58; done)
                                                    | (exfalso; clear hA hW; rw [h25] at h58; exact absurd rfl h58; done)
                                                    | (exfalso; clear hA hW; rw [h25] at h58; cases h58; done)
                                                    | (
                                                        refine wp_seq ?_
                                                        refine wp_region_lit ?_
                                                        refine st_rd (v := Value.bool false) hA (by kernel_rfl) (by kernel_rfl) (by kernel_rfl) hW.cls (Rd.pure fun _ => by kernel_rfl) ?_; clear hA ac; intro ac hA
                                                        refine wpList_nil ?_
                                                        refine thenN ?_
                                                        refine wp_ret ?_
                                                        refine thenR ?_
                                                        refine thenR ?_
                                                        refine blkR ?_
                                                        refine thenR ?_
                                                        refine thenR ?_
                                                        refine blkR ?_
                                                        refine thenR ?_
                                                        refine ret1 (v := Value.bool false) (by rfl) hA (Got.tmp hA (by kernel_rfl) (by kernel_rfl)) ?_
                                                        clear hA
                                                        exact ⟨retv (by rfl), hW.fr⟩)
                                                  · skip
                                                    have h58 := of_bne_f h58
                                                    first
                                                    | (exfalso; clear hA hW; omega)
                                                    | (exfalso; clear hA hW; rw [hb0] at h58; exact absurd rfl h58; done)
                                                    | (exfalso; clear hA hW; rw [h25] at h58; exact absurd rfl h58; done)
                                                    | (exfalso; clear hA hW; rw [h25] at h58; cases h58; done)
                                                    | (
                                                        refine wp_skip ?_
                                                        refine thenN ?_
                                                        refine wp_exit ?_
                                                        refine thenX ?_
                                                        refine blkX ?_
                                                        refine thenN ?_
                                                        refine wp_region_lit ?_
                                                        refine st_rd (v := Value.int .i64 ((k : Nat) : Int)) hA (by kernel_rfl) (by kernel_rfl) (by kernel_rfl) hW.cls (Rd.pure fun _ => by kernel_rfl) ?_; clear hA ac; intro ac hA
                                                        refine st_rd (v := Value.int .i64 ((k + 1 : Nat) : Int)) hA (by kernel_rfl) (by kernel_rfl) (by kernel_rfl) hW.cls (Rd.pureE (v0 := Value.int .i64 (IntKind.i64.wrap ((((k : Nat) : Int) : Int) + 1))) (fun _ => by kernel_rfl) (congrArg (Value.int .i64) ((w_i64 (x := (((k : Nat) : Int) : Int) + 1) (by omega) (by omega)).trans (by omega)))) ?_; clear hA ac; intro ac hA
                                                        refine st_rd (v := Value.int .i64 ((k + 1 : Nat) : Int)) hA (by kernel_rfl) (by kernel_rfl) (by kernel_rfl) hW.cls (Rd.pure fun _ => by kernel_rfl) ?_; clear hA ac; intro ac hA
                                                        refine wpList_nil ?_
                                                        refine thenN ?_
                                                        exact ⟨l.length - (k + 1), by omega, k + 1, A, c, T, m, Lk, Pk, A1, c1, A2, c2, rfl, by omega, by exact runs_skip hT hy h25, by exact hG, by omega, by omega, by exact hcc1, by exact hcc2, hA.sub ⟨⟨by kernel_rfl, by kernel_rfl⟩, ⟨by kernel_rfl, by kernel_rfl⟩, ⟨by kernel_rfl, by kernel_rfl⟩, ⟨by kernel_rfl, by kernel_rfl⟩, ⟨by kernel_rfl, by kernel_rfl⟩, trivial⟩, (hW.pick [0, 1] (by decide) rfl).pickG [0, 1, 2] rfl⟩)))
                                      · skip
                                        have h55 := not_f h55
                                        first
                                        | (exfalso; clear hA hW; omega)
                                        | (exfalso; clear hA hW; rw [hb0] at h55; exact absurd rfl h55; done)
                                        | (exfalso; clear hA hW; rw [h25] at h55; exact absurd rfl h55; done)
                                        | (exfalso; clear hA hW; rw [h25] at h55; cases h55; done)
                                        | (
                                            refine wp_skip ?_
                                            refine thenN ?_
                                            refine wp_seq ?_
                                            refine wp_cut (fun ac_ wl_ => ∃ Ao1r16_5 : Option Addr, ∃ Ao2r16_5 : Option Addr, ∃ br16_9 : Nat, ∃ co1r16_5 : Nat, ∃ co2r16_5 : Nat, ∃ g0r16_5 : List Flag, ∃ g1r16_5 : List Pair, ∃ g2r16_5 : Bool, ((g0r16_5).length ≤ co1r16_5) ∧ ((g1r16_5).length ≤ co2r16_5) ∧ (RT.Takes ⟨(m), Lk, Pk⟩ y ⟨(m), g0r16_5, g1r16_5⟩ g2r16_5) ∧ Fm 131 [] [(0, Value.int .i64 most), (1, Value.slice (some ⟨b51, o52, none⟩) l.length c_l), (5, Value.pointer (some ⟨n4, 0, none⟩)), (7, Value.pointer (some ⟨b16, 0, none⟩)), (9, Value.int .i64 ((k : Nat) : Int)), (10, Value.bool false), (11, Value.int .i64 2), (12, Value.pointer (some ⟨br16_9, 0, none⟩)), (13, Value.bool g2r16_5), (42, Value.int .i64 ((k : Nat) : Int)), (43, Value.slice (some ⟨b51, o52, none⟩) l.length c_l), (44, Value.int .i64 ((l.length : Nat) : Int)), (45, Value.bool (decide ((((k : Nat) : Int) : Int) < (((l.length : Nat) : Int) : Int)))), (48, Value.tuple #[Value.bool false, Value.int .i64 2]), (49, Value.pointer (some ⟨n4, 0, none⟩)), (50, Value.slice (some ⟨b51, o52, none⟩) l.length c_l), (51, Value.int .i64 ((k : Nat) : Int)), (52, Value.pointer (some ⟨b51, o52 + k * 10, none⟩)), (53, Value.agg #[Value.int .i64 y.at_, Value.int .u32 y.addr, Value.int .i64 y.e.g, Value.int .i64 y.e.s.f, Value.int .i64 y.e.s.pc, Value.int .i64 y.e.k, Value.int .i64 y.l.g, Value.int .i64 y.l.s.f, Value.int .i64 y.l.s.pc, Value.int .i64 y.l.k]), (54, Value.tuple #[Value.bool false, Value.int .i64 2]), (55, Value.bool false), (56, Value.int .i64 2), (57, Value.slice (some ⟨b51, o52, none⟩) l.length c_l), (58, Value.int .i64 ((k : Nat) : Int)), (59, Value.pointer (some ⟨b51, o52 + k * 10, none⟩)), (60, Value.agg #[Value.int .i64 y.at_, Value.int .u32 y.addr, Value.int .i64 y.e.g, Value.int .i64 y.e.s.f, Value.int .i64 y.e.s.pc, Value.int .i64 y.e.k, Value.int .i64 y.l.g, Value.int .i64 y.l.s.f, Value.int .i64 y.l.s.pc, Value.int .i64 y.l.k]), (61, Value.bool (Flag.ok y)), (62, Value.bool (!(Flag.ok y)))] ac_ ∧ Ws w No [Cel br16_9 #[Value.int .i64 (m), Value.slice Ao1r16_5 (g0r16_5).length co1r16_5, Value.slice Ao2r16_5 (g1r16_5).length co2r16_5] 29, Cel b16 #[Value.int .i64 m, Value.slice A1 Lk.length c1, Value.slice A2 Pk.length c2] 29, TabR n4 n5 n6 A c T] [roR Ao2r16_5 4 enPair g1r16_5, roR Ao1r16_5 10 enFlag g0r16_5, roR A1 10 enFlag Lk, roR A2 4 enPair Pk, roR (some ⟨b51, o52, none⟩) 10 enFlag l] wl_) ?_ ?_
                                            · refine sr_region (m := 12) (C := Ws w No [Cel b16 #[Value.int .i64 m, Value.slice A1 Lk.length c1, Value.slice A2 Pk.length c2] 29, TabR n4 n5 n6 A c T] [roR A1 10 enFlag Lk, roR A2 4 enPair Pk, roR (some ⟨b51, o52, none⟩) 10 enFlag l]) (fun i => [0, 4].contains i) (fun i => [0, 4, 9].contains i) (fun i => [1, 2, 3, 6, 7, 8, 11].contains i) (by kernel_rfl) (by kernel_rfl) (by kernel_rfl) (by kernel_rfl) hW ?_; clear hW; intro w59 hW hfw59 hR; have hC : Ws w No [Cel b16 #[Value.int .i64 m, Value.slice A1 Lk.length c1, Value.slice A2 Pk.length c2] 29, TabR n4 n5 n6 A c T] [roR A1 10 enFlag Lk, roR A2 4 enPair Pk, roR (some ⟨b51, o52, none⟩) 10 enFlag l] w59 := hW.pick [0, 1] (by decide) rfl
                                              refine sr_take (i := 0) (v := Value.agg #[Value.int .i64 m, Value.slice A1 Lk.length c1, Value.slice A2 Pk.length c2]) hR (by kernel_rfl) rfl (by kernel_rfl) (by kernel_rfl) (by kernel_rfl) (fun _ _ _ h => h.elim) hA (by kernel_rfl) (by kernel_rfl) (by kernel_rfl) hC (Rd.load (b := b16) (i := 0) (by kernel_rfl) (fun _ hw => (hw).cel 0 rfl) (by kernel_rfl)) ?_; clear hA ac; intro ac hA
                                              refine sr_pure (i := 1) (v := Value.slice (some ⟨b51, o52, none⟩) l.length c_l) hR (by kernel_rfl) rfl (by kernel_rfl) (by kernel_rfl) (fun _ _ _ h => h.elim) hA (by kernel_rfl) (by kernel_rfl) (by kernel_rfl) (Rd.pure fun _ => by kernel_rfl) ?_; clear hA ac; intro ac hA
                                              refine sr_pure (i := 2) (v := Value.int .i64 ((k : Nat) : Int)) hR (by kernel_rfl) rfl (by kernel_rfl) (by kernel_rfl) (fun _ _ _ h => h.elim) hA (by kernel_rfl) (by kernel_rfl) (by kernel_rfl) (Rd.pure fun _ => by kernel_rfl) ?_; clear hA ac; intro ac hA
                                              refine sr_pure (i := 3) (v := Value.pointer (some ⟨b51, o52 + k * 10, none⟩)) hR (by kernel_rfl) rfl (by kernel_rfl) (by kernel_rfl) (fun _ _ _ h => h.elim) hA (by kernel_rfl) (by kernel_rfl) (by kernel_rfl) (Rd.indexAddr (e := 43) (sz := 10) (b := b51) (off := o52) (n := l.length) (c := c_l) (k := k) (by kernel_rfl) (by kernel_rfl) (by first | omega | (simp; done) | (simp; omega)) (fun _ => by kernel_rfl) (fun _ => by kernel_rfl)) ?_; clear hA ac; intro ac hA
                                              refine sr_take (i := 4) (v := Value.agg #[Value.int .i64 y.at_, Value.int .u32 y.addr, Value.int .i64 y.e.g, Value.int .i64 y.e.s.f, Value.int .i64 y.e.s.pc, Value.int .i64 y.e.k, Value.int .i64 y.l.g, Value.int .i64 y.l.s.f, Value.int .i64 y.l.s.pc, Value.int .i64 y.l.k]) hR (by kernel_rfl) rfl (by kernel_rfl) (by kernel_rfl) (by kernel_rfl) (fun _ _ _ h => h.elim) hA (by kernel_rfl) (by kernel_rfl) (by kernel_rfl) hC (Rd.loadRow (b := b51) (i := o52 + k * 10) (xs := [Value.int .i64 y.at_, Value.int .u32 y.addr, Value.int .i64 y.e.g, Value.int .i64 y.e.s.f, Value.int .i64 y.e.s.pc, Value.int .i64 y.e.k, Value.int .i64 y.l.g, Value.int .i64 y.l.s.f, Value.int .i64 y.l.s.pc, Value.int .i64 y.l.k]) (by kernel_rfl) (fun _ hw => row_ld ((hw).getG 2 rfl) hy (Fr.refl No _) (fun h => h) 0 10 (by kernel_rfl)) (by kernel_rfl)) ?_; clear hA ac; intro ac hA
                                              refine sr_two (i := 5) (j := 9) (by kernel_rfl) ?_ ?_
                                              · skip
                                                refine (sr_do rfl hA (by kernel_rfl) (by kernel_rfl) (by kernel_rfl) (Runs.call (fun _ => by kernel_rfl) (e_take27 (m) A1 c1 Lk A2 c2 Pk y w59 ((hW).getG 0 rfl) (by first | assumption | omega | (simp; omega) | simp) ((hW).getG 1 rfl) (by first | assumption | omega | (simp; omega) | simp) (by first | omega | assumption | simp) (by first | omega | assumption | simp)) ?_))
                                                rintro _ w60 ⟨g0r16_5, g1r16_5, g2r16_5, Ao1r16_5, co1r16_5, Ao2r16_5, co2r16_5, rfl, hr16_5_hT, hcco1r16_5, hcco2r16_5, hfco1r16_5, hfco2r16_5, hfw60⟩; refine ⟨_, rfl, ?_⟩; have hW0 := hW; have hW := hW0.call hfw60
                                                have hW := hW0.addFromAt hW hfco1r16_5 (in_cons (in_at 0 rfl) (in_cons (in_at 1 rfl) in_nil))
                                                have hW := hW0.addFromAt hW hfco2r16_5 (in_cons (in_at 0 rfl) (in_cons (in_at 1 rfl) in_nil))
                                                clear hW0 hA ac; intro ac hA
                                                refine ⟨⟨fun h => absurd h (by decide), fun h => absurd h (by decide)⟩, ?_⟩
                                                refine sr_pure (i := 6) (v := Value.tuple #[Value.agg #[Value.int .i64 (m), Value.slice Ao1r16_5 (g0r16_5).length co1r16_5, Value.slice Ao2r16_5 (g1r16_5).length co2r16_5], Value.bool g2r16_5]) hR (by kernel_rfl) rfl (by kernel_rfl) (by kernel_rfl) (fun _ _ _ h => h.elim) hA (by kernel_rfl) (by kernel_rfl) (by kernel_rfl) (Rd.pure fun _ => by kernel_rfl) ?_; clear hA ac; intro ac hA
                                                refine sr_pure (i := 7) (v := Value.agg #[Value.int .i64 (m), Value.slice Ao1r16_5 (g0r16_5).length co1r16_5, Value.slice Ao2r16_5 (g1r16_5).length co2r16_5]) hR (by kernel_rfl) rfl (by kernel_rfl) (by kernel_rfl) (fun _ _ _ h => h.elim) hA (by kernel_rfl) (by kernel_rfl) (by kernel_rfl) (Rd.pure fun _ => by kernel_rfl) ?_; clear hA ac; intro ac hA
                                                refine sr_pure (i := 8) (v := Value.bool g2r16_5) hR (by kernel_rfl) rfl (by kernel_rfl) (by kernel_rfl) (fun _ _ _ h => h.elim) hA (by kernel_rfl) (by kernel_rfl) (by kernel_rfl) (Rd.pure fun _ => by kernel_rfl) ?_; clear hA ac; intro ac hA
                                                refine sr_one (i := 9) (by kernel_rfl) (sr_do rfl hA (by kernel_rfl) (by kernel_rfl) (by kernel_rfl) (Runs.cells (fun b => Value.pointer (some ⟨b, 0, none⟩)) #[Value.int .i64 0, Value.slice none 0 0, Value.slice none 0 0] 29 (fun _ => by kernel_rfl) hW ?_)); clear hA ac hW; intro br16_9 w61 hW hbr16_9 hfw61 ac hA
                                                refine ⟨⟨fun _ => (hW.pick [1, 2] (by decide) rfl).pickG [2, 3, 4] rfl, fun h => absurd h (by decide)⟩, ?_⟩; have hC : Ws w No [Cel b16 #[Value.int .i64 m, Value.slice A1 Lk.length c1, Value.slice A2 Pk.length c2] 29, TabR n4 n5 n6 A c T] [roR A1 10 enFlag Lk, roR A2 4 enPair Pk, roR (some ⟨b51, o52, none⟩) 10 enFlag l] w61 := (hW.pick [1, 2] (by decide) rfl).pickG [2, 3, 4] rfl
                                                refine sr_one (i := 10) (by kernel_rfl) (sr_do rfl hA (by kernel_rfl) (by kernel_rfl) (by kernel_rfl) (Runs.store (v := Value.agg #[Value.int .i64 (m), Value.slice Ao1r16_5 (g0r16_5).length co1r16_5, Value.slice Ao2r16_5 (g1r16_5).length co2r16_5]) (b := br16_9) (j := 0) (n := 3) (cs' := #[Value.int .i64 (m), Value.slice Ao1r16_5 (g0r16_5).length co1r16_5, Value.slice Ao2r16_5 (g1r16_5).length co2r16_5]) (H' := [Cel br16_9 #[Value.int .i64 (m), Value.slice Ao1r16_5 (g0r16_5).length co1r16_5, Value.slice Ao2r16_5 (g1r16_5).length co2r16_5] 29, Cel b16 #[Value.int .i64 m, Value.slice A1 Lk.length c1, Value.slice A2 Pk.length c2] 29, TabR n4 n5 n6 A c T]) (by kernel_rfl) (by kernel_rfl) (by kernel_rfl) (by kernel_rfl) (by kernel_rfl) hW 0 (by rfl) (Nat.le_of_ble_eq_true (by kernel_rfl)) (by kernel_rfl) (by rfl) ?_)); clear hA ac hW; intro w62 hW ac hA
                                                refine ⟨⟨fun h => absurd h (by decide), fun h => absurd h (by decide)⟩, ?_⟩
                                                refine sr_pure (i := 11) (v := Value.bool g2r16_5) hR (by kernel_rfl) rfl (by kernel_rfl) (by kernel_rfl) (fun _ _ _ h => h.elim) hA (by kernel_rfl) (by kernel_rfl) (by kernel_rfl) (Rd.pure fun _ => by kernel_rfl) ?_; clear hA ac; intro ac hA
                                                refine sr_done (by kernel_rfl) ?_ _
                                                exact ⟨Ao1r16_5, Ao2r16_5, br16_9, co1r16_5, co2r16_5, g0r16_5, g1r16_5, g2r16_5, hcco1r16_5, hcco2r16_5, hr16_5_hT, hA.sub ⟨⟨by kernel_rfl, by kernel_rfl⟩, ⟨by kernel_rfl, by kernel_rfl⟩, ⟨by kernel_rfl, by kernel_rfl⟩, ⟨by kernel_rfl, by kernel_rfl⟩, ⟨by kernel_rfl, by kernel_rfl⟩, ⟨by kernel_rfl, by kernel_rfl⟩, ⟨by kernel_rfl, by kernel_rfl⟩, ⟨by kernel_rfl, by kernel_rfl⟩, ⟨by kernel_rfl, by kernel_rfl⟩, ⟨by kernel_rfl, by kernel_rfl⟩, ⟨by kernel_rfl, by kernel_rfl⟩, ⟨by kernel_rfl, by kernel_rfl⟩, ⟨by kernel_rfl, by kernel_rfl⟩, ⟨by kernel_rfl, by kernel_rfl⟩, ⟨by kernel_rfl, by kernel_rfl⟩, ⟨by kernel_rfl, by kernel_rfl⟩, ⟨by kernel_rfl, by kernel_rfl⟩, ⟨by kernel_rfl, by kernel_rfl⟩, ⟨by kernel_rfl, by kernel_rfl⟩, ⟨by kernel_rfl, by kernel_rfl⟩, ⟨by kernel_rfl, by kernel_rfl⟩, ⟨by kernel_rfl, by kernel_rfl⟩, ⟨by kernel_rfl, by kernel_rfl⟩, ⟨by kernel_rfl, by kernel_rfl⟩, ⟨by kernel_rfl, by kernel_rfl⟩, ⟨by kernel_rfl, by kernel_rfl⟩, ⟨by kernel_rfl, by kernel_rfl⟩, ⟨by kernel_rfl, by kernel_rfl⟩, trivial⟩, (hW.pick [0, 1, 2] (by decide) rfl).pickG [0, 1, 2, 3, 4] rfl⟩
                                              · skip
                                                refine (sr_do rfl hA (by kernel_rfl) (by kernel_rfl) (by kernel_rfl) (Runs.cells (fun b => Value.pointer (some ⟨b, 0, none⟩)) #[Value.int .i64 0, Value.slice none 0 0, Value.slice none 0 0] 29 (fun _ => by kernel_rfl) hW ?_)); clear hA ac hW; intro br16_9 w63 hW hbr16_9 hfw63 ac hA
                                                refine ⟨⟨fun _ => (hW.pick [1, 2] (by decide) rfl).pickG [0, 1, 2] rfl, fun h => absurd h (by decide)⟩, ?_⟩; have hC : Ws w No [Cel b16 #[Value.int .i64 m, Value.slice A1 Lk.length c1, Value.slice A2 Pk.length c2] 29, TabR n4 n5 n6 A c T] [roR A1 10 enFlag Lk, roR A2 4 enPair Pk, roR (some ⟨b51, o52, none⟩) 10 enFlag l] w63 := (hW.pick [1, 2] (by decide) rfl).pickG [0, 1, 2] rfl
                                                refine sr_one (i := 5) (by kernel_rfl) (sr_do rfl hA (by kernel_rfl) (by kernel_rfl) (by kernel_rfl) (Runs.call (fun _ => by kernel_rfl) (e_take27 (m) A1 c1 Lk A2 c2 Pk y w63 ((hW).getG 0 rfl) (by first | assumption | omega | (simp; omega) | simp) ((hW).getG 1 rfl) (by first | assumption | omega | (simp; omega) | simp) (by first | omega | assumption | simp) (by first | omega | assumption | simp)) ?_))
                                                rintro _ w64 ⟨g0r16_5, g1r16_5, g2r16_5, Ao1r16_5, co1r16_5, Ao2r16_5, co2r16_5, rfl, hr16_5_hT, hcco1r16_5, hcco2r16_5, hfco1r16_5, hfco2r16_5, hfw64⟩; refine ⟨_, rfl, ?_⟩; have hW0 := hW; have hW := hW0.call hfw64
                                                have hW := hW0.addFromAt hW hfco1r16_5 (in_cons (in_at 0 rfl) (in_cons (in_at 1 rfl) in_nil))
                                                have hW := hW0.addFromAt hW hfco2r16_5 (in_cons (in_at 0 rfl) (in_cons (in_at 1 rfl) in_nil))
                                                clear hW0 hA ac; intro ac hA
                                                refine ⟨⟨fun h => absurd h (by decide), fun h => absurd h (by decide)⟩, ?_⟩
                                                refine sr_pure (i := 6) (v := Value.tuple #[Value.agg #[Value.int .i64 (m), Value.slice Ao1r16_5 (g0r16_5).length co1r16_5, Value.slice Ao2r16_5 (g1r16_5).length co2r16_5], Value.bool g2r16_5]) hR (by kernel_rfl) rfl (by kernel_rfl) (by kernel_rfl) (fun _ _ _ h => h.elim) hA (by kernel_rfl) (by kernel_rfl) (by kernel_rfl) (Rd.pure fun _ => by kernel_rfl) ?_; clear hA ac; intro ac hA
                                                refine sr_pure (i := 7) (v := Value.agg #[Value.int .i64 (m), Value.slice Ao1r16_5 (g0r16_5).length co1r16_5, Value.slice Ao2r16_5 (g1r16_5).length co2r16_5]) hR (by kernel_rfl) rfl (by kernel_rfl) (by kernel_rfl) (fun _ _ _ h => h.elim) hA (by kernel_rfl) (by kernel_rfl) (by kernel_rfl) (Rd.pure fun _ => by kernel_rfl) ?_; clear hA ac; intro ac hA
                                                refine sr_pure (i := 8) (v := Value.bool g2r16_5) hR (by kernel_rfl) rfl (by kernel_rfl) (by kernel_rfl) (fun _ _ _ h => h.elim) hA (by kernel_rfl) (by kernel_rfl) (by kernel_rfl) (Rd.pure fun _ => by kernel_rfl) ?_; clear hA ac; intro ac hA
                                                refine sr_one (i := 10) (by kernel_rfl) (sr_do rfl hA (by kernel_rfl) (by kernel_rfl) (by kernel_rfl) (Runs.store (v := Value.agg #[Value.int .i64 (m), Value.slice Ao1r16_5 (g0r16_5).length co1r16_5, Value.slice Ao2r16_5 (g1r16_5).length co2r16_5]) (b := br16_9) (j := 0) (n := 3) (cs' := #[Value.int .i64 (m), Value.slice Ao1r16_5 (g0r16_5).length co1r16_5, Value.slice Ao2r16_5 (g1r16_5).length co2r16_5]) (H' := [Cel br16_9 #[Value.int .i64 (m), Value.slice Ao1r16_5 (g0r16_5).length co1r16_5, Value.slice Ao2r16_5 (g1r16_5).length co2r16_5] 29, Cel b16 #[Value.int .i64 m, Value.slice A1 Lk.length c1, Value.slice A2 Pk.length c2] 29, TabR n4 n5 n6 A c T]) (by kernel_rfl) (by kernel_rfl) (by kernel_rfl) (by kernel_rfl) (by kernel_rfl) hW 0 (by rfl) (Nat.le_of_ble_eq_true (by kernel_rfl)) (by kernel_rfl) (by rfl) ?_)); clear hA ac hW; intro w65 hW ac hA
                                                refine ⟨⟨fun h => absurd h (by decide), fun h => absurd h (by decide)⟩, ?_⟩
                                                refine sr_pure (i := 11) (v := Value.bool g2r16_5) hR (by kernel_rfl) rfl (by kernel_rfl) (by kernel_rfl) (fun _ _ _ h => h.elim) hA (by kernel_rfl) (by kernel_rfl) (by kernel_rfl) (Rd.pure fun _ => by kernel_rfl) ?_; clear hA ac; intro ac hA
                                                refine sr_done (by kernel_rfl) ?_ _
                                                exact ⟨Ao1r16_5, Ao2r16_5, br16_9, co1r16_5, co2r16_5, g0r16_5, g1r16_5, g2r16_5, hcco1r16_5, hcco2r16_5, hr16_5_hT, hA.sub ⟨⟨by kernel_rfl, by kernel_rfl⟩, ⟨by kernel_rfl, by kernel_rfl⟩, ⟨by kernel_rfl, by kernel_rfl⟩, ⟨by kernel_rfl, by kernel_rfl⟩, ⟨by kernel_rfl, by kernel_rfl⟩, ⟨by kernel_rfl, by kernel_rfl⟩, ⟨by kernel_rfl, by kernel_rfl⟩, ⟨by kernel_rfl, by kernel_rfl⟩, ⟨by kernel_rfl, by kernel_rfl⟩, ⟨by kernel_rfl, by kernel_rfl⟩, ⟨by kernel_rfl, by kernel_rfl⟩, ⟨by kernel_rfl, by kernel_rfl⟩, ⟨by kernel_rfl, by kernel_rfl⟩, ⟨by kernel_rfl, by kernel_rfl⟩, ⟨by kernel_rfl, by kernel_rfl⟩, ⟨by kernel_rfl, by kernel_rfl⟩, ⟨by kernel_rfl, by kernel_rfl⟩, ⟨by kernel_rfl, by kernel_rfl⟩, ⟨by kernel_rfl, by kernel_rfl⟩, ⟨by kernel_rfl, by kernel_rfl⟩, ⟨by kernel_rfl, by kernel_rfl⟩, ⟨by kernel_rfl, by kernel_rfl⟩, ⟨by kernel_rfl, by kernel_rfl⟩, ⟨by kernel_rfl, by kernel_rfl⟩, ⟨by kernel_rfl, by kernel_rfl⟩, ⟨by kernel_rfl, by kernel_rfl⟩, ⟨by kernel_rfl, by kernel_rfl⟩, ⟨by kernel_rfl, by kernel_rfl⟩, trivial⟩, (hW.pick [0, 1, 2] (by decide) rfl).pickG [0, 1, 2, 3, 4] rfl⟩
                                            clear hA ac hW; rintro ac w66 ⟨Ao1r16_5, Ao2r16_5, br16_9, co1r16_5, co2r16_5, g0r16_5, g1r16_5, g2r16_5, hcco1r16_5, hcco2r16_5, hr16_5_hT, hA, hW⟩
                                            refine thenN ?_
                                            refine wp_seq ?_
                                            refine wp_region_lit ?_
                                            refine st_rd (v := Value.agg #[Value.int .i64 (m), Value.slice Ao1r16_5 (g0r16_5).length co1r16_5, Value.slice Ao2r16_5 (g1r16_5).length co2r16_5]) hA (by kernel_rfl) (by kernel_rfl) (by kernel_rfl) hW.cls (Rd.load (b := br16_9) (i := 0) (by kernel_rfl) (fun _ hw => (hw.1).cel 0 rfl) (by kernel_rfl)) ?_; clear hA ac; intro ac hA
                                            refine st hA (by kernel_rfl) (by kernel_rfl) (by kernel_rfl) (Runs.store (v := Value.agg #[Value.int .i64 (m), Value.slice Ao1r16_5 (g0r16_5).length co1r16_5, Value.slice Ao2r16_5 (g1r16_5).length co2r16_5]) (b := b16) (j := 0) (n := 3) (cs' := #[Value.int .i64 (m), Value.slice Ao1r16_5 (g0r16_5).length co1r16_5, Value.slice Ao2r16_5 (g1r16_5).length co2r16_5]) (H' := [Cel br16_9 #[Value.int .i64 (m), Value.slice Ao1r16_5 (g0r16_5).length co1r16_5, Value.slice Ao2r16_5 (g1r16_5).length co2r16_5] 29, Cel b16 #[Value.int .i64 (m), Value.slice Ao1r16_5 (g0r16_5).length co1r16_5, Value.slice Ao2r16_5 (g1r16_5).length co2r16_5] 29, TabR n4 n5 n6 A c T]) (by kernel_rfl) (by kernel_rfl) (by kernel_rfl) (by kernel_rfl) (by kernel_rfl) hW 1 (by rfl) (Nat.le_of_ble_eq_true (by kernel_rfl)) (by kernel_rfl) (by rfl) ?_); clear hA ac hW; intro w67 hW ac hA
                                            refine wpList_nil ?_
                                            refine thenN ?_
                                            refine wp_seq ?_
                                            have hae : argErr (Flag.ok y) = 0 := by rw [None]; rfl
                                            obtain ⟨hG2, hr2⟩ := hG.takes hr16_5_hT; have hl2 := RT.Takes.len hr16_5_hT; simp only at hl2; have hl3 : g0r16_5.length = T.l.length := congrArg List.length hG2.l_
                                            refine q_region (by kernel_rfl) (by kernel_rfl) hW ?_
                                            refine sq_rd (v := Value.bool false) hA (by kernel_rfl) (by kernel_rfl) (by kernel_rfl) (Rd.pure fun _ => by kernel_rfl) ?_; clear hA ac; intro ac hA
                                            refine sq_rd (v := Value.bool g2r16_5) hA (by kernel_rfl) (by kernel_rfl) (by kernel_rfl) (Rd.pure fun _ => by kernel_rfl) ?_; clear hA ac; intro ac hA
                                            refine sq_rd (v := Value.bool (!(false == g2r16_5))) hA (by kernel_rfl) (by kernel_rfl) (by kernel_rfl) (Rd.pure fun _ => by kernel_rfl) ?_; clear hA ac; intro ac hA
                                            refine sq_rd (v := Value.bool (!(false == g2r16_5))) hA (by kernel_rfl) (by kernel_rfl) (by kernel_rfl) (Rd.pure fun _ => by kernel_rfl) ?_; clear hA ac; intro ac hA
                                            rcases Bool.eq_false_or_eq_true (!(false == g2r16_5)) with h68 | h68
                                            · skip
                                              rw [h68] at hA
                                              have h68 := bbne_t h68
                                              first
                                              | (exfalso; clear hA hW; omega)
                                              | (exfalso; clear hA hW; rw [hb0] at h68; exact absurd rfl h68; done)
                                              | (exfalso; clear hA hW; rw [h25] at h68; exact absurd rfl h68; done)
                                              | (exfalso; clear hA hW; rw [h25] at h68; cases h68; done)
                                              | (exfalso; clear hA hW; exact absurd hr2.symm h68; done)
                                              | (
                                                  refine sq_skip hA (by kernel_rfl) (by kernel_rfl) ?_; clear hA ac; intro ac hA
                                                  refine sq_skip hA (by kernel_rfl) (by kernel_rfl) ?_; clear hA ac; intro ac hA
                                                  refine sq_skip hA (by kernel_rfl) (by kernel_rfl) ?_; clear hA ac; intro ac hA
                                                  refine sq_skip hA (by kernel_rfl) (by kernel_rfl) ?_; clear hA ac; intro ac hA
                                                  refine sq_skip hA (by kernel_rfl) (by kernel_rfl) ?_; clear hA ac; intro ac hA
                                                  refine sq_skip hA (by kernel_rfl) (by kernel_rfl) ?_; clear hA ac; intro ac hA
                                                  refine sq_skip hA (by kernel_rfl) (by kernel_rfl) ?_; clear hA ac; intro ac hA
                                                  refine sq_skip hA (by kernel_rfl) (by kernel_rfl) ?_; clear hA ac; intro ac hA
                                                  refine sq_skip hA (by kernel_rfl) (by kernel_rfl) ?_; clear hA ac; intro ac hA
                                                  refine sq_skip hA (by kernel_rfl) (by kernel_rfl) ?_; clear hA ac; intro ac hA
                                                  refine sq_rd (v := Value.bool true) hA (by kernel_rfl) (by kernel_rfl) (by kernel_rfl) (Rd.pure fun _ => by kernel_rfl) ?_; clear hA ac; intro ac hA
                                                  refine sq_rd (v := Value.bool true) hA (by kernel_rfl) (by kernel_rfl) (by kernel_rfl) (Rd.pure fun _ => by kernel_rfl) ?_; clear hA ac; intro ac hA
                                                  refine sq_skip hA (by kernel_rfl) (by kernel_rfl) ?_; clear hA ac; intro ac hA
                                                  refine sq_skip hA (by kernel_rfl) (by kernel_rfl) ?_; clear hA ac; intro ac hA
                                                  refine sq_skip hA (by kernel_rfl) (by kernel_rfl) ?_; clear hA ac; intro ac hA
                                                  refine sq_skip hA (by kernel_rfl) (by kernel_rfl) ?_; clear hA ac; intro ac hA
                                                  refine sq_skip hA (by kernel_rfl) (by kernel_rfl) ?_; clear hA ac; intro ac hA
                                                  refine sq_skip hA (by kernel_rfl) (by kernel_rfl) ?_; clear hA ac; intro ac hA
                                                  refine sq_skip hA (by kernel_rfl) (by kernel_rfl) ?_; clear hA ac; intro ac hA
                                                  refine sq_skip hA (by kernel_rfl) (by kernel_rfl) ?_; clear hA ac; intro ac hA
                                                  refine sq_skip hA (by kernel_rfl) (by kernel_rfl) ?_; clear hA ac; intro ac hA
                                                  refine sq_skip hA (by kernel_rfl) (by kernel_rfl) ?_; clear hA ac; intro ac hA
                                                  refine sq_skip hA (by kernel_rfl) (by kernel_rfl) ?_; clear hA ac; intro ac hA
                                                  refine sq_skip hA (by kernel_rfl) (by kernel_rfl) ?_; clear hA ac; intro ac hA
                                                  refine sq_skip hA (by kernel_rfl) (by kernel_rfl) ?_; clear hA ac; intro ac hA
                                                  refine sq_skip hA (by kernel_rfl) (by kernel_rfl) ?_; clear hA ac; intro ac hA
                                                  refine sq_skip hA (by kernel_rfl) (by kernel_rfl) ?_; clear hA ac; intro ac hA
                                                  refine sq_skip hA (by kernel_rfl) (by kernel_rfl) ?_; clear hA ac; intro ac hA
                                                  refine sq_skip hA (by kernel_rfl) (by kernel_rfl) ?_; clear hA ac; intro ac hA
                                                  refine sq_skip hA (by kernel_rfl) (by kernel_rfl) ?_; clear hA ac; intro ac hA
                                                  refine sq_skip hA (by kernel_rfl) (by kernel_rfl) ?_; clear hA ac; intro ac hA
                                                  refine sq_rd (v := Value.bool true) hA (by kernel_rfl) (by kernel_rfl) (by kernel_rfl) (Rd.pure fun _ => by kernel_rfl) ?_; clear hA ac; intro ac hA
                                                  refine sq_nil ?_; intro w69 hww69; have hW := hww69.1; have hfw69 := hww69.2; clear hww69
                                                  refine thenN ?_
                                                  refine wp_cond_true (hA.eval (by kernel_rfl)) ?_
                                                  refine wp_seq ?_
                                                  refine wp_region_lit ?_
                                                  refine st_rd (v := Value.bool false) hA (by kernel_rfl) (by kernel_rfl) (by kernel_rfl) hW.cls (Rd.pure fun _ => by kernel_rfl) ?_; clear hA ac; intro ac hA
                                                  refine wpList_nil ?_
                                                  refine thenN ?_
                                                  refine wp_ret ?_
                                                  refine blkR ?_
                                                  refine thenR ?_
                                                  refine thenR ?_
                                                  refine blkR ?_
                                                  refine thenR ?_
                                                  refine ret1 (v := Value.bool false) (by rfl) hA (Got.tmp hA (by kernel_rfl) (by kernel_rfl)) ?_
                                                  clear hA
                                                  exact ⟨retv (by rfl), hW.fr⟩)
                                            · skip
                                              rw [h68] at hA
                                              have h68 := bbne_f h68
                                              first
                                              | (exfalso; clear hA hW; omega)
                                              | (exfalso; clear hA hW; rw [hb0] at h68; exact absurd rfl h68; done)
                                              | (exfalso; clear hA hW; rw [h25] at h68; exact absurd rfl h68; done)
                                              | (exfalso; clear hA hW; rw [h25] at h68; cases h68; done)
                                              | (exfalso; clear hA hW; exact absurd hr2.symm h68; done)
                                              | (
                                                  refine sq_rd (v := Value.int .i64 2) hA (by kernel_rfl) (by kernel_rfl) (by kernel_rfl) (Rd.pure fun _ => by kernel_rfl) ?_; clear hA ac; intro ac hA
                                                  refine sq_call (v := Value.int .i64 (2)) hA (by kernel_rfl) (by kernel_rfl) (by kernel_rfl) (fun _ => by kernel_rfl) (Cls.callSC fun wx hwx => num27_any (2) wx) ?_; clear hA ac; intro ac hA
                                                  refine sq_rd (v := Value.slice (some ⟨b51, o52, none⟩) l.length c_l) hA (by kernel_rfl) (by kernel_rfl) (by kernel_rfl) (Rd.pure fun _ => by kernel_rfl) ?_; clear hA ac; intro ac hA
                                                  refine sq_rd (v := Value.int .i64 ((k : Nat) : Int)) hA (by kernel_rfl) (by kernel_rfl) (by kernel_rfl) (Rd.pure fun _ => by kernel_rfl) ?_; clear hA ac; intro ac hA
                                                  refine sq_rd (v := Value.pointer (some ⟨b51, o52 + k * 10, none⟩)) hA (by kernel_rfl) (by kernel_rfl) (by kernel_rfl) (Rd.indexAddr (e := 43) (sz := 10) (b := b51) (off := o52) (n := l.length) (c := c_l) (k := k) (by kernel_rfl) (by kernel_rfl) (by first | omega | (simp; done) | (simp; omega)) (fun _ => by kernel_rfl) (fun _ => by kernel_rfl)) ?_; clear hA ac; intro ac hA
                                                  refine sq_rd (v := Value.agg #[Value.int .i64 y.at_, Value.int .u32 y.addr, Value.int .i64 y.e.g, Value.int .i64 y.e.s.f, Value.int .i64 y.e.s.pc, Value.int .i64 y.e.k, Value.int .i64 y.l.g, Value.int .i64 y.l.s.f, Value.int .i64 y.l.s.pc, Value.int .i64 y.l.k]) hA (by kernel_rfl) (by kernel_rfl) (by kernel_rfl) (Rd.loadRow (b := b51) (i := o52 + k * 10) (xs := [Value.int .i64 y.at_, Value.int .u32 y.addr, Value.int .i64 y.e.g, Value.int .i64 y.e.s.f, Value.int .i64 y.e.s.pc, Value.int .i64 y.e.k, Value.int .i64 y.l.g, Value.int .i64 y.l.s.f, Value.int .i64 y.l.s.pc, Value.int .i64 y.l.k]) (by kernel_rfl) (fun _ hw => row_ld ((hw.1).getG 4 rfl) hy (Fr.refl No _) (fun h => h) 0 10 (by kernel_rfl)) (by kernel_rfl)) ?_; clear hA ac; intro ac hA
                                                  refine sq_call (v := Value.int .i64 (argErr (Flag.ok y))) hA (by kernel_rfl) (by kernel_rfl) (by kernel_rfl) (fun _ => by kernel_rfl) (Cls.callNC fun wx hwx => fcheck_any y wx) ?_; clear hA ac; intro ac hA
                                                  refine sq_call (v := Value.int .i64 (argErr (Flag.ok y))) hA (by kernel_rfl) (by kernel_rfl) (by kernel_rfl) (fun _ => by kernel_rfl) (Cls.callSC fun wx hwx => num27_any (argErr (Flag.ok y)) wx) ?_; clear hA ac; intro ac hA
                                                  refine sq_rd (v := Value.int .i64 (((2) : Int) + (argErr (Flag.ok y)))) hA (by kernel_rfl) (by kernel_rfl) (by kernel_rfl) (Rd.pureE (v0 := Value.int .i64 (IntKind.i64.wrap (((2) : Int) + (argErr (Flag.ok y))))) (fun _ => by kernel_rfl) (congrArg (Value.int .i64) ((w_i64 (x := ((2) : Int) + (argErr (Flag.ok y))) (by omega) (by omega)).trans (by omega)))) ?_; clear hA ac; intro ac hA
                                                  refine sq_rd (v := Value.bool ((((2) : Int) + (argErr (Flag.ok y)) : Int) != (0 : Int))) hA (by kernel_rfl) (by kernel_rfl) (by kernel_rfl) (Rd.pure fun _ => by kernel_rfl) ?_; clear hA ac; intro ac hA
                                                  refine sq_rd (v := Value.bool ((((2) : Int) + (argErr (Flag.ok y)) : Int) != (0 : Int))) hA (by kernel_rfl) (by kernel_rfl) (by kernel_rfl) (Rd.pure fun _ => by kernel_rfl) ?_; clear hA ac; intro ac hA
                                                  refine sq_rd (v := Value.bool ((((2) : Int) + (argErr (Flag.ok y)) : Int) != (0 : Int))) hA (by kernel_rfl) (by kernel_rfl) (by kernel_rfl) (Rd.pure fun _ => by kernel_rfl) ?_; clear hA ac; intro ac hA
                                                  rcases Bool.eq_false_or_eq_true ((((2) : Int) + (argErr (Flag.ok y)) : Int) != (0 : Int)) with h70 | h70
                                                  · skip
                                                    rw [h70] at hA
                                                    have h70 := bne_iff_ne.1 h70
                                                    first
                                                    | (exfalso; clear hA hW; omega)
                                                    | (exfalso; clear hA hW; rw [hb0] at h70; exact absurd rfl h70; done)
                                                    | (exfalso; clear hA hW; rw [h25] at h70; exact absurd rfl h70; done)
                                                    | (exfalso; clear hA hW; rw [h25] at h70; cases h70; done)
                                                    | (exfalso; clear hA hW; exact absurd hr2.symm h70; done)
                                                    | (
                                                        refine sq_skip hA (by kernel_rfl) (by kernel_rfl) ?_; clear hA ac; intro ac hA
                                                        refine sq_skip hA (by kernel_rfl) (by kernel_rfl) ?_; clear hA ac; intro ac hA
                                                        refine sq_skip hA (by kernel_rfl) (by kernel_rfl) ?_; clear hA ac; intro ac hA
                                                        refine sq_skip hA (by kernel_rfl) (by kernel_rfl) ?_; clear hA ac; intro ac hA
                                                        refine sq_skip hA (by kernel_rfl) (by kernel_rfl) ?_; clear hA ac; intro ac hA
                                                        refine sq_skip hA (by kernel_rfl) (by kernel_rfl) ?_; clear hA ac; intro ac hA
                                                        refine sq_skip hA (by kernel_rfl) (by kernel_rfl) ?_; clear hA ac; intro ac hA
                                                        refine sq_skip hA (by kernel_rfl) (by kernel_rfl) ?_; clear hA ac; intro ac hA
                                                        refine sq_skip hA (by kernel_rfl) (by kernel_rfl) ?_; clear hA ac; intro ac hA
                                                        refine sq_skip hA (by kernel_rfl) (by kernel_rfl) ?_; clear hA ac; intro ac hA
                                                        refine sq_skip hA (by kernel_rfl) (by kernel_rfl) ?_; clear hA ac; intro ac hA
                                                        refine sq_skip hA (by kernel_rfl) (by kernel_rfl) ?_; clear hA ac; intro ac hA
                                                        refine sq_skip hA (by kernel_rfl) (by kernel_rfl) ?_; clear hA ac; intro ac hA
                                                        refine sq_skip hA (by kernel_rfl) (by kernel_rfl) ?_; clear hA ac; intro ac hA
                                                        refine sq_skip hA (by kernel_rfl) (by kernel_rfl) ?_; clear hA ac; intro ac hA
                                                        refine sq_skip hA (by kernel_rfl) (by kernel_rfl) ?_; clear hA ac; intro ac hA
                                                        refine sq_skip hA (by kernel_rfl) (by kernel_rfl) ?_; clear hA ac; intro ac hA
                                                        refine sq_skip hA (by kernel_rfl) (by kernel_rfl) ?_; clear hA ac; intro ac hA
                                                        refine sq_skip hA (by kernel_rfl) (by kernel_rfl) ?_; clear hA ac; intro ac hA
                                                        refine sq_rd (v := Value.bool true) hA (by kernel_rfl) (by kernel_rfl) (by kernel_rfl) (Rd.pure fun _ => by kernel_rfl) ?_; clear hA ac; intro ac hA
                                                        refine sq_nil ?_; intro w71 hww71; have hW := hww71.1; have hfw71 := hww71.2; clear hww71
                                                        refine thenN ?_
                                                        refine wp_cond_true (hA.eval (by kernel_rfl)) ?_
                                                        refine wp_seq ?_
                                                        refine wp_region_lit ?_
                                                        refine st_rd (v := Value.bool false) hA (by kernel_rfl) (by kernel_rfl) (by kernel_rfl) hW.cls (Rd.pure fun _ => by kernel_rfl) ?_; clear hA ac; intro ac hA
                                                        refine wpList_nil ?_
                                                        refine thenN ?_
                                                        refine wp_ret ?_
                                                        refine blkR ?_
                                                        refine thenR ?_
                                                        refine thenR ?_
                                                        refine blkR ?_
                                                        refine thenR ?_
                                                        refine ret1 (v := Value.bool false) (by rfl) hA (Got.tmp hA (by kernel_rfl) (by kernel_rfl)) ?_
                                                        clear hA
                                                        exact ⟨retv (by rfl), hW.fr⟩)
                                                  · skip
                                                    rw [h70] at hA
                                                    have h70 := of_bne_f h70
                                                    first
                                                    | (exfalso; clear hA hW; omega)
                                                    | (exfalso; clear hA hW; rw [hb0] at h70; exact absurd rfl h70; done)
                                                    | (exfalso; clear hA hW; rw [h25] at h70; exact absurd rfl h70; done)
                                                    | (exfalso; clear hA hW; rw [h25] at h70; cases h70; done)
                                                    | (exfalso; clear hA hW; exact absurd hr2.symm h70; done)
                                                    | (
                                                        refine sq_rd (v := Value.pointer (some ⟨n4, 0, none⟩)) hA (by kernel_rfl) (by kernel_rfl) (by kernel_rfl) (Rd.pure fun _ => by kernel_rfl) ?_; clear hA ac; intro ac hA
                                                        refine sq_rd (v := Value.agg #[Value.int .i64 (m), Value.slice Ao1r16_5 (g0r16_5).length co1r16_5, Value.slice Ao2r16_5 (g1r16_5).length co2r16_5]) hA (by kernel_rfl) (by kernel_rfl) (by kernel_rfl) (Rd.load (b := b16) (i := 0) (by kernel_rfl) (fun _ hw => (hw.1).cel 1 rfl) (by kernel_rfl)) ?_; clear hA ac; intro ac hA
                                                        refine sq_rd (v := Value.slice (some ⟨b51, o52, none⟩) l.length c_l) hA (by kernel_rfl) (by kernel_rfl) (by kernel_rfl) (Rd.pure fun _ => by kernel_rfl) ?_; clear hA ac; intro ac hA
                                                        refine sq_rd (v := Value.int .i64 ((k : Nat) : Int)) hA (by kernel_rfl) (by kernel_rfl) (by kernel_rfl) (Rd.pure fun _ => by kernel_rfl) ?_; clear hA ac; intro ac hA
                                                        refine sq_rd (v := Value.pointer (some ⟨b51, o52 + k * 10, none⟩)) hA (by kernel_rfl) (by kernel_rfl) (by kernel_rfl) (Rd.indexAddr (e := 43) (sz := 10) (b := b51) (off := o52) (n := l.length) (c := c_l) (k := k) (by kernel_rfl) (by kernel_rfl) (by first | omega | (simp; done) | (simp; omega)) (fun _ => by kernel_rfl) (fun _ => by kernel_rfl)) ?_; clear hA ac; intro ac hA
                                                        refine sq_rd (v := Value.pointer (some ⟨b51, o52 + k * 10 + 2, none⟩)) hA (by kernel_rfl) (by kernel_rfl) (by kernel_rfl) (Rd.pure fun _ => by kernel_rfl) ?_; clear hA ac; intro ac hA
                                                        refine sq_rd (v := Value.pointer (some ⟨b51, o52 + k * 10 + 2 + 1, none⟩)) hA (by kernel_rfl) (by kernel_rfl) (by kernel_rfl) (Rd.pure fun _ => by kernel_rfl) ?_; clear hA ac; intro ac hA
                                                        refine sq_rd (v := Value.agg #[Value.int .i64 y.e.s.f, Value.int .i64 y.e.s.pc]) hA (by kernel_rfl) (by kernel_rfl) (by kernel_rfl) (Rd.loadRow (b := b51) (i := o52 + k * 10 + 2 + 1) (xs := [Value.int .i64 y.e.s.f, Value.int .i64 y.e.s.pc]) (by kernel_rfl) (fun _ hw => row_ld ((hw.1).getG 4 rfl) hy (Fr.refl No _) (fun h => h) 3 2 (by kernel_rfl)) (by kernel_rfl)) ?_; clear hA ac; intro ac hA
                                                        refine sq_rd (v := Value.slice (some ⟨b51, o52, none⟩) l.length c_l) hA (by kernel_rfl) (by kernel_rfl) (by kernel_rfl) (Rd.pure fun _ => by kernel_rfl) ?_; clear hA ac; intro ac hA
                                                        refine sq_rd (v := Value.int .i64 ((k : Nat) : Int)) hA (by kernel_rfl) (by kernel_rfl) (by kernel_rfl) (Rd.pure fun _ => by kernel_rfl) ?_; clear hA ac; intro ac hA
                                                        refine sq_rd (v := Value.pointer (some ⟨b51, o52 + k * 10, none⟩)) hA (by kernel_rfl) (by kernel_rfl) (by kernel_rfl) (Rd.indexAddr (e := 43) (sz := 10) (b := b51) (off := o52) (n := l.length) (c := c_l) (k := k) (by kernel_rfl) (by kernel_rfl) (by first | omega | (simp; done) | (simp; omega)) (fun _ => by kernel_rfl) (fun _ => by kernel_rfl)) ?_; clear hA ac; intro ac hA
                                                        refine sq_rd (v := Value.pointer (some ⟨b51, o52 + k * 10 + 6, none⟩)) hA (by kernel_rfl) (by kernel_rfl) (by kernel_rfl) (Rd.pure fun _ => by kernel_rfl) ?_; clear hA ac; intro ac hA
                                                        refine sq_rd (v := Value.pointer (some ⟨b51, o52 + k * 10 + 6 + 1, none⟩)) hA (by kernel_rfl) (by kernel_rfl) (by kernel_rfl) (Rd.pure fun _ => by kernel_rfl) ?_; clear hA ac; intro ac hA
                                                        refine sq_rd (v := Value.agg #[Value.int .i64 y.l.s.f, Value.int .i64 y.l.s.pc]) hA (by kernel_rfl) (by kernel_rfl) (by kernel_rfl) (Rd.loadRow (b := b51) (i := o52 + k * 10 + 6 + 1) (xs := [Value.int .i64 y.l.s.f, Value.int .i64 y.l.s.pc]) (by kernel_rfl) (fun _ hw => row_ld ((hw.1).getG 4 rfl) hy (Fr.refl No _) (fun h => h) 7 2 (by kernel_rfl)) (by kernel_rfl)) ?_; clear hA ac; intro ac hA
                                                        refine sq_rd (v := Value.agg #[Value.int .i64 y.e.s.f, Value.int .i64 y.e.s.pc, Value.int .i64 y.l.s.f, Value.int .i64 y.l.s.pc]) hA (by kernel_rfl) (by kernel_rfl) (by kernel_rfl) (Rd.pure fun _ => by kernel_rfl) ?_; clear hA ac; intro ac hA
                                                        refine sq_rd (v := Value.int .i64 ((k : Nat) : Int)) hA (by kernel_rfl) (by kernel_rfl) (by kernel_rfl) (Rd.pure fun _ => by kernel_rfl) ?_; clear hA ac; intro ac hA
                                                        refine sq_rd (v := Value.int .i64 ((k % 4 : Nat) : Int)) hA (by kernel_rfl) (by kernel_rfl) (by kernel_rfl) (Rd.pureE (v0 := Value.int .i64 (Int.tmod (((k : Nat) : Int) : Int) 4)) (fun _ => by kernel_rfl) (congrArg (Value.int .i64) (rem_ (x := ((k : Nat) : Int)) (by omega)))) ?_; clear hA ac; intro ac hA
                                                        refine sq_call (v := Value.bool true) hA (by kernel_rfl) (by kernel_rfl) (by kernel_rfl) (fun _ => by kernel_rfl) (Cls.callNC fun wx hwx => e_is27 n4 n5 n6 A c T ((m)) Ao1r16_5 co1r16_5 g0r16_5 Ao2r16_5 co2r16_5 g1r16_5 (⟨y.e.s, y.l.s⟩ : Pair) (((k % 4 : Nat) : Int)) wx ((hwx.1).get 2 rfl) ((hwx.1).lt _ (List.mem_of_getElem? (i := 2) rfl)) ((hwx.1).getG 1 rfl) (by first | assumption | omega | (simp; omega) | simp) ((hwx.1).getG 0 rfl) (by first | assumption | omega | (simp; omega) | simp) (by first | omega | assumption | simp) (by first | omega | assumption | simp) (by first | omega | assumption | simp) (by first | omega | assumption | simp)) ?_; clear hA ac; intro ac hA
                                                        refine sq_rd (v := Value.bool false) hA (by kernel_rfl) (by kernel_rfl) (by kernel_rfl) (Rd.pure fun _ => by kernel_rfl) ?_; clear hA ac; intro ac hA
                                                        refine sq_rd (v := Value.bool false) hA (by kernel_rfl) (by kernel_rfl) (by kernel_rfl) (Rd.pure fun _ => by kernel_rfl) ?_; clear hA ac; intro ac hA
                                                        refine sq_nil ?_; intro w72 hww72; have hW := hww72.1; have hfw72 := hww72.2; clear hww72
                                                        refine thenN ?_
                                                        refine wp_cond_false (hA.eval (by kernel_rfl)) ?_
                                                        refine wp_skip ?_
                                                        refine blkN ?_
                                                        refine thenN ?_
                                                        refine wp_region_lit ?_
                                                        refine st_rd (v := Value.int .i64 ((k : Nat) : Int)) hA (by kernel_rfl) (by kernel_rfl) (by kernel_rfl) hW.cls (Rd.pure fun _ => by kernel_rfl) ?_; clear hA ac; intro ac hA
                                                        refine st_rd (v := Value.int .i64 ((k + 1 : Nat) : Int)) hA (by kernel_rfl) (by kernel_rfl) (by kernel_rfl) hW.cls (Rd.pureE (v0 := Value.int .i64 (IntKind.i64.wrap ((((k : Nat) : Int) : Int) + 1))) (fun _ => by kernel_rfl) (congrArg (Value.int .i64) ((w_i64 (x := (((k : Nat) : Int) : Int) + 1) (by omega) (by omega)).trans (by omega)))) ?_; clear hA ac; intro ac hA
                                                        refine st_rd (v := Value.int .i64 ((k + 1 : Nat) : Int)) hA (by kernel_rfl) (by kernel_rfl) (by kernel_rfl) hW.cls (Rd.pure fun _ => by kernel_rfl) ?_; clear hA ac; intro ac hA
                                                        refine wpList_nil ?_
                                                        refine thenN ?_
                                                        exact ⟨l.length - (k + 1), by omega, k + 1, A, c, T, (m), g0r16_5, g1r16_5, Ao1r16_5, co1r16_5, Ao2r16_5, co2r16_5, rfl, by omega, by exact runs_skip hT hy h25, by exact hG, by omega, by omega, by exact hcc1, by exact hcc2, hA.sub ⟨⟨by kernel_rfl, by kernel_rfl⟩, ⟨by kernel_rfl, by kernel_rfl⟩, ⟨by kernel_rfl, by kernel_rfl⟩, ⟨by kernel_rfl, by kernel_rfl⟩, ⟨by kernel_rfl, by kernel_rfl⟩, trivial⟩, (hW.pick [1, 2] (by decide) rfl).pickG [1, 0, 4] rfl⟩)))))
                          · skip
                            have h24 := of_decide_eq_false h24
                            first
                            | (exfalso; clear hA hW; omega)
                            | (exfalso; clear hA hW; rw [hb0] at h24; exact absurd rfl h24; done)
                            | (
                                refine wp_exit ?_
                                refine thenX ?_
                                refine thenX ?_
                                refine blkX ?_
                                refine thenN ?_
                                refine wp_seq ?_
                                have hl3 : Lk.length = T.l.length := congrArg List.length hG.l_
                                refine wp_region_lit ?_
                                refine st_rd (v := Value.pointer (some ⟨n4, 0, none⟩)) hA (by kernel_rfl) (by kernel_rfl) (by kernel_rfl) hW.cls (Rd.pure fun _ => by kernel_rfl) ?_; clear hA ac; intro ac hA
                                refine st_rd (v := Value.agg #[Value.int .i64 m, Value.slice A1 Lk.length c1, Value.slice A2 Pk.length c2]) hA (by kernel_rfl) (by kernel_rfl) (by kernel_rfl) hW.cls (Rd.load (b := b16) (i := 0) (by kernel_rfl) (fun _ hw => (hw.1).cel 0 rfl) (by kernel_rfl)) ?_; clear hA ac; intro ac hA
                                refine st_rd (v := Value.agg #[Value.int .i64 0, Value.int .i64 0, Value.int .i64 0, Value.int .i64 0]) hA (by kernel_rfl) (by kernel_rfl) (by kernel_rfl) hW.cls (Rd.pure fun _ => by kernel_rfl) ?_; clear hA ac; intro ac hA
                                refine st hA (by kernel_rfl) (by kernel_rfl) (by kernel_rfl) (Runs.callN (v := Value.bool true) (fun _ => by kernel_rfl) hW (e_is27 n4 n5 n6 A c T (m) A1 c1 Lk A2 c2 Pk (⟨(⟨0, 0⟩ : Site), (⟨0, 0⟩ : Site)⟩ : Pair) (99) w23 ((hW).get 1 rfl) ((hW).lt _ (List.mem_of_getElem? (i := 1) rfl)) ((hW).getG 0 rfl) (by first | assumption | omega | (simp; omega) | simp) ((hW).getG 1 rfl) (by first | assumption | omega | (simp; omega) | simp) (by first | omega | assumption | simp) (by first | omega | assumption | simp) (by first | omega | assumption | simp) (by first | omega | assumption | simp)) ?_); clear hA ac hW; intro w73 hW hfw73 ac hA
                                refine st_rd (v := Value.bool true) hA (by kernel_rfl) (by kernel_rfl) (by kernel_rfl) hW.cls (Rd.pure fun _ => by kernel_rfl) ?_; clear hA ac; intro ac hA
                                refine st hA (by kernel_rfl) (by kernel_rfl) (by kernel_rfl) (Runs.callN (v := Value.bool true) (fun _ => by kernel_rfl) hW (works27_any w73) ?_); clear hA ac hW; intro w74 hW hfw74 ac hA
                                refine st_rd (v := Value.bool true) hA (by kernel_rfl) (by kernel_rfl) (by kernel_rfl) hW.cls (Rd.pure fun _ => by kernel_rfl) ?_; clear hA ac; intro ac hA
                                refine st_rd (v := Value.bool true) hA (by kernel_rfl) (by kernel_rfl) (by kernel_rfl) hW.cls (Rd.pure fun _ => by kernel_rfl) ?_; clear hA ac; intro ac hA
                                refine wpList_nil ?_
                                refine thenN ?_
                                refine wp_ret ?_
                                refine ret1 (v := Value.bool true) (by rfl) hA (Got.tmp hA (by kernel_rfl) (by kernel_rfl)) ?_
                                clear hA
                                exact ⟨retv (by rfl), hW.fr⟩)))))

set_option maxRecDepth 100000 in
theorem e_reportTakesN (most : Int) (A_l : Option Addr) (c_l : Nat) (l : List Flag) (w : World) (hr_l : RowAt w A_l 10 enFlag l) (hc_l : l.length ≤ c_l) (hm : ¬ (0 ≤ most ∧ most ≤ 65536)) : Calls Try.prog 5 #[Value.int .i64 most, Value.slice A_l l.length c_l] w (fun e w' => e = .returned (Value.bool true) ∧ Fr No w w') := by
  have _hu := hc_l; have _hv := hr_l; clear _hu _hv
  have _hu := hm; clear _hu
  refine enter_E 131 Try.func5 rfl rfl (by kernel_rfl) (L := [(0, Value.int .i64 most), (1, Value.slice A_l l.length c_l)]) (by kernel_rfl) ?_
  intro ac hA
  have hW := Ws.start w No
  have hW := hW.arg hr_l
  refine wp_seq ?_
  refine wp_region_lit ?_
  refine st_rd (v := Value.bool false) hA (by kernel_rfl) (by kernel_rfl) (by kernel_rfl) hW.cls (Rd.pure fun _ => by kernel_rfl) ?_; clear hA ac; intro ac hA
  refine wpList_nil ?_
  refine thenN ?_
  refine wp_seq ?_
  refine wp_seq ?_
  refine wp_region_lit ?_
  refine st_rd (v := Value.slice A_l l.length c_l) hA (by kernel_rfl) (by kernel_rfl) (by kernel_rfl) hW.cls (Rd.pure fun _ => by kernel_rfl) ?_; clear hA ac; intro ac hA
  refine st_rd (v := Value.int .i64 ((l.length : Nat) : Int)) hA (by kernel_rfl) (by kernel_rfl) (by kernel_rfl) hW.cls (Rd.pure fun _ => by kernel_rfl) ?_; clear hA ac; intro ac hA
  refine st_rd (v := Value.bool (decide ((((l.length : Nat) : Int) : Int) > (40 : Int)))) hA (by kernel_rfl) (by kernel_rfl) (by kernel_rfl) hW.cls (Rd.pure fun _ => by kernel_rfl) ?_; clear hA ac; intro ac hA
  refine wpList_nil ?_
  refine thenN ?_
  refine wp_cond_split (t := decide ((((l.length : Nat) : Int) : Int) > (40 : Int))) (hA.eval (by kernel_rfl)) (fun h1 => ?_) (fun h1 => ?_)
  · skip
    have h1 := of_decide_eq_true h1
    first
    | (exfalso; clear hA hW; omega)
    | (
        refine wp_seq ?_
        refine wp_region_lit ?_
        refine st hA (by kernel_rfl) (by kernel_rfl) (by kernel_rfl) (Runs.callN (v := Value.bool true) (fun _ => by kernel_rfl) hW (works27_any w) ?_); clear hA ac hW; intro w2 hW hfw2 ac hA
        refine st_rd (v := Value.bool true) hA (by kernel_rfl) (by kernel_rfl) (by kernel_rfl) hW.cls (Rd.pure fun _ => by kernel_rfl) ?_; clear hA ac; intro ac hA
        refine wpList_nil ?_
        refine thenN ?_
        refine wp_ret ?_
        refine thenR ?_
        refine ret1 (v := Value.bool true) (by rfl) hA (Got.tmp hA (by kernel_rfl) (by kernel_rfl)) ?_
        clear hA
        exact ⟨retv (by rfl), hW.fr⟩)
  · skip
    have h1 := of_decide_eq_false h1
    first
    | (exfalso; clear hA hW; omega)
    | (
        refine wp_skip ?_
        refine thenN ?_
        refine wp_seq ?_
        refine wp_region_lit ?_
        refine st_rd (v := Value.int .i64 most) hA (by kernel_rfl) (by kernel_rfl) (by kernel_rfl) hW.cls (Rd.pure fun _ => by kernel_rfl) ?_; clear hA ac; intro ac hA
        refine st hA (by kernel_rfl) (by kernel_rfl) (by kernel_rfl) (Runs.callN (v := Value.tuple #[Value.pointer none, Value.int .i64 2]) (fun _ => by kernel_rfl) hW (tNew_no (most) w hm) ?_); clear hA ac hW; intro w3 hW hfw3 ac hA
        refine st_rd (v := Value.tuple #[Value.pointer none, Value.int .i64 2]) hA (by kernel_rfl) (by kernel_rfl) (by kernel_rfl) hW.cls (Rd.pure fun _ => by kernel_rfl) ?_; clear hA ac; intro ac hA
        refine st_rd (v := Value.pointer none) hA (by kernel_rfl) (by kernel_rfl) (by kernel_rfl) hW.cls (Rd.pure fun _ => by kernel_rfl) ?_; clear hA ac; intro ac hA
        refine st_rd (v := Value.int .i64 2) hA (by kernel_rfl) (by kernel_rfl) (by kernel_rfl) hW.cls (Rd.pure fun _ => by kernel_rfl) ?_; clear hA ac; intro ac hA
        refine st_rd (v := Value.pointer none) hA (by kernel_rfl) (by kernel_rfl) (by kernel_rfl) hW.cls (Rd.pure fun _ => by kernel_rfl) ?_; clear hA ac; intro ac hA
        refine st_rd (v := Value.int .i64 2) hA (by kernel_rfl) (by kernel_rfl) (by kernel_rfl) hW.cls (Rd.pure fun _ => by kernel_rfl) ?_; clear hA ac; intro ac hA
        refine wpList_nil ?_
        refine thenN ?_
        refine wp_seq ?_
        refine wp_region_lit ?_
        refine st_rd (v := Value.int .i64 most) hA (by kernel_rfl) (by kernel_rfl) (by kernel_rfl) hW.cls (Rd.pure fun _ => by kernel_rfl) ?_; clear hA ac; intro ac hA
        refine st hA (by kernel_rfl) (by kernel_rfl) (by kernel_rfl) (Runs.call (fun _ => by kernel_rfl) (e_of27 (most) none 0 ([] : List Flag) w3 (RowAt.nil' _ _) (by first | assumption | omega | (simp; omega) | simp) (by first | omega | assumption | simp)) ?_)
        rintro _ w4 ⟨g5, g6, g7, g8, Ao19, co110, Ao211, co212, rfl, hw4_hO, hcco110, hcco212, hfco110, hfco212, hfw4⟩; refine ⟨_, rfl, ?_⟩; have hW0 := hW; have hW := hW0.call hfw4
        have hW := hW0.addFromAt hW hfco110 (in_cons in_none in_nil)
        have hW := hW0.addFromAt hW hfco212 (in_cons in_none in_nil)
        clear hW0 hA ac; intro ac hA
        refine st_rd (v := Value.tuple #[Value.agg #[Value.int .i64 g5, Value.slice Ao19 (g6).length co110, Value.slice Ao211 (g7).length co212], Value.int .i64 g8]) hA (by kernel_rfl) (by kernel_rfl) (by kernel_rfl) hW.cls (Rd.pure fun _ => by kernel_rfl) ?_; clear hA ac; intro ac hA
        refine st_rd (v := Value.agg #[Value.int .i64 g5, Value.slice Ao19 (g6).length co110, Value.slice Ao211 (g7).length co212]) hA (by kernel_rfl) (by kernel_rfl) (by kernel_rfl) hW.cls (Rd.pure fun _ => by kernel_rfl) ?_; clear hA ac; intro ac hA
        refine st_rd (v := Value.int .i64 g8) hA (by kernel_rfl) (by kernel_rfl) (by kernel_rfl) hW.cls (Rd.pure fun _ => by kernel_rfl) ?_; clear hA ac; intro ac hA
        refine st hA (by kernel_rfl) (by kernel_rfl) (by kernel_rfl) (Runs.cells (fun b => Value.pointer (some ⟨b, 0, none⟩)) #[Value.int .i64 0, Value.slice none 0 0, Value.slice none 0 0] 29 (fun _ => by kernel_rfl) hW ?_); clear hA ac hW; intro b13 w14 hW hb13 hfw14 ac hA
        refine st hA (by kernel_rfl) (by kernel_rfl) (by kernel_rfl) (Runs.store (v := Value.agg #[Value.int .i64 g5, Value.slice Ao19 (g6).length co110, Value.slice Ao211 (g7).length co212]) (b := b13) (j := 0) (n := 3) (cs' := #[Value.int .i64 g5, Value.slice Ao19 (g6).length co110, Value.slice Ao211 (g7).length co212]) (H' := [Cel b13 #[Value.int .i64 g5, Value.slice Ao19 (g6).length co110, Value.slice Ao211 (g7).length co212] 29]) (by kernel_rfl) (by kernel_rfl) (by kernel_rfl) (by kernel_rfl) (by kernel_rfl) hW 0 (by rfl) (Nat.le_of_ble_eq_true (by kernel_rfl)) (by kernel_rfl) (by rfl) ?_); clear hA ac hW; intro w15 hW ac hA
        refine st_rd (v := Value.int .i64 g8) hA (by kernel_rfl) (by kernel_rfl) (by kernel_rfl) hW.cls (Rd.pure fun _ => by kernel_rfl) ?_; clear hA ac; intro ac hA
        refine wpList_nil ?_
        refine thenN ?_
        refine wp_seq ?_
        refine wp_seq ?_
        have hb0 := of_nil_no hw4_hO hm
        refine wp_region_lit ?_
        refine st_rd (v := Value.int .i64 2) hA (by kernel_rfl) (by kernel_rfl) (by kernel_rfl) hW.cls (Rd.pure fun _ => by kernel_rfl) ?_; clear hA ac; intro ac hA
        refine st hA (by kernel_rfl) (by kernel_rfl) (by kernel_rfl) (Runs.callS (v := Value.int .i64 (2)) (fun _ => by kernel_rfl) (num27_any (2) w15) ?_); clear hA ac; intro  ac hA
        refine st_rd (v := Value.int .i64 g8) hA (by kernel_rfl) (by kernel_rfl) (by kernel_rfl) hW.cls (Rd.pure fun _ => by kernel_rfl) ?_; clear hA ac; intro ac hA
        refine st_rd (v := Value.bool (((2) : Int) != (g8 : Int))) hA (by kernel_rfl) (by kernel_rfl) (by kernel_rfl) hW.cls (Rd.pure fun _ => by kernel_rfl) ?_; clear hA ac; intro ac hA
        refine st_rd (v := Value.bool (((2) : Int) != (g8 : Int))) hA (by kernel_rfl) (by kernel_rfl) (by kernel_rfl) hW.cls (Rd.pure fun _ => by kernel_rfl) ?_; clear hA ac; intro ac hA
        rcases Bool.eq_false_or_eq_true (((2) : Int) != (g8 : Int)) with h16 | h16
        · skip
          rw [h16] at hA
          have h16 := bne_iff_ne.1 h16
          first
          | (exfalso; clear hA hW; omega)
          | (exfalso; clear hA hW; rw [hb0] at h16; exact absurd rfl h16; done)
          | (
              refine st_skip hA (by kernel_rfl) (by kernel_rfl) ?_; clear hA ac; intro ac hA
              refine st_skip hA (by kernel_rfl) (by kernel_rfl) ?_; clear hA ac; intro ac hA
              refine st_skip hA (by kernel_rfl) (by kernel_rfl) ?_; clear hA ac; intro ac hA
              refine st_skip hA (by kernel_rfl) (by kernel_rfl) ?_; clear hA ac; intro ac hA
              refine st_skip hA (by kernel_rfl) (by kernel_rfl) ?_; clear hA ac; intro ac hA
              refine st_rd (v := Value.bool true) hA (by kernel_rfl) (by kernel_rfl) (by kernel_rfl) hW.cls (Rd.pure fun _ => by kernel_rfl) ?_; clear hA ac; intro ac hA
              refine wpList_nil ?_
              refine thenN ?_
              refine wp_cond_true (hA.eval (by kernel_rfl)) ?_
              refine wp_seq ?_
              refine wp_region_lit ?_
              refine st_rd (v := Value.bool false) hA (by kernel_rfl) (by kernel_rfl) (by kernel_rfl) hW.cls (Rd.pure fun _ => by kernel_rfl) ?_; clear hA ac; intro ac hA
              refine wpList_nil ?_
              refine thenN ?_
              refine wp_ret ?_
              refine thenR ?_
              refine ret1 (v := Value.bool false) (by rfl) hA (Got.tmp hA (by kernel_rfl) (by kernel_rfl)) ?_
              clear hA
              exact ⟨retv (by rfl), hW.fr⟩)
        · skip
          rw [h16] at hA
          have h16 := of_bne_f h16
          first
          | (exfalso; clear hA hW; omega)
          | (exfalso; clear hA hW; rw [hb0] at h16; exact absurd rfl h16; done)
          | (
              refine st_rd (v := Value.pointer none) hA (by kernel_rfl) (by kernel_rfl) (by kernel_rfl) hW.cls (Rd.pure fun _ => by kernel_rfl) ?_; clear hA ac; intro ac hA
              refine st_rd (v := Value.bool false) hA (by kernel_rfl) (by kernel_rfl) (by kernel_rfl) hW.cls (Rd.pure fun _ => by kernel_rfl) ?_; clear hA ac; intro ac hA
              refine st_rd (v := Value.int .i64 g8) hA (by kernel_rfl) (by kernel_rfl) (by kernel_rfl) hW.cls (Rd.pure fun _ => by kernel_rfl) ?_; clear hA ac; intro ac hA
              refine st_rd (v := Value.bool ((g8 : Int) == (0 : Int))) hA (by kernel_rfl) (by kernel_rfl) (by kernel_rfl) hW.cls (Rd.pure fun _ => by kernel_rfl) ?_; clear hA ac; intro ac hA
              refine st_rd (v := Value.bool (!(false == ((g8 : Int) == (0 : Int))))) hA (by kernel_rfl) (by kernel_rfl) (by kernel_rfl) hW.cls (Rd.pure fun _ => by kernel_rfl) ?_; clear hA ac; intro ac hA
              refine st_rd (v := Value.bool (!(false == ((g8 : Int) == (0 : Int))))) hA (by kernel_rfl) (by kernel_rfl) (by kernel_rfl) hW.cls (Rd.pure fun _ => by kernel_rfl) ?_; clear hA ac; intro ac hA
              refine wpList_nil ?_
              refine thenN ?_
              refine wp_cond_split (t := !(false == ((g8 : Int) == (0 : Int)))) (hA.eval (by kernel_rfl)) (fun h17 => ?_) (fun h17 => ?_)
              · skip
                have h17 := bbne_t h17
                first
                | (exfalso; clear hA hW; omega)
                | (exfalso; clear hA hW; rw [hb0] at h17; exact absurd rfl h17; done)
                | (
                    refine wp_seq ?_
                    refine wp_region_lit ?_
                    refine st_rd (v := Value.bool false) hA (by kernel_rfl) (by kernel_rfl) (by kernel_rfl) hW.cls (Rd.pure fun _ => by kernel_rfl) ?_; clear hA ac; intro ac hA
                    refine wpList_nil ?_
                    refine thenN ?_
                    refine wp_ret ?_
                    refine thenR ?_
                    refine ret1 (v := Value.bool false) (by rfl) hA (Got.tmp hA (by kernel_rfl) (by kernel_rfl)) ?_
                    clear hA
                    exact ⟨retv (by rfl), hW.fr⟩)
              · skip
                have h17 := bbne_f h17
                first
                | (exfalso; clear hA hW; omega)
                | (exfalso; clear hA hW; rw [hb0] at h17; exact absurd rfl h17; done)
                | (
                    refine wp_skip ?_
                    refine thenN ?_
                    refine wp_seq ?_
                    refine wp_seq ?_
                    refine wp_region_lit ?_
                    refine st_rd (v := Value.int .i64 g8) hA (by kernel_rfl) (by kernel_rfl) (by kernel_rfl) hW.cls (Rd.pure fun _ => by kernel_rfl) ?_; clear hA ac; intro ac hA
                    refine st_rd (v := Value.bool ((g8 : Int) != (0 : Int))) hA (by kernel_rfl) (by kernel_rfl) (by kernel_rfl) hW.cls (Rd.pure fun _ => by kernel_rfl) ?_; clear hA ac; intro ac hA
                    refine wpList_nil ?_
                    refine thenN ?_
                    refine wp_cond_split (t := (g8 : Int) != (0 : Int)) (hA.eval (by kernel_rfl)) (fun h18 => ?_) (fun h18 => ?_)
                    · skip
                      have h18 := bne_iff_ne.1 h18
                      first
                      | (exfalso; clear hA hW; omega)
                      | (exfalso; clear hA hW; rw [hb0] at h18; exact absurd rfl h18; done)
                      | (
                          refine wp_seq ?_
                          refine wp_region_lit ?_
                          refine st hA (by kernel_rfl) (by kernel_rfl) (by kernel_rfl) (Runs.callN (v := Value.bool true) (fun _ => by kernel_rfl) hW (works27_any w15) ?_); clear hA ac hW; intro w19 hW hfw19 ac hA
                          refine st_rd (v := Value.bool true) hA (by kernel_rfl) (by kernel_rfl) (by kernel_rfl) hW.cls (Rd.pure fun _ => by kernel_rfl) ?_; clear hA ac; intro ac hA
                          refine wpList_nil ?_
                          refine thenN ?_
                          refine wp_ret ?_
                          refine thenR ?_
                          refine ret1 (v := Value.bool true) (by rfl) hA (Got.tmp hA (by kernel_rfl) (by kernel_rfl)) ?_
                          clear hA
                          exact ⟨retv (by rfl), hW.fr⟩)
                    · skip
                      have h18 := of_bne_f h18
                      first
                      | (exfalso; clear hA hW; omega)
                      | (exfalso; clear hA hW; rw [hb0] at h18; exact absurd rfl h18; done)
                      | (
                          fail))))

theorem rt_walk (most : Int) (A : Option Addr) (len cap : Nat) (l : List Flag) (w : World) (_ : (Lit.int .i64 most).wf = true) (hl : l.length = len) (hc : len ≤ cap) (_ : cap ≤ maxLen) (_ : ∀ x ∈ l, wfFlag x) (hr : RowAt w A 10 enFlag l) :
    Calls Try.prog 5 #[.int .i64 most, .slice A len cap] w fun e w' => e = .returned (.bool true) ∧ Fr No w w' := by
  subst hl
  by_cases hm : 0 ≤ most ∧ most ≤ 65536
  · exact e_reportTakesY most A cap l w hr hc hm
  · exact e_reportTakesN most A cap l w hr hc hm
end Go.Proofs.Ytgkhaoogfpnbbaa.L
