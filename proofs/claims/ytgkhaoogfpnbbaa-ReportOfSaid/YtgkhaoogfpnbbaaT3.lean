/- Contracts, walked by program over the engine's laws. -/
import Derived.Test.YtgkhaoogfpnbbaaProg
import Derived.Test.YtgkhaoogfpnbbaaRep27
namespace Go.Proofs.Ytgkhaoogfpnbbaa.L
open Go.RowKit

set_option maxRecDepth 100000 in
theorem e_reportOf (most : Int) (A_l : Option Addr) (c_l : Nat) (l : List Flag) (w : World) (hr_l : RowAt w A_l 10 enFlag l) (hc_l : l.length ≤ c_l) : Calls Try.prog 3 #[Value.int .i64 most, Value.slice A_l l.length c_l] w (fun e w' => e = .returned (Value.bool true) ∧ Fr No w w') := by
  have _hu := hc_l; have _hv := hr_l; clear _hu _hv
  refine enter_E 51 Try.func3 rfl rfl (by kernel_rfl) (L := [(0, Value.int .i64 most), (1, Value.slice A_l l.length c_l)]) (by kernel_rfl) ?_
  intro ac hA
  have hW := Ws.start w No
  have hW := hW.arg hr_l
  refine wp_seq ?_
  refine wp_region_lit ?_
  refine st_rd (v := Value.bool false) hA (by kernel_rfl) (by kernel_rfl) (by kernel_rfl) hW.cls (Rd.pure fun _ => by kernel_rfl) ?_; clear hA ac; intro ac hA
  refine wpList_nil ?_
  refine thenN ?_
  refine wp_seq ?_
  refine wp_seq ?_
  refine wp_region_lit ?_
  refine st_rd (v := Value.slice A_l l.length c_l) hA (by kernel_rfl) (by kernel_rfl) (by kernel_rfl) hW.cls (Rd.pure fun _ => by kernel_rfl) ?_; clear hA ac; intro ac hA
  refine st_rd (v := Value.int .i64 ((l.length : Nat) : Int)) hA (by kernel_rfl) (by kernel_rfl) (by kernel_rfl) hW.cls (Rd.pure fun _ => by kernel_rfl) ?_; clear hA ac; intro ac hA
  refine st_rd (v := Value.bool (decide ((((l.length : Nat) : Int) : Int) > (40 : Int)))) hA (by kernel_rfl) (by kernel_rfl) (by kernel_rfl) hW.cls (Rd.pure fun _ => by kernel_rfl) ?_; clear hA ac; intro ac hA
  refine wpList_nil ?_
  refine thenN ?_
  refine wp_cond_split (t := decide ((((l.length : Nat) : Int) : Int) > (40 : Int))) (hA.eval (by kernel_rfl)) (fun h1 => ?_) (fun h1 => ?_)
  · skip
    have h1 := of_decide_eq_true h1
    first
    | (exfalso; clear hA hW; omega)
    | (exfalso; clear hA hW; exact absurd hx1 ‹_›)
    | (exfalso; clear hA hW; simp_all; done)
    | (
        refine wp_seq ?_
        refine wp_region_lit ?_
        refine st hA (by kernel_rfl) (by kernel_rfl) (by kernel_rfl) (Runs.callN (v := Value.bool true) (fun _ => by kernel_rfl) hW (works27_any w) ?_); clear hA ac hW; intro w2 hW hfw2 ac hA
        refine st_rd (v := Value.bool true) hA (by kernel_rfl) (by kernel_rfl) (by kernel_rfl) hW.cls (Rd.pure fun _ => by kernel_rfl) ?_; clear hA ac; intro ac hA
        refine wpList_nil ?_
        refine thenN ?_
        refine wp_ret ?_
        refine thenR ?_
        refine ret1 (v := Value.bool true) (by rfl) hA (Got.tmp hA (by kernel_rfl) (by kernel_rfl)) ?_
        clear hA
        exact ⟨retv (by rfl), hW.fr⟩)
  · skip
    have h1 := of_decide_eq_false h1
    first
    | (exfalso; clear hA hW; omega)
    | (exfalso; clear hA hW; exact absurd hx1 ‹_›)
    | (exfalso; clear hA hW; simp_all; done)
    | (
        refine wp_skip ?_
        refine thenN ?_
        refine wp_seq ?_
        refine wp_region_lit ?_
        refine st_rd (v := Value.int .i64 most) hA (by kernel_rfl) (by kernel_rfl) (by kernel_rfl) hW.cls (Rd.pure fun _ => by kernel_rfl) ?_; clear hA ac; intro ac hA
        refine st_rd (v := Value.slice A_l l.length c_l) hA (by kernel_rfl) (by kernel_rfl) (by kernel_rfl) hW.cls (Rd.pure fun _ => by kernel_rfl) ?_; clear hA ac; intro ac hA
        refine st hA (by kernel_rfl) (by kernel_rfl) (by kernel_rfl) (Runs.call (fun _ => by kernel_rfl) (e_ofR (most) A_l c_l l w ((hW).getG 0 rfl) (by first | assumption | omega | (simp; omega) | simp) (by omega)) ?_)
        rintro _ w3 ⟨g4, g5, g6, Ao7, co8, rfl, hw3_hO, hcco8, hfco8, hfw3⟩; refine ⟨_, rfl, ?_⟩; have hW0 := hW; have hW := hW0.call hfw3
        have hW := hW0.addFromAt hW hfco8 (in_cons (in_at 0 rfl) in_nil)
        clear hW0 hA ac; intro ac hA
        refine st_rd (v := Value.tuple #[Value.slice Ao7 (g6).length co8, Value.int .i64 g4, Value.int .i64 g5]) hA (by kernel_rfl) (by kernel_rfl) (by kernel_rfl) hW.cls (Rd.pure fun _ => by kernel_rfl) ?_; clear hA ac; intro ac hA
        refine st_rd (v := Value.slice Ao7 (g6).length co8) hA (by kernel_rfl) (by kernel_rfl) (by kernel_rfl) hW.cls (Rd.pure fun _ => by kernel_rfl) ?_; clear hA ac; intro ac hA
        refine st_rd (v := Value.int .i64 g4) hA (by kernel_rfl) (by kernel_rfl) (by kernel_rfl) hW.cls (Rd.pure fun _ => by kernel_rfl) ?_; clear hA ac; intro ac hA
        refine st_rd (v := Value.int .i64 g5) hA (by kernel_rfl) (by kernel_rfl) (by kernel_rfl) hW.cls (Rd.pure fun _ => by kernel_rfl) ?_; clear hA ac; intro ac hA
        refine st_rd (v := Value.slice Ao7 (g6).length co8) hA (by kernel_rfl) (by kernel_rfl) (by kernel_rfl) hW.cls (Rd.pure fun _ => by kernel_rfl) ?_; clear hA ac; intro ac hA
        refine st_rd (v := Value.int .i64 g4) hA (by kernel_rfl) (by kernel_rfl) (by kernel_rfl) hW.cls (Rd.pure fun _ => by kernel_rfl) ?_; clear hA ac; intro ac hA
        refine st_rd (v := Value.int .i64 g5) hA (by kernel_rfl) (by kernel_rfl) (by kernel_rfl) hW.cls (Rd.pure fun _ => by kernel_rfl) ?_; clear hA ac; intro ac hA
        refine wpList_nil ?_
        refine thenN ?_
        refine wp_seq ?_
        refine wp_region_lit ?_
        refine st_rd (v := Value.int .i64 most) hA (by kernel_rfl) (by kernel_rfl) (by kernel_rfl) hW.cls (Rd.pure fun _ => by kernel_rfl) ?_; clear hA ac; intro ac hA
        refine st_rd (v := Value.slice A_l l.length c_l) hA (by kernel_rfl) (by kernel_rfl) (by kernel_rfl) hW.cls (Rd.pure fun _ => by kernel_rfl) ?_; clear hA ac; intro ac hA
        refine st hA (by kernel_rfl) (by kernel_rfl) (by kernel_rfl) (Runs.call (fun _ => by kernel_rfl) (e_of27 (most) A_l c_l l w3 ((hW).getG 1 rfl) (by first | assumption | omega | (simp; omega) | simp) (by omega)) ?_)
        rintro _ w9 ⟨g10, g11, g12, g13, Ao114, co115, Ao216, co217, rfl, hw9_hO, hcco115, hcco217, hfco115, hfco217, hfw9⟩; refine ⟨_, rfl, ?_⟩; have hW0 := hW; have hW := hW0.call hfw9
        have hW := hW0.addFromAt hW hfco115 (in_cons (in_at 1 rfl) in_nil)
        have hW := hW0.addFromAt hW hfco217 (in_cons (in_at 1 rfl) in_nil)
        clear hW0 hA ac; intro ac hA
        refine st_rd (v := Value.tuple #[Value.agg #[Value.int .i64 g10, Value.slice Ao114 (g11).length co115, Value.slice Ao216 (g12).length co217], Value.int .i64 g13]) hA (by kernel_rfl) (by kernel_rfl) (by kernel_rfl) hW.cls (Rd.pure fun _ => by kernel_rfl) ?_; clear hA ac; intro ac hA
        refine st_rd (v := Value.agg #[Value.int .i64 g10, Value.slice Ao114 (g11).length co115, Value.slice Ao216 (g12).length co217]) hA (by kernel_rfl) (by kernel_rfl) (by kernel_rfl) hW.cls (Rd.pure fun _ => by kernel_rfl) ?_; clear hA ac; intro ac hA
        refine st_rd (v := Value.int .i64 g13) hA (by kernel_rfl) (by kernel_rfl) (by kernel_rfl) hW.cls (Rd.pure fun _ => by kernel_rfl) ?_; clear hA ac; intro ac hA
        refine st hA (by kernel_rfl) (by kernel_rfl) (by kernel_rfl) (Runs.cells (fun b => Value.pointer (some ⟨b, 0, none⟩)) #[Value.int .i64 0, Value.slice none 0 0, Value.slice none 0 0] 29 (fun _ => by kernel_rfl) hW ?_); clear hA ac hW; intro b18 w19 hW hb18 hfw19 ac hA
        refine st hA (by kernel_rfl) (by kernel_rfl) (by kernel_rfl) (Runs.store (v := Value.agg #[Value.int .i64 g10, Value.slice Ao114 (g11).length co115, Value.slice Ao216 (g12).length co217]) (b := b18) (j := 0) (n := 3) (cs' := #[Value.int .i64 g10, Value.slice Ao114 (g11).length co115, Value.slice Ao216 (g12).length co217]) (H' := [Cel b18 #[Value.int .i64 g10, Value.slice Ao114 (g11).length co115, Value.slice Ao216 (g12).length co217] 29]) (by kernel_rfl) (by kernel_rfl) (by kernel_rfl) (by kernel_rfl) (by kernel_rfl) hW 0 (by rfl) (Nat.le_of_ble_eq_true (by kernel_rfl)) (by kernel_rfl) (by rfl) ?_); clear hA ac hW; intro w20 hW ac hA
        refine st_rd (v := Value.int .i64 g13) hA (by kernel_rfl) (by kernel_rfl) (by kernel_rfl) hW.cls (Rd.pure fun _ => by kernel_rfl) ?_; clear hA ac; intro ac hA
        refine wpList_nil ?_
        refine thenN ?_
        refine wp_seq ?_
        obtain ⟨hx1, hx2, hx3⟩ := of_agree hw3_hO hw9_hO; obtain ⟨hx4, hx5⟩ := of_lens hw3_hO hw9_hO; have hx6 := congrArg List.length hx1
        clear hw3_hO hw9_hO
        refine wp_region_lit ?_
        refine st_rd (v := Value.slice Ao7 (g6).length co8) hA (by kernel_rfl) (by kernel_rfl) (by kernel_rfl) hW.cls (Rd.pure fun _ => by kernel_rfl) ?_; clear hA ac; intro ac hA
        refine st_rd (v := Value.pointer (some ⟨b18, 1, none⟩)) hA (by kernel_rfl) (by kernel_rfl) (by kernel_rfl) hW.cls (Rd.pure fun _ => by kernel_rfl) ?_; clear hA ac; intro ac hA
        refine st_rd (v := Value.slice Ao114 (g11).length co115) hA (by kernel_rfl) (by kernel_rfl) (by kernel_rfl) hW.cls (Rd.load (b := b18) (i := 1) (by kernel_rfl) (fun _ hw => (hw.1).cel 0 rfl) (by kernel_rfl)) ?_; clear hA ac; intro ac hA
        refine st hA (by kernel_rfl) (by kernel_rfl) (by kernel_rfl) (Runs.callN (v := Value.bool (decide (g6 = g11))) (fun _ => by kernel_rfl) hW (e_same25 Ao7 co8 g6 Ao114 co115 g11 w20 ((hW).getG 2 rfl) (by first | assumption | omega | (simp; omega) | simp) ((hW).getG 1 rfl) (by first | assumption | omega | (simp; omega) | simp) (by omega) (by omega)) ?_); clear hA ac hW; intro w21 hW hfw21 ac hA
        refine st_rd (v := Value.bool (decide (g6 = g11))) hA (by kernel_rfl) (by kernel_rfl) (by kernel_rfl) hW.cls (Rd.pure fun _ => by kernel_rfl) ?_; clear hA ac; intro ac hA
        rcases Bool.eq_false_or_eq_true (decide (g6 = g11)) with h22 | h22
        · skip
          rw [h22] at hA
          first
          | (exfalso; clear hA hW; omega)
          | (exfalso; clear hA hW; exact absurd hx1 ‹_›)
          | (exfalso; clear hA hW; simp_all; done)
          | (
              refine st_rd (v := Value.int .i64 g4) hA (by kernel_rfl) (by kernel_rfl) (by kernel_rfl) hW.cls (Rd.pure fun _ => by kernel_rfl) ?_; clear hA ac; intro ac hA
              refine st_rd (v := Value.pointer (some ⟨b18, 2, none⟩)) hA (by kernel_rfl) (by kernel_rfl) (by kernel_rfl) hW.cls (Rd.pure fun _ => by kernel_rfl) ?_; clear hA ac; intro ac hA
              refine st_rd (v := Value.slice Ao216 (g12).length co217) hA (by kernel_rfl) (by kernel_rfl) (by kernel_rfl) hW.cls (Rd.load (b := b18) (i := 2) (by kernel_rfl) (fun _ hw => (hw.1).cel 0 rfl) (by kernel_rfl)) ?_; clear hA ac; intro ac hA
              refine st_rd (v := Value.int .i64 (((g12).length : Nat) : Int)) hA (by kernel_rfl) (by kernel_rfl) (by kernel_rfl) hW.cls (Rd.pure fun _ => by kernel_rfl) ?_; clear hA ac; intro ac hA
              refine st_rd (v := Value.pointer (some ⟨b18, 1, none⟩)) hA (by kernel_rfl) (by kernel_rfl) (by kernel_rfl) hW.cls (Rd.pure fun _ => by kernel_rfl) ?_; clear hA ac; intro ac hA
              refine st_rd (v := Value.slice Ao114 (g11).length co115) hA (by kernel_rfl) (by kernel_rfl) (by kernel_rfl) hW.cls (Rd.load (b := b18) (i := 1) (by kernel_rfl) (fun _ hw => (hw.1).cel 0 rfl) (by kernel_rfl)) ?_; clear hA ac; intro ac hA
              refine st_rd (v := Value.int .i64 (((g11).length : Nat) : Int)) hA (by kernel_rfl) (by kernel_rfl) (by kernel_rfl) hW.cls (Rd.pure fun _ => by kernel_rfl) ?_; clear hA ac; intro ac hA
              refine st_rd (v := Value.int .i64 (((((g12).length : Nat) : Int) : Int) - (((g11).length : Nat) : Int))) hA (by kernel_rfl) (by kernel_rfl) (by kernel_rfl) hW.cls (Rd.pureE (v0 := Value.int .i64 (IntKind.i64.wrap (((((g12).length : Nat) : Int) : Int) - (((g11).length : Nat) : Int)))) (fun _ => by kernel_rfl) (congrArg (Value.int .i64) ((w_i64 (x := ((((g12).length : Nat) : Int) : Int) - (((g11).length : Nat) : Int)) (by omega) (by omega)).trans (by omega)))) ?_; clear hA ac; intro ac hA
              refine st_rd (v := Value.bool ((g4 : Int) == (((((g12).length : Nat) : Int) : Int) - (((g11).length : Nat) : Int) : Int))) hA (by kernel_rfl) (by kernel_rfl) (by kernel_rfl) hW.cls (Rd.pure fun _ => by kernel_rfl) ?_; clear hA ac; intro ac hA
              refine st_rd (v := Value.bool ((g4 : Int) == (((((g12).length : Nat) : Int) : Int) - (((g11).length : Nat) : Int) : Int))) hA (by kernel_rfl) (by kernel_rfl) (by kernel_rfl) hW.cls (Rd.pure fun _ => by kernel_rfl) ?_; clear hA ac; intro ac hA
              refine st_rd (v := Value.bool ((g4 : Int) == (((((g12).length : Nat) : Int) : Int) - (((g11).length : Nat) : Int) : Int))) hA (by kernel_rfl) (by kernel_rfl) (by kernel_rfl) hW.cls (Rd.pure fun _ => by kernel_rfl) ?_; clear hA ac; intro ac hA
              rcases Bool.eq_false_or_eq_true ((g4 : Int) == (((((g12).length : Nat) : Int) : Int) - (((g11).length : Nat) : Int) : Int)) with h23 | h23
              · skip
                rw [h23] at hA
                have h23 := eq_of_beq h23
                first
                | (exfalso; clear hA hW; omega)
                | (exfalso; clear hA hW; exact absurd hx1 ‹_›)
                | (exfalso; clear hA hW; simp_all; done)
                | (
                    refine st_rd (v := Value.int .i64 g5) hA (by kernel_rfl) (by kernel_rfl) (by kernel_rfl) hW.cls (Rd.pure fun _ => by kernel_rfl) ?_; clear hA ac; intro ac hA
                    refine st hA (by kernel_rfl) (by kernel_rfl) (by kernel_rfl) (Runs.callS (v := Value.int .i64 (g5)) (fun _ => by kernel_rfl) (num27_any (g5) w21) ?_); clear hA ac; intro  ac hA
                    refine st_rd (v := Value.int .i64 g13) hA (by kernel_rfl) (by kernel_rfl) (by kernel_rfl) hW.cls (Rd.pure fun _ => by kernel_rfl) ?_; clear hA ac; intro ac hA
                    refine st_rd (v := Value.bool (((g5) : Int) == (g13 : Int))) hA (by kernel_rfl) (by kernel_rfl) (by kernel_rfl) hW.cls (Rd.pure fun _ => by kernel_rfl) ?_; clear hA ac; intro ac hA
                    refine st_rd (v := Value.bool (((g5) : Int) == (g13 : Int))) hA (by kernel_rfl) (by kernel_rfl) (by kernel_rfl) hW.cls (Rd.pure fun _ => by kernel_rfl) ?_; clear hA ac; intro ac hA
                    refine st_rd (v := Value.bool (((g5) : Int) == (g13 : Int))) hA (by kernel_rfl) (by kernel_rfl) (by kernel_rfl) hW.cls (Rd.pure fun _ => by kernel_rfl) ?_; clear hA ac; intro ac hA
                    rcases Bool.eq_false_or_eq_true (((g5) : Int) == (g13 : Int)) with h24 | h24
                    · skip
                      rw [h24] at hA
                      have h24 := eq_of_beq h24
                      first
                      | (exfalso; clear hA hW; omega)
                      | (exfalso; clear hA hW; exact absurd hx1 ‹_›)
                      | (exfalso; clear hA hW; simp_all; done)
                      | (
                          refine st hA (by kernel_rfl) (by kernel_rfl) (by kernel_rfl) (Runs.callN (v := Value.bool true) (fun _ => by kernel_rfl) hW (works27_any w21) ?_); clear hA ac hW; intro w25 hW hfw25 ac hA
                          refine st_rd (v := Value.bool true) hA (by kernel_rfl) (by kernel_rfl) (by kernel_rfl) hW.cls (Rd.pure fun _ => by kernel_rfl) ?_; clear hA ac; intro ac hA
                          refine st_rd (v := Value.bool true) hA (by kernel_rfl) (by kernel_rfl) (by kernel_rfl) hW.cls (Rd.pure fun _ => by kernel_rfl) ?_; clear hA ac; intro ac hA
                          refine wpList_nil ?_
                          refine thenN ?_
                          refine wp_ret ?_
                          refine ret1 (v := Value.bool true) (by rfl) hA (Got.tmp hA (by kernel_rfl) (by kernel_rfl)) ?_
                          clear hA
                          exact ⟨retv (by rfl), hW.fr⟩)
                    · skip
                      rw [h24] at hA
                      have h24 := ne_of_beq_false h24
                      first
                      | (exfalso; clear hA hW; omega)
                      | (exfalso; clear hA hW; exact absurd hx1 ‹_›)
                      | (exfalso; clear hA hW; simp_all; done)
                      | (
                          refine st_skip hA (by kernel_rfl) (by kernel_rfl) ?_; clear hA ac; intro ac hA
                          refine st_rd (v := Value.bool false) hA (by kernel_rfl) (by kernel_rfl) (by kernel_rfl) hW.cls (Rd.pure fun _ => by kernel_rfl) ?_; clear hA ac; intro ac hA
                          refine st_rd (v := Value.bool false) hA (by kernel_rfl) (by kernel_rfl) (by kernel_rfl) hW.cls (Rd.pure fun _ => by kernel_rfl) ?_; clear hA ac; intro ac hA
                          refine wpList_nil ?_
                          refine thenN ?_
                          refine wp_ret ?_
                          refine ret1 (v := Value.bool false) (by rfl) hA (Got.tmp hA (by kernel_rfl) (by kernel_rfl)) ?_
                          clear hA
                          exact ⟨retv (by rfl), hW.fr⟩))
              · skip
                rw [h23] at hA
                have h23 := ne_of_beq_false h23
                first
                | (exfalso; clear hA hW; omega)
                | (exfalso; clear hA hW; exact absurd hx1 ‹_›)
                | (exfalso; clear hA hW; simp_all; done)
                | (
                    refine st_skip hA (by kernel_rfl) (by kernel_rfl) ?_; clear hA ac; intro ac hA
                    refine st_skip hA (by kernel_rfl) (by kernel_rfl) ?_; clear hA ac; intro ac hA
                    refine st_skip hA (by kernel_rfl) (by kernel_rfl) ?_; clear hA ac; intro ac hA
                    refine st_skip hA (by kernel_rfl) (by kernel_rfl) ?_; clear hA ac; intro ac hA
                    refine st_rd (v := Value.bool false) hA (by kernel_rfl) (by kernel_rfl) (by kernel_rfl) hW.cls (Rd.pure fun _ => by kernel_rfl) ?_; clear hA ac; intro ac hA
                    refine st_rd (v := Value.bool false) hA (by kernel_rfl) (by kernel_rfl) (by kernel_rfl) hW.cls (Rd.pure fun _ => by kernel_rfl) ?_; clear hA ac; intro ac hA
                    refine st_skip hA (by kernel_rfl) (by kernel_rfl) ?_; clear hA ac; intro ac hA
                    refine st_rd (v := Value.bool false) hA (by kernel_rfl) (by kernel_rfl) (by kernel_rfl) hW.cls (Rd.pure fun _ => by kernel_rfl) ?_; clear hA ac; intro ac hA
                    refine st_rd (v := Value.bool false) hA (by kernel_rfl) (by kernel_rfl) (by kernel_rfl) hW.cls (Rd.pure fun _ => by kernel_rfl) ?_; clear hA ac; intro ac hA
                    refine wpList_nil ?_
                    refine thenN ?_
                    refine wp_ret ?_
                    refine ret1 (v := Value.bool false) (by rfl) hA (Got.tmp hA (by kernel_rfl) (by kernel_rfl)) ?_
                    clear hA
                    exact ⟨retv (by rfl), hW.fr⟩))
        · skip
          rw [h22] at hA
          first
          | (exfalso; clear hA hW; omega)
          | (exfalso; clear hA hW; exact absurd hx1 ‹_›)
          | (exfalso; clear hA hW; simp_all; done)
          | (
              refine st_skip hA (by kernel_rfl) (by kernel_rfl) ?_; clear hA ac; intro ac hA
              refine st_skip hA (by kernel_rfl) (by kernel_rfl) ?_; clear hA ac; intro ac hA
              refine st_skip hA (by kernel_rfl) (by kernel_rfl) ?_; clear hA ac; intro ac hA
              refine st_skip hA (by kernel_rfl) (by kernel_rfl) ?_; clear hA ac; intro ac hA
              refine st_skip hA (by kernel_rfl) (by kernel_rfl) ?_; clear hA ac; intro ac hA
              refine st_skip hA (by kernel_rfl) (by kernel_rfl) ?_; clear hA ac; intro ac hA
              refine st_skip hA (by kernel_rfl) (by kernel_rfl) ?_; clear hA ac; intro ac hA
              refine st_skip hA (by kernel_rfl) (by kernel_rfl) ?_; clear hA ac; intro ac hA
              refine st_skip hA (by kernel_rfl) (by kernel_rfl) ?_; clear hA ac; intro ac hA
              refine st_rd (v := Value.bool false) hA (by kernel_rfl) (by kernel_rfl) (by kernel_rfl) hW.cls (Rd.pure fun _ => by kernel_rfl) ?_; clear hA ac; intro ac hA
              refine st_rd (v := Value.bool false) hA (by kernel_rfl) (by kernel_rfl) (by kernel_rfl) hW.cls (Rd.pure fun _ => by kernel_rfl) ?_; clear hA ac; intro ac hA
              refine st_skip hA (by kernel_rfl) (by kernel_rfl) ?_; clear hA ac; intro ac hA
              refine st_skip hA (by kernel_rfl) (by kernel_rfl) ?_; clear hA ac; intro ac hA
              refine st_skip hA (by kernel_rfl) (by kernel_rfl) ?_; clear hA ac; intro ac hA
              refine st_skip hA (by kernel_rfl) (by kernel_rfl) ?_; clear hA ac; intro ac hA
              refine st_rd (v := Value.bool false) hA (by kernel_rfl) (by kernel_rfl) (by kernel_rfl) hW.cls (Rd.pure fun _ => by kernel_rfl) ?_; clear hA ac; intro ac hA
              refine st_rd (v := Value.bool false) hA (by kernel_rfl) (by kernel_rfl) (by kernel_rfl) hW.cls (Rd.pure fun _ => by kernel_rfl) ?_; clear hA ac; intro ac hA
              refine st_skip hA (by kernel_rfl) (by kernel_rfl) ?_; clear hA ac; intro ac hA
              refine st_rd (v := Value.bool false) hA (by kernel_rfl) (by kernel_rfl) (by kernel_rfl) hW.cls (Rd.pure fun _ => by kernel_rfl) ?_; clear hA ac; intro ac hA
              refine st_rd (v := Value.bool false) hA (by kernel_rfl) (by kernel_rfl) (by kernel_rfl) hW.cls (Rd.pure fun _ => by kernel_rfl) ?_; clear hA ac; intro ac hA
              refine wpList_nil ?_
              refine thenN ?_
              refine wp_ret ?_
              refine ret1 (v := Value.bool false) (by rfl) hA (Got.tmp hA (by kernel_rfl) (by kernel_rfl)) ?_
              clear hA
              exact ⟨retv (by rfl), hW.fr⟩))

theorem ro_walk (most : Int) (A : Option Addr) (len cap : Nat) (l : List Flag) (w : World) (_ : (Lit.int .i64 most).wf = true) (hl : l.length = len) (hc : len ≤ cap) (_ : cap ≤ maxLen) (_ : ∀ x ∈ l, wfFlag x) (hr : RowAt w A 10 enFlag l) :
    Calls Try.prog 3 #[.int .i64 most, .slice A len cap] w fun e w' => e = .returned (.bool true) ∧ Fr No w w' := by
  subst hl; exact e_reportOf most A cap l w hr hc
end Go.Proofs.Ytgkhaoogfpnbbaa.L
