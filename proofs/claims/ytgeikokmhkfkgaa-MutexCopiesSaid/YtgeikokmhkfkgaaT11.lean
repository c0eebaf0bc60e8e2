/- Contracts, walked by program over the engine's laws. -/
import Derived.Test.YtgeikokmhkfkgaaProg
import Derived.Test.YtgeikokmhkfkgaaT10
import Derived.Test.YtgeikokmhkfkgaaE11
namespace Go.Proofs.Ytgeikokmhkfkgaa.L
open Go.RowKit

theorem elt_Act13 : Elt Try.prog 30 3 enAct13 := ⟨⟨Value.agg #[Value.int .i64 0, Value.int .i64 0, Value.int .i64 0], 24, by kernel_rfl, rfl, by decide⟩, by decide, fun _ => rfl, fun x u hu => List.all_eq_true.1 (show (enAct13 x).all (·.oneCell') = true from rfl) u hu⟩
def deAct13 : List Value → Act13
  | [.int _ a0, .int _ a1, .int _ a2] => ⟨a0, a1, a2⟩
  | _ => ⟨0, 0, 0⟩
def wfAct13 (x : Act13) : Prop := (Lit.int .i64 x.what).wf = true ∧ (Lit.int .i64 x.i).wf = true ∧ (Lit.int .i64 x.by_).wf = true ∧ True
theorem deAct13_ok (cs : List Value) (h : cksOk [.int .i64, .int .i64, .int .i64] cs) : enAct13 (deAct13 cs) = cs ∧ wfAct13 (deAct13 cs) := by
  have hl := cksOk_length h
  match cs, hl, h with
  | [c0, c1, c2], _, ⟨⟨_, h0, w0⟩, ⟨_, h1, w1⟩, ⟨_, h2, w2⟩, _⟩ =>
    subst h0 h1 h2
    exact ⟨rfl, w0, w1, w2, trivial⟩
theorem flatAct13 {v : Value} (h : cksOk [.int .i64, .int .i64, .int .i64] v.cells.toList) : ∃ x : Act13, v = x.v ∧ wfAct13 x := by
  have hl := cksOk_length h
  cases v with
  | agg a => exact ⟨deAct13 a.toList, by have := (deAct13_ok _ h).1; have h2 := congrArg List.toArray this; exact congrArg Value.agg (h2.symm), (deAct13_ok _ h).2⟩
  | _ => simp [Value.cells] at hl

theorem cntB_le {h : List (Int × Int)} {i : Int} (hd : (h.map (·.1)).Nodup) : cntB h (i + 1) ≤ cntB h i + 1 := by
  cases e : (look h i).isSome with
  | true => rw [cntB_yes hd e]; omega
  | false => rw [cntB_no e]; omega
theorem cntB_upto {h : List (Int × Int)} (hd : (h.map (·.1)).Nodup) (hk : ∀ x ∈ h, 0 ≤ x.1) : ∀ n : Nat, cntB h ((n : Int) - 1) ≤ n
  | 0 => by have := cntB_start hk; simp at this ⊢; omega
  | n + 1 => by
    have := cntB_upto hd hk n
    have h2 := cntB_le (i := (n : Int) - 1) hd
    rw [show ((n : Int) - 1 + 1) = ((n + 1 : Nat) : Int) - 1 from by omega] at h2
    omega
theorem Rel13.small {L : List Int} {h : List (Int × Int)} {many : Int} (r : Rel13 L h many) : h.length ≤ 66 := by
  have h1 := cntB_upto r.nodup (fun x hx => (r.key x hx).1) 65
  have h2 := cntB_end (h := h) (i := ((65 : Nat) : Int) - 1) (fun x hx => by have := (r.key x hx).2; have := r.most; omega)
  rw [h2] at h1; omega
theorem Rel13.len64 {L : List Int} {h : List (Int × Int)} {many : Int} (r : Rel13 L h many) : L.length ≤ 64 := by have := r.len; have := r.most; omega
set_option maxRecDepth 100000 in
theorem e_rnewN (many : Int) (w : World) (hm : ¬ (0 ≤ many ∧ many ≤ 64)) : Calls Try.prog 13 #[Value.int .i64 many] w (fun e w' => e = .returned (Value.tuple #[Value.agg #[Value.slice none 0 0], Value.int .i64 2]) ∧ Fr No w w') := by
  have _hu := hm; clear _hu
  refine enter_E 14 Try.func13 rfl rfl (by kernel_rfl) (L := [(0, Value.int .i64 many)]) (by kernel_rfl) ?_
  intro ac hA
  have hW := Ws.start w No
  refine wp_seq ?_
  refine wp_region_lit ?_
  refine st hA (by kernel_rfl) (by kernel_rfl) (by kernel_rfl) (Runs.cells (fun b => Value.pointer (some ⟨b, 0, none⟩)) #[Value.slice none 0 0] 40 (fun _ => by kernel_rfl) hW ?_); clear hA ac hW; intro b1 w2 hW hb1 hfw2 ac hA
  refine st_rd (v := Value.int .i64 0) hA (by kernel_rfl) (by kernel_rfl) (by kernel_rfl) hW.cls (Rd.pure fun _ => by kernel_rfl) ?_; clear hA ac; intro ac hA
  refine wpList_nil ?_
  refine thenN ?_
  refine wp_seq ?_
  refine wp_seq ?_
  refine wp_region_lit ?_
  refine st_rd (v := Value.int .i64 many) hA (by kernel_rfl) (by kernel_rfl) (by kernel_rfl) hW.cls (Rd.pure fun _ => by kernel_rfl) ?_; clear hA ac; intro ac hA
  refine st_rd (v := Value.bool (decide ((many : Int) < (0 : Int)))) hA (by kernel_rfl) (by kernel_rfl) (by kernel_rfl) hW.cls (Rd.pure fun _ => by kernel_rfl) ?_; clear hA ac; intro ac hA
  refine st_rd (v := Value.bool (decide ((many : Int) < (0 : Int)))) hA (by kernel_rfl) (by kernel_rfl) (by kernel_rfl) hW.cls (Rd.pure fun _ => by kernel_rfl) ?_; clear hA ac; intro ac hA
  rcases Bool.eq_false_or_eq_true (decide ((many : Int) < (0 : Int))) with h3 | h3
  · skip
    rw [h3] at hA
    have h3 := of_decide_eq_true h3
    first
    | (exfalso; clear hA hW; omega)
    | (
        refine st_skip hA (by kernel_rfl) (by kernel_rfl) ?_; clear hA ac; intro ac hA
        refine st_skip hA (by kernel_rfl) (by kernel_rfl) ?_; clear hA ac; intro ac hA
        refine st_rd (v := Value.bool true) hA (by kernel_rfl) (by kernel_rfl) (by kernel_rfl) hW.cls (Rd.pure fun _ => by kernel_rfl) ?_; clear hA ac; intro ac hA
        refine wpList_nil ?_
        refine thenN ?_
        refine wp_cond_true (hA.eval (by kernel_rfl)) ?_
        refine wp_seq ?_
        refine wp_region_lit ?_
        refine st_rd (v := Value.agg #[Value.slice none 0 0]) hA (by kernel_rfl) (by kernel_rfl) (by kernel_rfl) hW.cls (Rd.pure fun _ => by kernel_rfl) ?_; clear hA ac; intro ac hA
        refine st hA (by kernel_rfl) (by kernel_rfl) (by kernel_rfl) (Runs.store (v := Value.agg #[Value.slice none 0 0]) (b := b1) (j := 0) (n := 1) (cs' := #[Value.slice none 0 0]) (H' := [Cel b1 #[Value.slice none 0 0] 40]) (by kernel_rfl) (by kernel_rfl) (by kernel_rfl) (by kernel_rfl) (by kernel_rfl) hW 0 (by rfl) (Nat.le_of_ble_eq_true (by kernel_rfl)) (by kernel_rfl) (by rfl) ?_); clear hA ac hW; intro w4 hW ac hA
        refine st_rd (v := Value.int .i64 2) hA (by kernel_rfl) (by kernel_rfl) (by kernel_rfl) hW.cls (Rd.pure fun _ => by kernel_rfl) ?_; clear hA ac; intro ac hA
        refine wpList_nil ?_
        refine thenN ?_
        refine wp_ret ?_
        refine thenR ?_
        refine ret2 (v1 := Value.agg #[Value.slice none 0 0]) (v2 := Value.int .i64 2) (by rfl) hA (Got.cell (b := b1) (i := 0) hA (by kernel_rfl) (by kernel_rfl) (hW.cel 0 rfl) (by kernel_rfl)) (Got.tmp hA (by kernel_rfl) (by kernel_rfl)) ?_
        clear hA
        exact ⟨retv (by rfl), hW.fr⟩)
  · skip
    rw [h3] at hA
    have h3 := of_decide_eq_false h3
    first
    | (exfalso; clear hA hW; omega)
    | (
        refine st_rd (v := Value.int .i64 many) hA (by kernel_rfl) (by kernel_rfl) (by kernel_rfl) hW.cls (Rd.pure fun _ => by kernel_rfl) ?_; clear hA ac; intro ac hA
        refine st_rd (v := Value.bool (decide ((many : Int) > (64 : Int)))) hA (by kernel_rfl) (by kernel_rfl) (by kernel_rfl) hW.cls (Rd.pure fun _ => by kernel_rfl) ?_; clear hA ac; intro ac hA
        refine st_rd (v := Value.bool (decide ((many : Int) > (64 : Int)))) hA (by kernel_rfl) (by kernel_rfl) (by kernel_rfl) hW.cls (Rd.pure fun _ => by kernel_rfl) ?_; clear hA ac; intro ac hA
        refine wpList_nil ?_
        refine thenN ?_
        refine wp_cond_split (t := decide ((many : Int) > (64 : Int))) (hA.eval (by kernel_rfl)) (fun h5 => ?_) (fun h5 => ?_)
        · skip
          have h5 := of_decide_eq_true h5
          first
          | (exfalso; clear hA hW; omega)
          | (
              refine wp_seq ?_
              refine wp_region_lit ?_
              refine st_rd (v := Value.agg #[Value.slice none 0 0]) hA (by kernel_rfl) (by kernel_rfl) (by kernel_rfl) hW.cls (Rd.pure fun _ => by kernel_rfl) ?_; clear hA ac; intro ac hA
              refine st hA (by kernel_rfl) (by kernel_rfl) (by kernel_rfl) (Runs.store (v := Value.agg #[Value.slice none 0 0]) (b := b1) (j := 0) (n := 1) (cs' := #[Value.slice none 0 0]) (H' := [Cel b1 #[Value.slice none 0 0] 40]) (by kernel_rfl) (by kernel_rfl) (by kernel_rfl) (by kernel_rfl) (by kernel_rfl) hW 0 (by rfl) (Nat.le_of_ble_eq_true (by kernel_rfl)) (by kernel_rfl) (by rfl) ?_); clear hA ac hW; intro w6 hW ac hA
              refine st_rd (v := Value.int .i64 2) hA (by kernel_rfl) (by kernel_rfl) (by kernel_rfl) hW.cls (Rd.pure fun _ => by kernel_rfl) ?_; clear hA ac; intro ac hA
              refine wpList_nil ?_
              refine thenN ?_
              refine wp_ret ?_
              refine thenR ?_
              refine ret2 (v1 := Value.agg #[Value.slice none 0 0]) (v2 := Value.int .i64 2) (by rfl) hA (Got.cell (b := b1) (i := 0) hA (by kernel_rfl) (by kernel_rfl) (hW.cel 0 rfl) (by kernel_rfl)) (Got.tmp hA (by kernel_rfl) (by kernel_rfl)) ?_
              clear hA
              exact ⟨retv (by rfl), hW.fr⟩)
        · skip
          have h5 := of_decide_eq_false h5
          first
          | (exfalso; clear hA hW; omega)
          | (
              refine wp_skip ?_
              refine thenN ?_
              refine wp_seq ?_
              refine wp_region_lit ?_
              refine st_rd (v := Value.int .i64 many) hA (by kernel_rfl) (by kernel_rfl) (by kernel_rfl) hW.cls (Rd.pure fun _ => by kernel_rfl) ?_; clear hA ac; intro ac hA
              refine st hA (by kernel_rfl) (by kernel_rfl) (by kernel_rfl) (Runs.makeSlice (E := 3) (sz := 1) (en := enI) (n := Int.toNat (many)) (bytes := 8) (z0 := Value.int .i64 0) (0 : Int) (natval (k := many) (by kernel_rfl) (by omega)) (natval (k := many) (by kernel_rfl) (by omega)) (by kernel_rfl) elt_I (by kernel_rfl) (by kernel_rfl) (by omega) (by omega) (by simp only [maxLen]; omega) hW ?_); clear hA ac hW; intro b7 w8 hW hfw8 ac hA
              refine st_rd (v := Value.agg #[Value.slice (some ⟨b7, 0, none⟩) (Int.toNat (many)) (Int.toNat (many))]) hA (by kernel_rfl) (by kernel_rfl) (by kernel_rfl) hW.cls (Rd.pure fun _ => by kernel_rfl) ?_; clear hA ac; intro ac hA
              refine st hA (by kernel_rfl) (by kernel_rfl) (by kernel_rfl) (Runs.store (v := Value.agg #[Value.slice (some ⟨b7, 0, none⟩) (Int.toNat (many)) (Int.toNat (many))]) (b := b1) (j := 0) (n := 1) (cs' := #[Value.slice (some ⟨b7, 0, none⟩) (Int.toNat (many)) (Int.toNat (many))]) (H' := [rowR 3 1 enI (Value.slice (some ⟨b7, 0, none⟩) (Int.toNat (many)) (Int.toNat (many))) (List.replicate (Int.toNat (many)) (0 : Int)), Cel b1 #[Value.slice (some ⟨b7, 0, none⟩) (Int.toNat (many)) (Int.toNat (many))] 40]) (by kernel_rfl) (by kernel_rfl) (by kernel_rfl) (by kernel_rfl) (by kernel_rfl) hW 1 (by rfl) (Nat.le_of_ble_eq_true (by kernel_rfl)) (by kernel_rfl) (by rfl) ?_); clear hA ac hW; intro w10 hW ac hA
              refine st_rd (v := Value.int .i64 0) hA (by kernel_rfl) (by kernel_rfl) (by kernel_rfl) hW.cls (Rd.pure fun _ => by kernel_rfl) ?_; clear hA ac; intro ac hA
              refine wpList_nil ?_
              refine thenN ?_
              refine wp_ret ?_
              refine ret2 (v1 := Value.agg #[Value.slice (some ⟨b7, 0, none⟩) (Int.toNat (many)) (Int.toNat (many))]) (v2 := Value.int .i64 0) (by rfl) hA (Got.cell (b := b1) (i := 0) hA (by kernel_rfl) (by kernel_rfl) (hW.cel 1 rfl) (by kernel_rfl)) (Got.tmp hA (by kernel_rfl) (by kernel_rfl)) ?_
              clear hA
              exact ⟨retv (by rfl), hW.fr⟩))

set_option maxRecDepth 100000 in
theorem e_playsY (many : Int) (A_l : Option Addr) (c_l : Nat) (l : List Act13) (w : World) (hr_l : RowAt w A_l 3 enAct13 l) (hc_l : l.length ≤ c_l) (hm : 0 ≤ many ∧ many ≤ 64) : Calls Try.prog 4 #[Value.int .i64 many, Value.slice A_l l.length c_l] w (fun e w' => e = .returned (Value.bool true) ∧ Fr No w w') := by
  have _hu := hc_l; have _hv := hr_l; clear _hu _hv
  have _hu := hm; clear _hu
  refine enter_E 76 Try.func4 rfl rfl (by kernel_rfl) (L := [(0, Value.int .i64 many), (1, Value.slice A_l l.length c_l)]) (by kernel_rfl) ?_
  intro ac hA
  have hW := Ws.start w No
  have hW := hW.arg hr_l
  refine wp_seq ?_
  refine wp_region_lit ?_
  refine st_rd (v := Value.bool false) hA (by kernel_rfl) (by kernel_rfl) (by kernel_rfl) hW.cls (Rd.pure fun _ => by kernel_rfl) ?_; clear hA ac; intro ac hA
  refine wpList_nil ?_
  refine thenN ?_
  refine wp_seq ?_
  refine wp_seq ?_
  refine wp_region_lit ?_
  refine st_rd (v := Value.slice A_l l.length c_l) hA (by kernel_rfl) (by kernel_rfl) (by kernel_rfl) hW.cls (Rd.pure fun _ => by kernel_rfl) ?_; clear hA ac; intro ac hA
  refine st_rd (v := Value.int .i64 ((l.length : Nat) : Int)) hA (by kernel_rfl) (by kernel_rfl) (by kernel_rfl) hW.cls (Rd.pure fun _ => by kernel_rfl) ?_; clear hA ac; intro ac hA
  refine st_rd (v := Value.bool (decide ((((l.length : Nat) : Int) : Int) > (60 : Int)))) hA (by kernel_rfl) (by kernel_rfl) (by kernel_rfl) hW.cls (Rd.pure fun _ => by kernel_rfl) ?_; clear hA ac; intro ac hA
  refine wpList_nil ?_
  refine thenN ?_
  refine wp_cond_split (t := decide ((((l.length : Nat) : Int) : Int) > (60 : Int))) (hA.eval (by kernel_rfl)) (fun h1 => ?_) (fun h1 => ?_)
  · skip
    have h1 := of_decide_eq_true h1
    first
    | (exfalso; clear hA hW; omega)
    | (
        refine wp_seq ?_
        refine wp_region_lit ?_
        refine st hA (by kernel_rfl) (by kernel_rfl) (by kernel_rfl) (Runs.callN (v := Value.bool true) (fun _ => by kernel_rfl) hW (e_works13 w) ?_); clear hA ac hW; intro w2 hW hfw2 ac hA
        refine st_rd (v := Value.bool true) hA (by kernel_rfl) (by kernel_rfl) (by kernel_rfl) hW.cls (Rd.pure fun _ => by kernel_rfl) ?_; clear hA ac; intro ac hA
        refine wpList_nil ?_
        refine thenN ?_
        refine wp_ret ?_
        refine thenR ?_
        refine ret1 (v := Value.bool true) (by rfl) hA (Got.tmp hA (by kernel_rfl) (by kernel_rfl)) ?_
        clear hA
        exact ⟨retv (by rfl), hW.fr⟩)
  · skip
    have h1 := of_decide_eq_false h1
    first
    | (exfalso; clear hA hW; omega)
    | (
        refine wp_skip ?_
        refine thenN ?_
        refine wp_seq ?_
        refine wp_region_lit ?_
        refine st_rd (v := Value.int .i64 many) hA (by kernel_rfl) (by kernel_rfl) (by kernel_rfl) hW.cls (Rd.pure fun _ => by kernel_rfl) ?_; clear hA ac; intro ac hA
        refine st hA (by kernel_rfl) (by kernel_rfl) (by kernel_rfl) (Runs.call (fun _ => by kernel_rfl) (e_newY (many) w (by first | omega | assumption | (have := Rel13.small ‹_›; omega) | simp)) ?_)
        rintro _ w3 ⟨n4, n5, rfl, hu_⟩; refine ⟨_, rfl, ?_⟩; replace hW := hW.made hu_; clear hA ac; intro ac hA
        refine st_rd (v := Value.tuple #[Value.pointer (some ⟨n4, 0, none⟩), Value.int .i64 0]) hA (by kernel_rfl) (by kernel_rfl) (by kernel_rfl) hW.cls (Rd.pure fun _ => by kernel_rfl) ?_; clear hA ac; intro ac hA
        refine st_rd (v := Value.pointer (some ⟨n4, 0, none⟩)) hA (by kernel_rfl) (by kernel_rfl) (by kernel_rfl) hW.cls (Rd.pure fun _ => by kernel_rfl) ?_; clear hA ac; intro ac hA
        refine st_rd (v := Value.int .i64 0) hA (by kernel_rfl) (by kernel_rfl) (by kernel_rfl) hW.cls (Rd.pure fun _ => by kernel_rfl) ?_; clear hA ac; intro ac hA
        refine st_rd (v := Value.pointer (some ⟨n4, 0, none⟩)) hA (by kernel_rfl) (by kernel_rfl) (by kernel_rfl) hW.cls (Rd.pure fun _ => by kernel_rfl) ?_; clear hA ac; intro ac hA
        refine st_rd (v := Value.int .i64 0) hA (by kernel_rfl) (by kernel_rfl) (by kernel_rfl) hW.cls (Rd.pure fun _ => by kernel_rfl) ?_; clear hA ac; intro ac hA
        refine wpList_nil ?_
        refine thenN ?_
        refine wp_seq ?_
        refine wp_region_lit ?_
        refine st_rd (v := Value.int .i64 many) hA (by kernel_rfl) (by kernel_rfl) (by kernel_rfl) hW.cls (Rd.pure fun _ => by kernel_rfl) ?_; clear hA ac; intro ac hA
        refine st hA (by kernel_rfl) (by kernel_rfl) (by kernel_rfl) (Runs.call (fun _ => by kernel_rfl) (e_rnewY (many) w3 (by first | omega | assumption | (have := Rel13.small ‹_›; omega) | simp)) ?_)
        rintro _ w6 ⟨Ao7, co8, rfl, hcco8, hfco8, hfw6⟩; refine ⟨_, rfl, ?_⟩; have hW0 := hW; have hW := hW0.call hfw6
        have hW := hW0.addFromAt hW hfco8 in_nil
        clear hW0 hA ac; intro ac hA
        refine st_rd (v := Value.tuple #[Value.agg #[Value.slice Ao7 (List.replicate (Int.toNat ((many))) (0 : Int)).length co8], Value.int .i64 0]) hA (by kernel_rfl) (by kernel_rfl) (by kernel_rfl) hW.cls (Rd.pure fun _ => by kernel_rfl) ?_; clear hA ac; intro ac hA
        refine st_rd (v := Value.agg #[Value.slice Ao7 (List.replicate (Int.toNat ((many))) (0 : Int)).length co8]) hA (by kernel_rfl) (by kernel_rfl) (by kernel_rfl) hW.cls (Rd.pure fun _ => by kernel_rfl) ?_; clear hA ac; intro ac hA
        refine st_rd (v := Value.int .i64 0) hA (by kernel_rfl) (by kernel_rfl) (by kernel_rfl) hW.cls (Rd.pure fun _ => by kernel_rfl) ?_; clear hA ac; intro ac hA
        refine st hA (by kernel_rfl) (by kernel_rfl) (by kernel_rfl) (Runs.cells (fun b => Value.pointer (some ⟨b, 0, none⟩)) #[Value.slice none 0 0] 40 (fun _ => by kernel_rfl) hW ?_); clear hA ac hW; intro b9 w10 hW hb9 hfw10 ac hA
        refine st hA (by kernel_rfl) (by kernel_rfl) (by kernel_rfl) (Runs.store (v := Value.agg #[Value.slice Ao7 (List.replicate (Int.toNat ((many))) (0 : Int)).length co8]) (b := b9) (j := 0) (n := 1) (cs' := #[Value.slice Ao7 (List.replicate (Int.toNat ((many))) (0 : Int)).length co8]) (H' := [Cel b9 #[Value.slice Ao7 (List.replicate (Int.toNat ((many))) (0 : Int)).length co8] 40, MutR n4 n5 ([]) (many)]) (by kernel_rfl) (by kernel_rfl) (by kernel_rfl) (by kernel_rfl) (by kernel_rfl) hW 0 (by rfl) (Nat.le_of_ble_eq_true (by kernel_rfl)) (by kernel_rfl) (by rfl) ?_); clear hA ac hW; intro w11 hW ac hA
        refine st_rd (v := Value.int .i64 0) hA (by kernel_rfl) (by kernel_rfl) (by kernel_rfl) hW.cls (Rd.pure fun _ => by kernel_rfl) ?_; clear hA ac; intro ac hA
        refine wpList_nil ?_
        refine thenN ?_
        refine wp_seq ?_
        refine wp_seq ?_
        refine wp_region_lit ?_
        refine st_rd (v := Value.int .i64 0) hA (by kernel_rfl) (by kernel_rfl) (by kernel_rfl) hW.cls (Rd.pure fun _ => by kernel_rfl) ?_; clear hA ac; intro ac hA
        refine st hA (by kernel_rfl) (by kernel_rfl) (by kernel_rfl) (Runs.callS (v := Value.int .i64 (0)) (fun _ => by kernel_rfl) (e_num13 (0) w11) ?_); clear hA ac; intro  ac hA
        refine st_rd (v := Value.int .i64 0) hA (by kernel_rfl) (by kernel_rfl) (by kernel_rfl) hW.cls (Rd.pure fun _ => by kernel_rfl) ?_; clear hA ac; intro ac hA
        refine st_rd (v := Value.bool (((0) : Int) != (0 : Int))) hA (by kernel_rfl) (by kernel_rfl) (by kernel_rfl) hW.cls (Rd.pure fun _ => by kernel_rfl) ?_; clear hA ac; intro ac hA
        refine st_rd (v := Value.bool (((0) : Int) != (0 : Int))) hA (by kernel_rfl) (by kernel_rfl) (by kernel_rfl) hW.cls (Rd.pure fun _ => by kernel_rfl) ?_; clear hA ac; intro ac hA
        rcases Bool.eq_false_or_eq_true (((0) : Int) != (0 : Int)) with h12 | h12
        · skip
          rw [h12] at hA
          have h12 := bne_iff_ne.1 h12
          first
          | (exfalso; clear hA hW; omega)
          | (
              refine st_skip hA (by kernel_rfl) (by kernel_rfl) ?_; clear hA ac; intro ac hA
              refine st_skip hA (by kernel_rfl) (by kernel_rfl) ?_; clear hA ac; intro ac hA
              refine st_skip hA (by kernel_rfl) (by kernel_rfl) ?_; clear hA ac; intro ac hA
              refine st_skip hA (by kernel_rfl) (by kernel_rfl) ?_; clear hA ac; intro ac hA
              refine st_skip hA (by kernel_rfl) (by kernel_rfl) ?_; clear hA ac; intro ac hA
              refine st_rd (v := Value.bool true) hA (by kernel_rfl) (by kernel_rfl) (by kernel_rfl) hW.cls (Rd.pure fun _ => by kernel_rfl) ?_; clear hA ac; intro ac hA
              refine wpList_nil ?_
              refine thenN ?_
              refine wp_cond_true (hA.eval (by kernel_rfl)) ?_
              refine wp_seq ?_
              refine wp_region_lit ?_
              refine st_rd (v := Value.bool false) hA (by kernel_rfl) (by kernel_rfl) (by kernel_rfl) hW.cls (Rd.pure fun _ => by kernel_rfl) ?_; clear hA ac; intro ac hA
              refine wpList_nil ?_
              refine thenN ?_
              refine wp_ret ?_
              refine thenR ?_
              refine ret1 (v := Value.bool false) (by rfl) hA (Got.tmp hA (by kernel_rfl) (by kernel_rfl)) ?_
              clear hA
              exact ⟨retv (by rfl), hW.fr⟩)
        · skip
          rw [h12] at hA
          have h12 := of_bne_f h12
          first
          | (exfalso; clear hA hW; omega)
          | (
              refine st_rd (v := Value.pointer (some ⟨n4, 0, none⟩)) hA (by kernel_rfl) (by kernel_rfl) (by kernel_rfl) hW.cls (Rd.pure fun _ => by kernel_rfl) ?_; clear hA ac; intro ac hA
              refine st_rd (v := Value.bool true) hA (by kernel_rfl) (by kernel_rfl) (by kernel_rfl) hW.cls (Rd.pure fun _ => by kernel_rfl) ?_; clear hA ac; intro ac hA
              refine st_rd (v := Value.int .i64 0) hA (by kernel_rfl) (by kernel_rfl) (by kernel_rfl) hW.cls (Rd.pure fun _ => by kernel_rfl) ?_; clear hA ac; intro ac hA
              refine st_rd (v := Value.bool true) hA (by kernel_rfl) (by kernel_rfl) (by kernel_rfl) hW.cls (Rd.pure fun _ => by kernel_rfl) ?_; clear hA ac; intro ac hA
              refine st_rd (v := Value.bool false) hA (by kernel_rfl) (by kernel_rfl) (by kernel_rfl) hW.cls (Rd.pure fun _ => by kernel_rfl) ?_; clear hA ac; intro ac hA
              refine st_rd (v := Value.bool false) hA (by kernel_rfl) (by kernel_rfl) (by kernel_rfl) hW.cls (Rd.pure fun _ => by kernel_rfl) ?_; clear hA ac; intro ac hA
              refine wpList_nil ?_
              refine thenN ?_
              refine wp_cond_false (hA.eval (by kernel_rfl)) ?_
              refine wp_skip ?_
              refine thenN ?_
              refine wp_seq ?_
              refine wp_seq ?_
              refine wp_region_lit ?_
              refine st_rd (v := Value.int .i64 0) hA (by kernel_rfl) (by kernel_rfl) (by kernel_rfl) hW.cls (Rd.pure fun _ => by kernel_rfl) ?_; clear hA ac; intro ac hA
              refine st_rd (v := Value.bool false) hA (by kernel_rfl) (by kernel_rfl) (by kernel_rfl) hW.cls (Rd.pure fun _ => by kernel_rfl) ?_; clear hA ac; intro ac hA
              refine wpList_nil ?_
              refine thenN ?_
              refine wp_cond_false (hA.eval (by kernel_rfl)) ?_
              refine wp_skip ?_
              refine thenN ?_
              refine wp_seq ?_
              refine wp_seq ?_
              refine wp_region_lit ?_
              refine st_rd (v := Value.int .i64 0) hA (by kernel_rfl) (by kernel_rfl) (by kernel_rfl) hW.cls (Rd.pure fun _ => by kernel_rfl) ?_; clear hA ac; intro ac hA
              refine wpList_nil ?_
              refine thenN ?_
              refine wp_block ?_
              refine wp_loop_m (fun m_ ac_ wl_ => ∃ k : Nat, ∃ m : Nat, ∃ b : Nat, ∃ h : List (Int × Int), ∃ L : List Int, ∃ A : Option Addr, ∃ c : Nat, m_ = l.length - k ∧ (k ≤ l.length) ∧ (Rel13 L h many) ∧ (L.length ≤ c) ∧ Fm 76 [] [(0, Value.int .i64 many), (1, Value.slice A_l l.length c_l), (5, Value.pointer (some ⟨m, 0, none⟩)), (7, Value.pointer (some ⟨b9, 0, none⟩)), (8, Value.int .i64 0), (9, Value.int .i64 ((k : Nat) : Int))] ac_ ∧ Ws w No [Cel b9 #[Value.slice A L.length c] 40, MutR m b h many] [roR A 1 enI L, roR A_l 3 enAct13 l] wl_) _ ⟨0, n4, n5, [], List.replicate (Int.toNat ((many))) (0 : Int), Ao7, co8, rfl, by omega, by exact Rel13.start hm.1 hm.2, by exact hcco8, hA.sub ⟨⟨by kernel_rfl, by kernel_rfl⟩, ⟨by kernel_rfl, by kernel_rfl⟩, ⟨by kernel_rfl, by kernel_rfl⟩, ⟨by kernel_rfl, by kernel_rfl⟩, ⟨by kernel_rfl, by kernel_rfl⟩, ⟨by kernel_rfl, by kernel_rfl⟩, trivial⟩, (hW.pick [0, 1] (by decide) rfl).pickG [0, 1] rfl⟩ ?_
              clear hA ac hW; rintro m_ ac w13 ⟨k, m, b, h, L, A, c, rfl, hk, hR, hcc, hA, hW⟩
              have hs1 := hR.small; have hs2 := hR.len64
              refine wp_seq ?_
              refine wp_seq ?_
              refine wp_region_lit ?_
              refine st_rd (v := Value.int .i64 ((k : Nat) : Int)) hA (by kernel_rfl) (by kernel_rfl) (by kernel_rfl) hW.cls (Rd.pure fun _ => by kernel_rfl) ?_; clear hA ac; intro ac hA
              refine st_rd (v := Value.slice A_l l.length c_l) hA (by kernel_rfl) (by kernel_rfl) (by kernel_rfl) hW.cls (Rd.pure fun _ => by kernel_rfl) ?_; clear hA ac; intro ac hA
              refine st_rd (v := Value.int .i64 ((l.length : Nat) : Int)) hA (by kernel_rfl) (by kernel_rfl) (by kernel_rfl) hW.cls (Rd.pure fun _ => by kernel_rfl) ?_; clear hA ac; intro ac hA
              refine st_rd (v := Value.bool (decide ((((k : Nat) : Int) : Int) < (((l.length : Nat) : Int) : Int)))) hA (by kernel_rfl) (by kernel_rfl) (by kernel_rfl) hW.cls (Rd.pure fun _ => by kernel_rfl) ?_; clear hA ac; intro ac hA
              refine wpList_nil ?_
              refine thenN ?_
              refine wp_cond_split (t := decide ((((k : Nat) : Int) : Int) < (((l.length : Nat) : Int) : Int))) (hA.eval (by kernel_rfl)) (fun h14 => ?_) (fun h14 => ?_)
              · skip
                have h14 := of_decide_eq_true h14
                first
                | (exfalso; clear hA hW; omega)
                | (
                    refine wp_skip ?_
                    refine thenN ?_
                    refine wp_seq ?_
                    refine wp_block ?_
                    refine wp_seq ?_
                    obtain ⟨y15, hy15⟩ : ∃ y, l[k]? = some y := ⟨_, List.getElem?_eq_getElem (by omega)⟩
                    obtain ⟨b16, o17, rfl, hbb16⟩ := row_some ((hW).getG 1 rfl) hy15
                    refine wp_cut (fun ac_ wl_ => ∃ Aor12_6 : Option Addr, ∃ br12_11 : Nat, ∃ cor12_6 : Nat, ∃ g0r12_6 : Nat, ∃ g1r12_6 : Nat, ∃ g2r12_6 : List (Int × Int), ∃ g3r12_6 : List Int, ((g3r12_6).length ≤ cor12_6) ∧ (Rel13 g3r12_6 g2r12_6 many) ∧ Fm 76 [] [(0, Value.int .i64 many), (1, Value.slice (some ⟨b16, o17, none⟩) l.length c_l), (5, Value.pointer (some ⟨m, 0, none⟩)), (7, Value.pointer (some ⟨b9, 0, none⟩)), (8, Value.int .i64 0), (9, Value.int .i64 ((k : Nat) : Int)), (10, Value.pointer (some ⟨g0r12_6, 0, none⟩)), (11, Value.pointer (some ⟨br12_11, 0, none⟩)), (12, Value.bool true), (41, Value.int .i64 ((k : Nat) : Int)), (42, Value.slice (some ⟨b16, o17, none⟩) l.length c_l), (43, Value.int .i64 ((l.length : Nat) : Int)), (44, Value.bool (decide ((((k : Nat) : Int) : Int) < (((l.length : Nat) : Int) : Int))))] ac_ ∧ Ws w No [Cel br12_11 #[Value.slice Aor12_6 (g3r12_6).length cor12_6] 40, Cel b9 #[Value.slice A L.length c] 40, MutR g0r12_6 g1r12_6 g2r12_6 many] [roR Aor12_6 1 enI g3r12_6, roR A 1 enI L, roR (some ⟨b16, o17, none⟩) 3 enAct13 l] wl_) ?_ ?_
                    · refine sr_region (m := 15) (C := Ws w No [Cel b9 #[Value.slice A L.length c] 40] [roR A 1 enI L, roR (some ⟨b16, o17, none⟩) 3 enAct13 l]) (fun i => [1, 5].contains i) (fun i => [1, 5, 11].contains i) (fun i => [0, 2, 3, 4, 7, 8, 9, 10, 12, 14].contains i) (by kernel_rfl) (by kernel_rfl) (by kernel_rfl) (by kernel_rfl) hW ?_; clear hW; intro w18 hW hfw18 hR; have hC : Ws w No [Cel b9 #[Value.slice A L.length c] 40] [roR A 1 enI L, roR (some ⟨b16, o17, none⟩) 3 enAct13 l] w18 := hW.pick [0] (by decide) rfl
                      refine sr_pure (i := 0) (v := Value.pointer (some ⟨m, 0, none⟩)) hR (by kernel_rfl) rfl (by kernel_rfl) (by kernel_rfl) (fun _ _ _ h => h.elim) hA (by kernel_rfl) (by kernel_rfl) (by kernel_rfl) (Rd.pure fun _ => by kernel_rfl) ?_; clear hA ac; intro ac hA
                      refine sr_take (i := 1) (v := Value.agg #[Value.slice A L.length c]) hR (by kernel_rfl) rfl (by kernel_rfl) (by kernel_rfl) (by kernel_rfl) (fun _ _ _ h => h.elim) hA (by kernel_rfl) (by kernel_rfl) (by kernel_rfl) hC (Rd.load (b := b9) (i := 0) (by kernel_rfl) (fun _ hw => (hw).cel 0 rfl) (by kernel_rfl)) ?_; clear hA ac; intro ac hA
                      refine sr_pure (i := 2) (v := Value.slice (some ⟨b16, o17, none⟩) l.length c_l) hR (by kernel_rfl) rfl (by kernel_rfl) (by kernel_rfl) (fun _ _ _ h => h.elim) hA (by kernel_rfl) (by kernel_rfl) (by kernel_rfl) (Rd.pure fun _ => by kernel_rfl) ?_; clear hA ac; intro ac hA
                      refine sr_pure (i := 3) (v := Value.int .i64 ((k : Nat) : Int)) hR (by kernel_rfl) rfl (by kernel_rfl) (by kernel_rfl) (fun _ _ _ h => h.elim) hA (by kernel_rfl) (by kernel_rfl) (by kernel_rfl) (Rd.pure fun _ => by kernel_rfl) ?_; clear hA ac; intro ac hA
                      refine sr_pure (i := 4) (v := Value.pointer (some ⟨b16, o17 + k * 3, none⟩)) hR (by kernel_rfl) rfl (by kernel_rfl) (by kernel_rfl) (fun _ _ _ h => h.elim) hA (by kernel_rfl) (by kernel_rfl) (by kernel_rfl) (Rd.indexAddr (e := 30) (sz := 3) (b := b16) (off := o17) (n := l.length) (c := c_l) (k := k) (by kernel_rfl) (by kernel_rfl) (by first | omega | (simp; done) | (simp; omega)) (fun _ => by kernel_rfl) (fun _ => by kernel_rfl)) ?_; clear hA ac; intro ac hA
                      refine sr_take (i := 5) (v := Value.agg #[Value.int .i64 y15.what, Value.int .i64 y15.i, Value.int .i64 y15.by_]) hR (by kernel_rfl) rfl (by kernel_rfl) (by kernel_rfl) (by kernel_rfl) (fun _ _ _ h => h.elim) hA (by kernel_rfl) (by kernel_rfl) (by kernel_rfl) hC (Rd.loadRow (b := b16) (i := o17 + k * 3) (xs := [Value.int .i64 y15.what, Value.int .i64 y15.i, Value.int .i64 y15.by_]) (by kernel_rfl) (fun _ hw => row_ld ((hw).getG 1 rfl) hy15 (Fr.refl No _) (fun h => h) 0 3 (by kernel_rfl)) (by kernel_rfl)) ?_; clear hA ac; intro ac hA
                      refine sr_two (i := 6) (j := 11) (by kernel_rfl) ?_ ?_
                      · skip
                        refine (sr_do rfl hA (by kernel_rfl) (by kernel_rfl) (by kernel_rfl) (Runs.call (fun _ => by kernel_rfl) (e_act m b h many A c L y15 w18 ((hW).get 1 rfl) ((hW).lt _ (List.mem_of_getElem? (i := 1) rfl)) ((hW).getG 0 rfl) (by first | assumption | omega | (simp; omega) | simp) ((hW).gd _ (List.mem_of_getElem? (i := 0) rfl) _ (List.mem_of_getElem? (i := 1) rfl)) (by first | omega | assumption | (have := Rel13.small ‹_›; omega) | simp) (by first | omega | assumption | (have := Rel13.small ‹_›; omega) | simp)) ?_))
                        rintro _ w19 ⟨g0r12_6, g1r12_6, g2r12_6, g3r12_6, Aor12_6, cor12_6, rfl, hr12_6_hR, hccor12_6, hfcor12_6, hdcor12_6, hu_⟩; refine ⟨_, rfl, ?_⟩; have hW0 := hW; have hW := hW.upd (H' := [Cel b9 #[Value.slice A L.length c] 40, MutR g0r12_6 g1r12_6 g2r12_6 many]) 1 rfl hu_ rfl
                        have hW := hW0.addFromU hW 1 rfl rfl hfcor12_6 (in_cons (in_at 0 rfl) in_nil) hdcor12_6
                        clear hW0 hu_ hfcor12_6 hdcor12_6 hA ac; intro ac hA
                        refine ⟨⟨fun h => absurd h (by decide), fun h => absurd h (by decide)⟩, ?_⟩
                        refine sr_pure (i := 7) (v := Value.tuple #[Value.pointer (some ⟨g0r12_6, 0, none⟩), Value.agg #[Value.slice Aor12_6 (g3r12_6).length cor12_6], Value.bool true]) hR (by kernel_rfl) rfl (by kernel_rfl) (by kernel_rfl) (fun _ _ _ h => h.elim) hA (by kernel_rfl) (by kernel_rfl) (by kernel_rfl) (Rd.pure fun _ => by kernel_rfl) ?_; clear hA ac; intro ac hA
                        refine sr_pure (i := 8) (v := Value.pointer (some ⟨g0r12_6, 0, none⟩)) hR (by kernel_rfl) rfl (by kernel_rfl) (by kernel_rfl) (fun _ _ _ h => h.elim) hA (by kernel_rfl) (by kernel_rfl) (by kernel_rfl) (Rd.pure fun _ => by kernel_rfl) ?_; clear hA ac; intro ac hA
                        refine sr_pure (i := 9) (v := Value.agg #[Value.slice Aor12_6 (g3r12_6).length cor12_6]) hR (by kernel_rfl) rfl (by kernel_rfl) (by kernel_rfl) (fun _ _ _ h => h.elim) hA (by kernel_rfl) (by kernel_rfl) (by kernel_rfl) (Rd.pure fun _ => by kernel_rfl) ?_; clear hA ac; intro ac hA
                        refine sr_pure (i := 10) (v := Value.bool true) hR (by kernel_rfl) rfl (by kernel_rfl) (by kernel_rfl) (fun _ _ _ h => h.elim) hA (by kernel_rfl) (by kernel_rfl) (by kernel_rfl) (Rd.pure fun _ => by kernel_rfl) ?_; clear hA ac; intro ac hA
                        refine sr_one (i := 11) (by kernel_rfl) (sr_do rfl hA (by kernel_rfl) (by kernel_rfl) (by kernel_rfl) (Runs.cells (fun b => Value.pointer (some ⟨b, 0, none⟩)) #[Value.slice none 0 0] 40 (fun _ => by kernel_rfl) hW ?_)); clear hA ac hW; intro br12_11 w20 hW hbr12_11 hfw20 ac hA
                        refine ⟨⟨fun _ => (hW.pick [1] (by decide) rfl).pickG [1, 2] rfl, fun h => absurd h (by decide)⟩, ?_⟩; have hC : Ws w No [Cel b9 #[Value.slice A L.length c] 40] [roR A 1 enI L, roR (some ⟨b16, o17, none⟩) 3 enAct13 l] w20 := (hW.pick [1] (by decide) rfl).pickG [1, 2] rfl
                        refine sr_pure (i := 12) (v := Value.pointer (some ⟨g0r12_6, 0, none⟩)) hR (by kernel_rfl) rfl (by kernel_rfl) (by kernel_rfl) (fun _ _ _ h => h.elim) hA (by kernel_rfl) (by kernel_rfl) (by kernel_rfl) (Rd.pure fun _ => by kernel_rfl) ?_; clear hA ac; intro ac hA
                        refine sr_one (i := 13) (by kernel_rfl) (sr_do rfl hA (by kernel_rfl) (by kernel_rfl) (by kernel_rfl) (Runs.store (v := Value.agg #[Value.slice Aor12_6 (g3r12_6).length cor12_6]) (b := br12_11) (j := 0) (n := 1) (cs' := #[Value.slice Aor12_6 (g3r12_6).length cor12_6]) (H' := [Cel br12_11 #[Value.slice Aor12_6 (g3r12_6).length cor12_6] 40, Cel b9 #[Value.slice A L.length c] 40, MutR g0r12_6 g1r12_6 g2r12_6 many]) (by kernel_rfl) (by kernel_rfl) (by kernel_rfl) (by kernel_rfl) (by kernel_rfl) hW 0 (by rfl) (Nat.le_of_ble_eq_true (by kernel_rfl)) (by kernel_rfl) (by rfl) ?_)); clear hA ac hW; intro w21 hW ac hA
                        refine ⟨⟨fun h => absurd h (by decide), fun h => absurd h (by decide)⟩, ?_⟩
                        refine sr_pure (i := 14) (v := Value.bool true) hR (by kernel_rfl) rfl (by kernel_rfl) (by kernel_rfl) (fun _ _ _ h => h.elim) hA (by kernel_rfl) (by kernel_rfl) (by kernel_rfl) (Rd.pure fun _ => by kernel_rfl) ?_; clear hA ac; intro ac hA
                        refine sr_done (by kernel_rfl) ?_ _
                        exact ⟨Aor12_6, br12_11, cor12_6, g0r12_6, g1r12_6, g2r12_6, g3r12_6, hccor12_6, hr12_6_hR, hA.sub ⟨⟨by kernel_rfl, by kernel_rfl⟩, ⟨by kernel_rfl, by kernel_rfl⟩, ⟨by kernel_rfl, by kernel_rfl⟩, ⟨by kernel_rfl, by kernel_rfl⟩, ⟨by kernel_rfl, by kernel_rfl⟩, ⟨by kernel_rfl, by kernel_rfl⟩, ⟨by kernel_rfl, by kernel_rfl⟩, ⟨by kernel_rfl, by kernel_rfl⟩, ⟨by kernel_rfl, by kernel_rfl⟩, ⟨by kernel_rfl, by kernel_rfl⟩, ⟨by kernel_rfl, by kernel_rfl⟩, ⟨by kernel_rfl, by kernel_rfl⟩, ⟨by kernel_rfl, by kernel_rfl⟩, trivial⟩, (hW.pick [0, 1, 2] (by decide) rfl).pickG [0, 1, 2] rfl⟩
                      · skip
                        refine (sr_do rfl hA (by kernel_rfl) (by kernel_rfl) (by kernel_rfl) (Runs.cells (fun b => Value.pointer (some ⟨b, 0, none⟩)) #[Value.slice none 0 0] 40 (fun _ => by kernel_rfl) hW ?_)); clear hA ac hW; intro br12_11 w22 hW hbr12_11 hfw22 ac hA
                        refine ⟨⟨fun _ => (hW.pick [1] (by decide) rfl).pickG [0, 1] rfl, fun h => absurd h (by decide)⟩, ?_⟩; have hC : Ws w No [Cel b9 #[Value.slice A L.length c] 40] [roR A 1 enI L, roR (some ⟨b16, o17, none⟩) 3 enAct13 l] w22 := (hW.pick [1] (by decide) rfl).pickG [0, 1] rfl
                        refine sr_one (i := 6) (by kernel_rfl) (sr_do rfl hA (by kernel_rfl) (by kernel_rfl) (by kernel_rfl) (Runs.call (fun _ => by kernel_rfl) (e_act m b h many A c L y15 w22 ((hW).get 2 rfl) ((hW).lt _ (List.mem_of_getElem? (i := 2) rfl)) ((hW).getG 0 rfl) (by first | assumption | omega | (simp; omega) | simp) ((hW).gd _ (List.mem_of_getElem? (i := 0) rfl) _ (List.mem_of_getElem? (i := 2) rfl)) (by first | omega | assumption | (have := Rel13.small ‹_›; omega) | simp) (by first | omega | assumption | (have := Rel13.small ‹_›; omega) | simp)) ?_))
                        rintro _ w23 ⟨g0r12_6, g1r12_6, g2r12_6, g3r12_6, Aor12_6, cor12_6, rfl, hr12_6_hR, hccor12_6, hfcor12_6, hdcor12_6, hu_⟩; refine ⟨_, rfl, ?_⟩; have hW0 := hW; have hW := hW.upd (H' := [Cel br12_11 #[Value.slice none 0 0] 40, Cel b9 #[Value.slice A L.length c] 40, MutR g0r12_6 g1r12_6 g2r12_6 many]) 2 rfl hu_ rfl
                        have hW := hW0.addFromU hW 2 rfl rfl hfcor12_6 (in_cons (in_at 0 rfl) in_nil) hdcor12_6
                        clear hW0 hu_ hfcor12_6 hdcor12_6 hA ac; intro ac hA
                        refine ⟨⟨fun h => absurd h (by decide), fun h => absurd h (by decide)⟩, ?_⟩
                        refine sr_pure (i := 7) (v := Value.tuple #[Value.pointer (some ⟨g0r12_6, 0, none⟩), Value.agg #[Value.slice Aor12_6 (g3r12_6).length cor12_6], Value.bool true]) hR (by kernel_rfl) rfl (by kernel_rfl) (by kernel_rfl) (fun _ _ _ h => h.elim) hA (by kernel_rfl) (by kernel_rfl) (by kernel_rfl) (Rd.pure fun _ => by kernel_rfl) ?_; clear hA ac; intro ac hA
                        refine sr_pure (i := 8) (v := Value.pointer (some ⟨g0r12_6, 0, none⟩)) hR (by kernel_rfl) rfl (by kernel_rfl) (by kernel_rfl) (fun _ _ _ h => h.elim) hA (by kernel_rfl) (by kernel_rfl) (by kernel_rfl) (Rd.pure fun _ => by kernel_rfl) ?_; clear hA ac; intro ac hA
                        refine sr_pure (i := 9) (v := Value.agg #[Value.slice Aor12_6 (g3r12_6).length cor12_6]) hR (by kernel_rfl) rfl (by kernel_rfl) (by kernel_rfl) (fun _ _ _ h => h.elim) hA (by kernel_rfl) (by kernel_rfl) (by kernel_rfl) (Rd.pure fun _ => by kernel_rfl) ?_; clear hA ac; intro ac hA
                        refine sr_pure (i := 10) (v := Value.bool true) hR (by kernel_rfl) rfl (by kernel_rfl) (by kernel_rfl) (fun _ _ _ h => h.elim) hA (by kernel_rfl) (by kernel_rfl) (by kernel_rfl) (Rd.pure fun _ => by kernel_rfl) ?_; clear hA ac; intro ac hA
                        refine sr_pure (i := 12) (v := Value.pointer (some ⟨g0r12_6, 0, none⟩)) hR (by kernel_rfl) rfl (by kernel_rfl) (by kernel_rfl) (fun _ _ _ h => h.elim) hA (by kernel_rfl) (by kernel_rfl) (by kernel_rfl) (Rd.pure fun _ => by kernel_rfl) ?_; clear hA ac; intro ac hA
                        refine sr_one (i := 13) (by kernel_rfl) (sr_do rfl hA (by kernel_rfl) (by kernel_rfl) (by kernel_rfl) (Runs.store (v := Value.agg #[Value.slice Aor12_6 (g3r12_6).length cor12_6]) (b := br12_11) (j := 0) (n := 1) (cs' := #[Value.slice Aor12_6 (g3r12_6).length cor12_6]) (H' := [Cel br12_11 #[Value.slice Aor12_6 (g3r12_6).length cor12_6] 40, Cel b9 #[Value.slice A L.length c] 40, MutR g0r12_6 g1r12_6 g2r12_6 many]) (by kernel_rfl) (by kernel_rfl) (by kernel_rfl) (by kernel_rfl) (by kernel_rfl) hW 0 (by rfl) (Nat.le_of_ble_eq_true (by kernel_rfl)) (by kernel_rfl) (by rfl) ?_)); clear hA ac hW; intro w24 hW ac hA
                        refine ⟨⟨fun h => absurd h (by decide), fun h => absurd h (by decide)⟩, ?_⟩
                        refine sr_pure (i := 14) (v := Value.bool true) hR (by kernel_rfl) rfl (by kernel_rfl) (by kernel_rfl) (fun _ _ _ h => h.elim) hA (by kernel_rfl) (by kernel_rfl) (by kernel_rfl) (Rd.pure fun _ => by kernel_rfl) ?_; clear hA ac; intro ac hA
                        refine sr_done (by kernel_rfl) ?_ _
                        exact ⟨Aor12_6, br12_11, cor12_6, g0r12_6, g1r12_6, g2r12_6, g3r12_6, hccor12_6, hr12_6_hR, hA.sub ⟨⟨by kernel_rfl, by kernel_rfl⟩, ⟨by kernel_rfl, by kernel_rfl⟩, ⟨by kernel_rfl, by kernel_rfl⟩, ⟨by kernel_rfl, by kernel_rfl⟩, ⟨by kernel_rfl, by kernel_rfl⟩, ⟨by kernel_rfl, by kernel_rfl⟩, ⟨by kernel_rfl, by kernel_rfl⟩, ⟨by kernel_rfl, by kernel_rfl⟩, ⟨by kernel_rfl, by kernel_rfl⟩, ⟨by kernel_rfl, by kernel_rfl⟩, ⟨by kernel_rfl, by kernel_rfl⟩, ⟨by kernel_rfl, by kernel_rfl⟩, ⟨by kernel_rfl, by kernel_rfl⟩, trivial⟩, (hW.pick [0, 1, 2] (by decide) rfl).pickG [0, 1, 2] rfl⟩
                    clear hA ac hW; rintro ac w25 ⟨Aor12_6, br12_11, cor12_6, g0r12_6, g1r12_6, g2r12_6, g3r12_6, hccor12_6, hr12_6_hR, hA, hW⟩
                    refine thenN ?_
                    refine wp_seq ?_
                    refine wp_cut (fun ac_ wl_ => Fm 76 [] [(0, Value.int .i64 many), (1, Value.slice (some ⟨b16, o17, none⟩) l.length c_l), (5, Value.pointer (some ⟨g0r12_6, 0, none⟩)), (7, Value.pointer (some ⟨b9, 0, none⟩)), (8, Value.int .i64 0), (9, Value.int .i64 ((k : Nat) : Int)), (11, Value.pointer (some ⟨br12_11, 0, none⟩)), (12, Value.bool true), (41, Value.int .i64 ((k : Nat) : Int)), (42, Value.slice (some ⟨b16, o17, none⟩) l.length c_l), (43, Value.int .i64 ((l.length : Nat) : Int)), (44, Value.bool (decide ((((k : Nat) : Int) : Int) < (((l.length : Nat) : Int) : Int))))] ac_ ∧ Ws w No [Cel br12_11 #[Value.slice Aor12_6 (g3r12_6).length cor12_6] 40, Cel b9 #[Value.slice Aor12_6 (g3r12_6).length cor12_6] 40, MutR g0r12_6 g1r12_6 g2r12_6 many] [roR Aor12_6 1 enI g3r12_6, roR A 1 enI L, roR (some ⟨b16, o17, none⟩) 3 enAct13 l] wl_) ?_ ?_
                    · refine sr_region (m := 4) (C := Ws w No [Cel br12_11 #[Value.slice Aor12_6 (g3r12_6).length cor12_6] 40, Cel b9 #[Value.slice A L.length c] 40, MutR g0r12_6 g1r12_6 g2r12_6 many] [roR Aor12_6 1 enI g3r12_6, roR A 1 enI L, roR (some ⟨b16, o17, none⟩) 3 enAct13 l]) (fun i => [1].contains i) (fun i => [1].contains i) (fun i => [0, 2].contains i) (by kernel_rfl) (by kernel_rfl) (by kernel_rfl) (by kernel_rfl) hW ?_; clear hW; intro w26 hW hfw26 hR; have hC : Ws w No [Cel br12_11 #[Value.slice Aor12_6 (g3r12_6).length cor12_6] 40, Cel b9 #[Value.slice A L.length c] 40, MutR g0r12_6 g1r12_6 g2r12_6 many] [roR Aor12_6 1 enI g3r12_6, roR A 1 enI L, roR (some ⟨b16, o17, none⟩) 3 enAct13 l] w26 := hW.pick [0, 1, 2] (by decide) rfl
                      refine sr_pure (i := 0) (v := Value.pointer (some ⟨g0r12_6, 0, none⟩)) hR (by kernel_rfl) rfl (by kernel_rfl) (by kernel_rfl) (fun _ _ _ h => h.elim) hA (by kernel_rfl) (by kernel_rfl) (by kernel_rfl) (Rd.pure fun _ => by kernel_rfl) ?_; clear hA ac; intro ac hA
                      refine sr_take (i := 1) (v := Value.agg #[Value.slice Aor12_6 (g3r12_6).length cor12_6]) hR (by kernel_rfl) rfl (by kernel_rfl) (by kernel_rfl) (by kernel_rfl) (fun _ _ _ h => h.elim) hA (by kernel_rfl) (by kernel_rfl) (by kernel_rfl) hC (Rd.load (b := br12_11) (i := 0) (by kernel_rfl) (fun _ hw => (hw).cel 0 rfl) (by kernel_rfl)) ?_; clear hA ac; intro ac hA
                      refine sr_pure (i := 2) (v := Value.pointer (some ⟨g0r12_6, 0, none⟩)) hR (by kernel_rfl) rfl (by kernel_rfl) (by kernel_rfl) (fun _ _ _ h => h.elim) hA (by kernel_rfl) (by kernel_rfl) (by kernel_rfl) (Rd.pure fun _ => by kernel_rfl) ?_; clear hA ac; intro ac hA
                      refine sr_one (i := 3) (by kernel_rfl) (sr_do rfl hA (by kernel_rfl) (by kernel_rfl) (by kernel_rfl) (Runs.store (v := Value.agg #[Value.slice Aor12_6 (g3r12_6).length cor12_6]) (b := b9) (j := 0) (n := 1) (cs' := #[Value.slice Aor12_6 (g3r12_6).length cor12_6]) (H' := [Cel br12_11 #[Value.slice Aor12_6 (g3r12_6).length cor12_6] 40, Cel b9 #[Value.slice Aor12_6 (g3r12_6).length cor12_6] 40, MutR g0r12_6 g1r12_6 g2r12_6 many]) (by kernel_rfl) (by kernel_rfl) (by kernel_rfl) (by kernel_rfl) (by kernel_rfl) hW 1 (by rfl) (Nat.le_of_ble_eq_true (by kernel_rfl)) (by kernel_rfl) (by rfl) ?_)); clear hA ac hW; intro w27 hW ac hA
                      refine ⟨⟨fun h => absurd h (by decide), fun h => absurd h (by decide)⟩, ?_⟩
                      refine sr_done (by kernel_rfl) ?_ _
                      exact ⟨hA.sub ⟨⟨by kernel_rfl, by kernel_rfl⟩, ⟨by kernel_rfl, by kernel_rfl⟩, ⟨by kernel_rfl, by kernel_rfl⟩, ⟨by kernel_rfl, by kernel_rfl⟩, ⟨by kernel_rfl, by kernel_rfl⟩, ⟨by kernel_rfl, by kernel_rfl⟩, ⟨by kernel_rfl, by kernel_rfl⟩, ⟨by kernel_rfl, by kernel_rfl⟩, ⟨by kernel_rfl, by kernel_rfl⟩, ⟨by kernel_rfl, by kernel_rfl⟩, ⟨by kernel_rfl, by kernel_rfl⟩, ⟨by kernel_rfl, by kernel_rfl⟩, trivial⟩, (hW.pick [0, 1, 2] (by decide) rfl).pickG [0, 1, 2] rfl⟩
                    clear hA ac hW; rintro ac w28 ⟨hA, hW⟩
                    refine thenN ?_
                    refine wp_seq ?_
                    have hs3 := (hr12_6_hR).small; have hs4 := (hr12_6_hR).len64
                    refine wp_region_lit ?_
                    refine st_rd (v := Value.bool true) hA (by kernel_rfl) (by kernel_rfl) (by kernel_rfl) hW.cls (Rd.pure fun _ => by kernel_rfl) ?_; clear hA ac; intro ac hA
                    refine st_rd (v := Value.bool false) hA (by kernel_rfl) (by kernel_rfl) (by kernel_rfl) hW.cls (Rd.pure fun _ => by kernel_rfl) ?_; clear hA ac; intro ac hA
                    refine st_rd (v := Value.bool false) hA (by kernel_rfl) (by kernel_rfl) (by kernel_rfl) hW.cls (Rd.pure fun _ => by kernel_rfl) ?_; clear hA ac; intro ac hA
                    refine st_rd (v := Value.pointer (some ⟨g0r12_6, 0, none⟩)) hA (by kernel_rfl) (by kernel_rfl) (by kernel_rfl) hW.cls (Rd.pure fun _ => by kernel_rfl) ?_; clear hA ac; intro ac hA
                    refine st_rd (v := Value.agg #[Value.slice Aor12_6 (g3r12_6).length cor12_6]) hA (by kernel_rfl) (by kernel_rfl) (by kernel_rfl) hW.cls (Rd.load (b := b9) (i := 0) (by kernel_rfl) (fun _ hw => (hw.1).cel 1 rfl) (by kernel_rfl)) ?_; clear hA ac; intro ac hA
                    refine st_rd (v := Value.int .i64 ((k : Nat) : Int)) hA (by kernel_rfl) (by kernel_rfl) (by kernel_rfl) hW.cls (Rd.pure fun _ => by kernel_rfl) ?_; clear hA ac; intro ac hA
                    refine st_rd (v := Value.int .i64 ((k % 4 : Nat) : Int)) hA (by kernel_rfl) (by kernel_rfl) (by kernel_rfl) hW.cls (Rd.pureE (v0 := Value.int .i64 (Int.tmod (((k : Nat) : Int) : Int) 4)) (fun _ => by kernel_rfl) (congrArg (Value.int .i64) (rem_ (x := ((k : Nat) : Int)) (by omega)))) ?_; clear hA ac; intro ac hA
                    refine st hA (by kernel_rfl) (by kernel_rfl) (by kernel_rfl) (Runs.callN (v := Value.bool true) (fun _ => by kernel_rfl) hW (e_is13 g0r12_6 g1r12_6 g2r12_6 many Aor12_6 cor12_6 g3r12_6 (((k % 4 : Nat) : Int)) w28 ((hW).get 2 rfl) ((hW).lt _ (List.mem_of_getElem? (i := 2) rfl)) ((hW).getG 0 rfl) (by first | assumption | omega | (simp; omega) | simp) (by first | omega | assumption | (have := Rel13.small ‹_›; omega) | simp) (by first | omega | assumption | (have := Rel13.small ‹_›; omega) | simp) (by first | omega | assumption | (have := Rel13.small ‹_›; omega) | simp)) ?_); clear hA ac hW; intro w29 hW hfw29 ac hA
                    refine st_rd (v := Value.bool false) hA (by kernel_rfl) (by kernel_rfl) (by kernel_rfl) hW.cls (Rd.pure fun _ => by kernel_rfl) ?_; clear hA ac; intro ac hA
                    refine st_rd (v := Value.bool false) hA (by kernel_rfl) (by kernel_rfl) (by kernel_rfl) hW.cls (Rd.pure fun _ => by kernel_rfl) ?_; clear hA ac; intro ac hA
                    refine wpList_nil ?_
                    refine thenN ?_
                    refine wp_cond_false (hA.eval (by kernel_rfl)) ?_
                    refine wp_skip ?_
                    refine blkN ?_
                    refine thenN ?_
                    refine wp_region_lit ?_
                    refine st_rd (v := Value.int .i64 ((k : Nat) : Int)) hA (by kernel_rfl) (by kernel_rfl) (by kernel_rfl) hW.cls (Rd.pure fun _ => by kernel_rfl) ?_; clear hA ac; intro ac hA
                    refine st_rd (v := Value.int .i64 ((k + 1 : Nat) : Int)) hA (by kernel_rfl) (by kernel_rfl) (by kernel_rfl) hW.cls (Rd.pureE (v0 := Value.int .i64 (IntKind.i64.wrap ((((k : Nat) : Int) : Int) + 1))) (fun _ => by kernel_rfl) (congrArg (Value.int .i64) ((w_i64 (x := (((k : Nat) : Int) : Int) + 1) (by omega) (by omega)).trans (by omega)))) ?_; clear hA ac; intro ac hA
                    refine st_rd (v := Value.int .i64 ((k + 1 : Nat) : Int)) hA (by kernel_rfl) (by kernel_rfl) (by kernel_rfl) hW.cls (Rd.pure fun _ => by kernel_rfl) ?_; clear hA ac; intro ac hA
                    refine wpList_nil ?_
                    refine thenN ?_
                    exact ⟨l.length - (k + 1), by omega, k + 1, g0r12_6, g1r12_6, g2r12_6, g3r12_6, Aor12_6, cor12_6, rfl, by omega, by exact hr12_6_hR, by exact hccor12_6, hA.sub ⟨⟨by kernel_rfl, by kernel_rfl⟩, ⟨by kernel_rfl, by kernel_rfl⟩, ⟨by kernel_rfl, by kernel_rfl⟩, ⟨by kernel_rfl, by kernel_rfl⟩, ⟨by kernel_rfl, by kernel_rfl⟩, ⟨by kernel_rfl, by kernel_rfl⟩, trivial⟩, (hW.pick [1, 2] (by decide) rfl).pickG [0, 2] rfl⟩)
              · skip
                have h14 := of_decide_eq_false h14
                first
                | (exfalso; clear hA hW; omega)
                | (
                    refine wp_exit ?_
                    refine thenX ?_
                    refine thenX ?_
                    refine blkX ?_
                    refine thenN ?_
                    refine wp_seq ?_
                    refine wp_region_lit ?_
                    refine st_rd (v := Value.pointer (some ⟨m, 0, none⟩)) hA (by kernel_rfl) (by kernel_rfl) (by kernel_rfl) hW.cls (Rd.pure fun _ => by kernel_rfl) ?_; clear hA ac; intro ac hA
                    refine st_rd (v := Value.agg #[Value.slice A L.length c]) hA (by kernel_rfl) (by kernel_rfl) (by kernel_rfl) hW.cls (Rd.load (b := b9) (i := 0) (by kernel_rfl) (fun _ hw => (hw.1).cel 0 rfl) (by kernel_rfl)) ?_; clear hA ac; intro ac hA
                    refine st hA (by kernel_rfl) (by kernel_rfl) (by kernel_rfl) (Runs.callN (v := Value.bool true) (fun _ => by kernel_rfl) hW (e_is13 m b h many A c L (99) w13 ((hW).get 1 rfl) ((hW).lt _ (List.mem_of_getElem? (i := 1) rfl)) ((hW).getG 0 rfl) (by first | assumption | omega | (simp; omega) | simp) (by first | omega | assumption | (have := Rel13.small ‹_›; omega) | simp) (by first | omega | assumption | (have := Rel13.small ‹_›; omega) | simp) (by first | omega | assumption | (have := Rel13.small ‹_›; omega) | simp)) ?_); clear hA ac hW; intro w30 hW hfw30 ac hA
                    refine st_rd (v := Value.bool true) hA (by kernel_rfl) (by kernel_rfl) (by kernel_rfl) hW.cls (Rd.pure fun _ => by kernel_rfl) ?_; clear hA ac; intro ac hA
                    refine st hA (by kernel_rfl) (by kernel_rfl) (by kernel_rfl) (Runs.callN (v := Value.bool true) (fun _ => by kernel_rfl) hW (e_works13 w30) ?_); clear hA ac hW; intro w31 hW hfw31 ac hA
                    refine st_rd (v := Value.bool true) hA (by kernel_rfl) (by kernel_rfl) (by kernel_rfl) hW.cls (Rd.pure fun _ => by kernel_rfl) ?_; clear hA ac; intro ac hA
                    refine st_rd (v := Value.bool true) hA (by kernel_rfl) (by kernel_rfl) (by kernel_rfl) hW.cls (Rd.pure fun _ => by kernel_rfl) ?_; clear hA ac; intro ac hA
                    refine wpList_nil ?_
                    refine thenN ?_
                    refine wp_ret ?_
                    refine ret1 (v := Value.bool true) (by rfl) hA (Got.tmp hA (by kernel_rfl) (by kernel_rfl)) ?_
                    clear hA
                    exact ⟨retv (by rfl), hW.fr⟩)))

set_option maxRecDepth 100000 in
theorem e_playsN (many : Int) (A_l : Option Addr) (c_l : Nat) (l : List Act13) (w : World) (hr_l : RowAt w A_l 3 enAct13 l) (hc_l : l.length ≤ c_l) (hm : ¬ (0 ≤ many ∧ many ≤ 64)) : Calls Try.prog 4 #[Value.int .i64 many, Value.slice A_l l.length c_l] w (fun e w' => e = .returned (Value.bool true) ∧ Fr No w w') := by
  have _hu := hc_l; have _hv := hr_l; clear _hu _hv
  have _hu := hm; clear _hu
  refine enter_E 76 Try.func4 rfl rfl (by kernel_rfl) (L := [(0, Value.int .i64 many), (1, Value.slice A_l l.length c_l)]) (by kernel_rfl) ?_
  intro ac hA
  have hW := Ws.start w No
  have hW := hW.arg hr_l
  refine wp_seq ?_
  refine wp_region_lit ?_
  refine st_rd (v := Value.bool false) hA (by kernel_rfl) (by kernel_rfl) (by kernel_rfl) hW.cls (Rd.pure fun _ => by kernel_rfl) ?_; clear hA ac; intro ac hA
  refine wpList_nil ?_
  refine thenN ?_
  refine wp_seq ?_
  refine wp_seq ?_
  refine wp_region_lit ?_
  refine st_rd (v := Value.slice A_l l.length c_l) hA (by kernel_rfl) (by kernel_rfl) (by kernel_rfl) hW.cls (Rd.pure fun _ => by kernel_rfl) ?_; clear hA ac; intro ac hA
  refine st_rd (v := Value.int .i64 ((l.length : Nat) : Int)) hA (by kernel_rfl) (by kernel_rfl) (by kernel_rfl) hW.cls (Rd.pure fun _ => by kernel_rfl) ?_; clear hA ac; intro ac hA
  refine st_rd (v := Value.bool (decide ((((l.length : Nat) : Int) : Int) > (60 : Int)))) hA (by kernel_rfl) (by kernel_rfl) (by kernel_rfl) hW.cls (Rd.pure fun _ => by kernel_rfl) ?_; clear hA ac; intro ac hA
  refine wpList_nil ?_
  refine thenN ?_
  refine wp_cond_split (t := decide ((((l.length : Nat) : Int) : Int) > (60 : Int))) (hA.eval (by kernel_rfl)) (fun h1 => ?_) (fun h1 => ?_)
  · skip
    have h1 := of_decide_eq_true h1
    first
    | (exfalso; clear hA hW; omega)
    | (
        refine wp_seq ?_
        refine wp_region_lit ?_
        refine st hA (by kernel_rfl) (by kernel_rfl) (by kernel_rfl) (Runs.callN (v := Value.bool true) (fun _ => by kernel_rfl) hW (e_works13 w) ?_); clear hA ac hW; intro w2 hW hfw2 ac hA
        refine st_rd (v := Value.bool true) hA (by kernel_rfl) (by kernel_rfl) (by kernel_rfl) hW.cls (Rd.pure fun _ => by kernel_rfl) ?_; clear hA ac; intro ac hA
        refine wpList_nil ?_
        refine thenN ?_
        refine wp_ret ?_
        refine thenR ?_
        refine ret1 (v := Value.bool true) (by rfl) hA (Got.tmp hA (by kernel_rfl) (by kernel_rfl)) ?_
        clear hA
        exact ⟨retv (by rfl), hW.fr⟩)
  · skip
    have h1 := of_decide_eq_false h1
    first
    | (exfalso; clear hA hW; omega)
    | (
        refine wp_skip ?_
        refine thenN ?_
        refine wp_seq ?_
        refine wp_region_lit ?_
        refine st_rd (v := Value.int .i64 many) hA (by kernel_rfl) (by kernel_rfl) (by kernel_rfl) hW.cls (Rd.pure fun _ => by kernel_rfl) ?_; clear hA ac; intro ac hA
        refine st hA (by kernel_rfl) (by kernel_rfl) (by kernel_rfl) (Runs.callN (v := Value.tuple #[Value.pointer none, Value.int .i64 2]) (fun _ => by kernel_rfl) hW (e_newN (many) w (by first | omega | assumption | (have := Rel13.small ‹_›; omega) | simp)) ?_); clear hA ac hW; intro w3 hW hfw3 ac hA
        refine st_rd (v := Value.tuple #[Value.pointer none, Value.int .i64 2]) hA (by kernel_rfl) (by kernel_rfl) (by kernel_rfl) hW.cls (Rd.pure fun _ => by kernel_rfl) ?_; clear hA ac; intro ac hA
        refine st_rd (v := Value.pointer none) hA (by kernel_rfl) (by kernel_rfl) (by kernel_rfl) hW.cls (Rd.pure fun _ => by kernel_rfl) ?_; clear hA ac; intro ac hA
        refine st_rd (v := Value.int .i64 2) hA (by kernel_rfl) (by kernel_rfl) (by kernel_rfl) hW.cls (Rd.pure fun _ => by kernel_rfl) ?_; clear hA ac; intro ac hA
        refine st_rd (v := Value.pointer none) hA (by kernel_rfl) (by kernel_rfl) (by kernel_rfl) hW.cls (Rd.pure fun _ => by kernel_rfl) ?_; clear hA ac; intro ac hA
        refine st_rd (v := Value.int .i64 2) hA (by kernel_rfl) (by kernel_rfl) (by kernel_rfl) hW.cls (Rd.pure fun _ => by kernel_rfl) ?_; clear hA ac; intro ac hA
        refine wpList_nil ?_
        refine thenN ?_
        refine wp_seq ?_
        refine wp_region_lit ?_
        refine st_rd (v := Value.int .i64 many) hA (by kernel_rfl) (by kernel_rfl) (by kernel_rfl) hW.cls (Rd.pure fun _ => by kernel_rfl) ?_; clear hA ac; intro ac hA
        refine st hA (by kernel_rfl) (by kernel_rfl) (by kernel_rfl) (Runs.callN (v := Value.tuple #[Value.agg #[Value.slice none 0 0], Value.int .i64 2]) (fun _ => by kernel_rfl) hW (e_rnewN (many) w3 (by first | omega | assumption | (have := Rel13.small ‹_›; omega) | simp)) ?_); clear hA ac hW; intro w4 hW hfw4 ac hA
        refine st_rd (v := Value.tuple #[Value.agg #[Value.slice none 0 0], Value.int .i64 2]) hA (by kernel_rfl) (by kernel_rfl) (by kernel_rfl) hW.cls (Rd.pure fun _ => by kernel_rfl) ?_; clear hA ac; intro ac hA
        refine st_rd (v := Value.agg #[Value.slice none 0 0]) hA (by kernel_rfl) (by kernel_rfl) (by kernel_rfl) hW.cls (Rd.pure fun _ => by kernel_rfl) ?_; clear hA ac; intro ac hA
        refine st_rd (v := Value.int .i64 2) hA (by kernel_rfl) (by kernel_rfl) (by kernel_rfl) hW.cls (Rd.pure fun _ => by kernel_rfl) ?_; clear hA ac; intro ac hA
        refine st hA (by kernel_rfl) (by kernel_rfl) (by kernel_rfl) (Runs.cells (fun b => Value.pointer (some ⟨b, 0, none⟩)) #[Value.slice none 0 0] 40 (fun _ => by kernel_rfl) hW ?_); clear hA ac hW; intro b5 w6 hW hb5 hfw6 ac hA
        refine st hA (by kernel_rfl) (by kernel_rfl) (by kernel_rfl) (Runs.store (v := Value.agg #[Value.slice none 0 0]) (b := b5) (j := 0) (n := 1) (cs' := #[Value.slice none 0 0]) (H' := [Cel b5 #[Value.slice none 0 0] 40]) (by kernel_rfl) (by kernel_rfl) (by kernel_rfl) (by kernel_rfl) (by kernel_rfl) hW 0 (by rfl) (Nat.le_of_ble_eq_true (by kernel_rfl)) (by kernel_rfl) (by rfl) ?_); clear hA ac hW; intro w7 hW ac hA
        refine st_rd (v := Value.int .i64 2) hA (by kernel_rfl) (by kernel_rfl) (by kernel_rfl) hW.cls (Rd.pure fun _ => by kernel_rfl) ?_; clear hA ac; intro ac hA
        refine wpList_nil ?_
        refine thenN ?_
        refine wp_seq ?_
        refine wp_seq ?_
        refine wp_region_lit ?_
        refine st_rd (v := Value.int .i64 2) hA (by kernel_rfl) (by kernel_rfl) (by kernel_rfl) hW.cls (Rd.pure fun _ => by kernel_rfl) ?_; clear hA ac; intro ac hA
        refine st hA (by kernel_rfl) (by kernel_rfl) (by kernel_rfl) (Runs.callS (v := Value.int .i64 (2)) (fun _ => by kernel_rfl) (e_num13 (2) w7) ?_); clear hA ac; intro  ac hA
        refine st_rd (v := Value.int .i64 2) hA (by kernel_rfl) (by kernel_rfl) (by kernel_rfl) hW.cls (Rd.pure fun _ => by kernel_rfl) ?_; clear hA ac; intro ac hA
        refine st_rd (v := Value.bool (((2) : Int) != (2 : Int))) hA (by kernel_rfl) (by kernel_rfl) (by kernel_rfl) hW.cls (Rd.pure fun _ => by kernel_rfl) ?_; clear hA ac; intro ac hA
        refine st_rd (v := Value.bool (((2) : Int) != (2 : Int))) hA (by kernel_rfl) (by kernel_rfl) (by kernel_rfl) hW.cls (Rd.pure fun _ => by kernel_rfl) ?_; clear hA ac; intro ac hA
        rcases Bool.eq_false_or_eq_true (((2) : Int) != (2 : Int)) with h8 | h8
        · skip
          rw [h8] at hA
          have h8 := bne_iff_ne.1 h8
          first
          | (exfalso; clear hA hW; omega)
          | (
              refine st_skip hA (by kernel_rfl) (by kernel_rfl) ?_; clear hA ac; intro ac hA
              refine st_skip hA (by kernel_rfl) (by kernel_rfl) ?_; clear hA ac; intro ac hA
              refine st_skip hA (by kernel_rfl) (by kernel_rfl) ?_; clear hA ac; intro ac hA
              refine st_skip hA (by kernel_rfl) (by kernel_rfl) ?_; clear hA ac; intro ac hA
              refine st_skip hA (by kernel_rfl) (by kernel_rfl) ?_; clear hA ac; intro ac hA
              refine st_rd (v := Value.bool true) hA (by kernel_rfl) (by kernel_rfl) (by kernel_rfl) hW.cls (Rd.pure fun _ => by kernel_rfl) ?_; clear hA ac; intro ac hA
              refine wpList_nil ?_
              refine thenN ?_
              refine wp_cond_true (hA.eval (by kernel_rfl)) ?_
              refine wp_seq ?_
              refine wp_region_lit ?_
              refine st_rd (v := Value.bool false) hA (by kernel_rfl) (by kernel_rfl) (by kernel_rfl) hW.cls (Rd.pure fun _ => by kernel_rfl) ?_; clear hA ac; intro ac hA
              refine wpList_nil ?_
              refine thenN ?_
              refine wp_ret ?_
              refine thenR ?_
              refine ret1 (v := Value.bool false) (by rfl) hA (Got.tmp hA (by kernel_rfl) (by kernel_rfl)) ?_
              clear hA
              exact ⟨retv (by rfl), hW.fr⟩)
        · skip
          rw [h8] at hA
          have h8 := of_bne_f h8
          first
          | (exfalso; clear hA hW; omega)
          | (
              refine st_rd (v := Value.pointer none) hA (by kernel_rfl) (by kernel_rfl) (by kernel_rfl) hW.cls (Rd.pure fun _ => by kernel_rfl) ?_; clear hA ac; intro ac hA
              refine st_rd (v := Value.bool false) hA (by kernel_rfl) (by kernel_rfl) (by kernel_rfl) hW.cls (Rd.pure fun _ => by kernel_rfl) ?_; clear hA ac; intro ac hA
              refine st_rd (v := Value.int .i64 2) hA (by kernel_rfl) (by kernel_rfl) (by kernel_rfl) hW.cls (Rd.pure fun _ => by kernel_rfl) ?_; clear hA ac; intro ac hA
              refine st_rd (v := Value.bool false) hA (by kernel_rfl) (by kernel_rfl) (by kernel_rfl) hW.cls (Rd.pure fun _ => by kernel_rfl) ?_; clear hA ac; intro ac hA
              refine st_rd (v := Value.bool false) hA (by kernel_rfl) (by kernel_rfl) (by kernel_rfl) hW.cls (Rd.pure fun _ => by kernel_rfl) ?_; clear hA ac; intro ac hA
              refine st_rd (v := Value.bool false) hA (by kernel_rfl) (by kernel_rfl) (by kernel_rfl) hW.cls (Rd.pure fun _ => by kernel_rfl) ?_; clear hA ac; intro ac hA
              refine wpList_nil ?_
              refine thenN ?_
              refine wp_cond_false (hA.eval (by kernel_rfl)) ?_
              refine wp_skip ?_
              refine thenN ?_
              refine wp_seq ?_
              refine wp_seq ?_
              refine wp_region_lit ?_
              refine st_rd (v := Value.int .i64 2) hA (by kernel_rfl) (by kernel_rfl) (by kernel_rfl) hW.cls (Rd.pure fun _ => by kernel_rfl) ?_; clear hA ac; intro ac hA
              refine st_rd (v := Value.bool true) hA (by kernel_rfl) (by kernel_rfl) (by kernel_rfl) hW.cls (Rd.pure fun _ => by kernel_rfl) ?_; clear hA ac; intro ac hA
              refine wpList_nil ?_
              refine thenN ?_
              refine wp_cond_true (hA.eval (by kernel_rfl)) ?_
              refine wp_seq ?_
              refine wp_region_lit ?_
              refine st hA (by kernel_rfl) (by kernel_rfl) (by kernel_rfl) (Runs.callN (v := Value.bool true) (fun _ => by kernel_rfl) hW (e_works13 w7) ?_); clear hA ac hW; intro w9 hW hfw9 ac hA
              refine st_rd (v := Value.bool true) hA (by kernel_rfl) (by kernel_rfl) (by kernel_rfl) hW.cls (Rd.pure fun _ => by kernel_rfl) ?_; clear hA ac; intro ac hA
              refine wpList_nil ?_
              refine thenN ?_
              refine wp_ret ?_
              refine thenR ?_
              refine ret1 (v := Value.bool true) (by rfl) hA (Got.tmp hA (by kernel_rfl) (by kernel_rfl)) ?_
              clear hA
              exact ⟨retv (by rfl), hW.fr⟩))

theorem plays_walk (many : Int) (A : Option Addr) (len cap : Nat) (l : List Act13) (w : World) (_ : (Lit.int .i64 many).wf = true) (hl : l.length = len) (hc : len ≤ cap) (_ : cap ≤ maxLen) (_ : ∀ x ∈ l, wfAct13 x) (hr : RowAt w A 3 enAct13 l) :
    Calls Try.prog 4 #[.int .i64 many, .slice A len cap] w fun e w' => e = .returned (.bool true) ∧ Fr No w w' := by
  subst hl
  by_cases hm : 0 ≤ many ∧ many ≤ 64
  · exact e_playsY many A cap l w hr hc hm
  · exact e_playsN many A cap l w hr hc hm
end Go.Proofs.Ytgeikokmhkfkgaa.L
