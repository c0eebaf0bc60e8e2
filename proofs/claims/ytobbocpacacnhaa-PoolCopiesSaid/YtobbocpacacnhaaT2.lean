/- Contracts, walked by program over the engine's laws. -/
import Derived.Test.YtobbocpacacnhaaProg
import Derived.Test.YtobbocpacacnhaaSort23
namespace Go.Proofs.Ytobbocpacacnhaa.L
open Go.RowKit

structure Ask where
  wrong : Bool
  why : Int
deriving DecidableEq
def Ask.v (x : Ask) : Value := .agg #[.bool x.wrong, .int .i64 x.why]
def enAsk (x : Ask) : List Value := [.bool x.wrong, .int .i64 x.why]
def enU (x : Int) : List Value := [.int .u64 x]
def PoolR (p b : Nat) (V : List (Int × Nat × List (Int × Mark))) : Res := allR [Cel p #[Value.map (some b)] 62, mapR b (fun a : Int => Value.int .i64 a) (fun x_ : Nat => Value.map (some x_)) (outs V), SubR (fun (c_ : List (Int × Mark)) (b_ : Nat) => mapR b_ (fun a : Int => Value.int .i64 a) Mark.v c_) V]
abbrev MarkM : Type := List (Int × Mark)
def firstAsk : List Ask → Int
  | [] => 0
  | a :: r => if a.wrong = true then a.why else firstAsk r
def fineM (id : Int) (m : Mark) : Bool := decide (0 ≤ id) && decide (id ≤ 65535) && decide (1 ≤ m.clock) && decide (m.clock ≤ 281474976710655) && Site.ok m.site
/-- A clock of a vector. -/
def getC (c : List Int) (id : Int) : Int := if id < 0 then 0 else (c[id.toNat]?).getD 0
theorem elt_Ask : Elt Try.prog 73 2 enAsk := ⟨⟨Value.agg #[Value.bool false, Value.int .i64 0], 16, by kernel_rfl, rfl, by decide⟩, by decide, fun _ => rfl, fun x u hu => List.all_eq_true.1 (show (enAsk x).all (·.oneCell') = true from rfl) u hu⟩
theorem elt_U : Elt Try.prog 28 1 enU := ⟨⟨Value.int .u64 0, 8, by kernel_rfl, rfl, by decide⟩, by decide, fun _ => rfl, fun x u hu => List.all_eq_true.1 (show (enU x).all (·.oneCell') = true from rfl) u hu⟩
set_option maxRecDepth 100000 in
theorem e_none (p : Nat) (b : Nat) (w : World) (ho_p : w.heap[p]? = some (.cells #[Value.map (some b)] 62 (0, 0))) : Calls Try.prog 23 #[Value.pointer (some ⟨p, 0, none⟩)] w (fun e w' => e = .returned (Value.bool false) ∧ w = w') := by
  have _hu := ho_p; clear _hu
  refine enter_E 12 Try.func23 rfl rfl (by kernel_rfl) (L := [(0, Value.pointer (some ⟨p, 0, none⟩))]) (by kernel_rfl) ?_
  intro ac hA
  have hW := Ws.start w No
  have hW := hW.celG ho_p
  refine wp_seq ?_
  refine wp_region_lit ?_
  refine st_rd (v := Value.bool false) hA (by kernel_rfl) (by kernel_rfl) (by kernel_rfl) hW.cls (Rd.pure fun _ => by kernel_rfl) ?_; clear hA ac; intro ac hA
  refine wpList_nil ?_
  refine thenN ?_
  refine wp_seq ?_
  refine wp_region_lit ?_
  refine st_rd (v := Value.pointer (some ⟨p, 0, none⟩)) hA (by kernel_rfl) (by kernel_rfl) (by kernel_rfl) hW.cls (Rd.pure fun _ => by kernel_rfl) ?_; clear hA ac; intro ac hA
  refine st_rd (v := Value.bool false) hA (by kernel_rfl) (by kernel_rfl) (by kernel_rfl) hW.cls (Rd.pure fun _ => by kernel_rfl) ?_; clear hA ac; intro ac hA
  refine st_rd (v := Value.bool false) hA (by kernel_rfl) (by kernel_rfl) (by kernel_rfl) hW.cls (Rd.pure fun _ => by kernel_rfl) ?_; clear hA ac; intro ac hA
  refine st_rd (v := Value.pointer (some ⟨p, 0, none⟩)) hA (by kernel_rfl) (by kernel_rfl) (by kernel_rfl) hW.cls (Rd.pure fun _ => by kernel_rfl) ?_; clear hA ac; intro ac hA
  refine st_rd (v := Value.pointer (some ⟨p, 0, none⟩)) hA (by kernel_rfl) (by kernel_rfl) (by kernel_rfl) hW.cls (Rd.pure fun _ => by kernel_rfl) ?_; clear hA ac; intro ac hA
  refine st_rd (v := Value.pointer (some ⟨p, 0, none⟩)) hA (by kernel_rfl) (by kernel_rfl) (by kernel_rfl) hW.cls (Rd.pure fun _ => by kernel_rfl) ?_; clear hA ac; intro ac hA
  refine st_rd (v := Value.map (some b)) hA (by kernel_rfl) (by kernel_rfl) (by kernel_rfl) hW.cls (Rd.load (b := p) (i := 0) (by kernel_rfl) (fun _ hw => show _ = _ from (hw.1).getG 0 rfl) (by kernel_rfl)) ?_; clear hA ac; intro ac hA
  refine st_rd (v := Value.bool false) hA (by kernel_rfl) (by kernel_rfl) (by kernel_rfl) hW.cls (Rd.pure fun _ => by kernel_rfl) ?_; clear hA ac; intro ac hA
  refine st_rd (v := Value.bool false) hA (by kernel_rfl) (by kernel_rfl) (by kernel_rfl) hW.cls (Rd.pure fun _ => by kernel_rfl) ?_; clear hA ac; intro ac hA
  refine st_rd (v := Value.bool false) hA (by kernel_rfl) (by kernel_rfl) (by kernel_rfl) hW.cls (Rd.pure fun _ => by kernel_rfl) ?_; clear hA ac; intro ac hA
  refine wpList_nil ?_
  refine thenN ?_
  refine wp_ret ?_
  refine ret1 (v := Value.bool false) (by rfl) hA (Got.tmp hA (by kernel_rfl) (by kernel_rfl)) ?_
  clear hA
  exact ⟨retv (by rfl), rfl⟩

set_option maxRecDepth 100000 in
theorem e_pNew  (w : World)  : Calls Try.prog 8 #[] w (fun e w' => ∃ np : Nat, ∃ nb : Nat, e = .returned (Value.pointer (some ⟨np, 0, none⟩)) ∧ Made (PoolR np nb ([] : List (Int × Nat × List (Int × Mark)))) w w') := by
  refine enter_E 4 Try.func8 rfl rfl (by kernel_rfl) (L := []) (by kernel_rfl) ?_
  intro ac hA
  have hW := Ws.start w No
  refine wp_seq ?_
  refine wp_region_lit ?_
  refine st_rd (v := Value.pointer none) hA (by kernel_rfl) (by kernel_rfl) (by kernel_rfl) hW.cls (Rd.pure fun _ => by kernel_rfl) ?_; clear hA ac; intro ac hA
  refine wpList_nil ?_
  refine thenN ?_
  refine wp_seq ?_
  refine wp_region_lit ?_
  refine st hA (by kernel_rfl) (by kernel_rfl) (by kernel_rfl) (Runs.makeMap (fun a : Int => Value.int .i64 a) (fun x_ : Nat => Value.map (some x_)) hW ?_); clear hA ac hW; intro b1 w2 hW hb1 hfw2 ac hA
  refine st_rd (v := Value.agg #[Value.map (some b1)]) hA (by kernel_rfl) (by kernel_rfl) (by kernel_rfl) hW.cls (Rd.pure fun _ => by kernel_rfl) ?_; clear hA ac; intro ac hA
  refine st hA (by kernel_rfl) (by kernel_rfl) (by kernel_rfl) (Runs.cells (fun b => Value.pointer (some ⟨b, 0, none⟩)) #[Value.map (some b1)] 62 (fun _ => by kernel_rfl) hW ?_); clear hA ac hW; intro b3 w4 hW hb3 hfw4 ac hA
  refine st_rd (v := Value.pointer (some ⟨b3, 0, none⟩)) hA (by kernel_rfl) (by kernel_rfl) (by kernel_rfl) hW.cls (Rd.pure fun _ => by kernel_rfl) ?_; clear hA ac; intro ac hA
  refine wpList_nil ?_
  refine thenN ?_
  refine wp_ret ?_
  refine ret1 (v := Value.pointer (some ⟨b3, 0, none⟩)) (by rfl) hA (Got.tmp hA (by kernel_rfl) (by kernel_rfl)) ?_
  clear hA
  have hW := SubR.nil (f := (fun (c_ : List (Int × Mark)) (b_ : Nat) => mapR b_ (fun a : Int => Value.int .i64 a) Mark.v c_)) (κ := Int) hW
  replace hW : Ws w No [SubR (fun (c_ : List (Int × Mark)) (b_ : Nat) => mapR b_ (fun a : Int => Value.int .i64 a) Mark.v c_) ([] : List (Int × Nat × List (Int × Mark))), Cel b3 #[Value.map (some b1)] 62, mapR b1 (fun a : Int => Value.int .i64 a) (fun x_ : Nat => Value.map (some x_)) ([])] [] w4 := hW
  exact ⟨b3, b1, rfl, (Ws.pack (K := []) (show Ws w No ([Cel b3 #[Value.map (some b1)] 62, mapR b1 (fun a : Int => Value.int .i64 a) (fun x_ : Nat => Value.map (some x_)) ([]), SubR (fun (c_ : List (Int × Mark)) (b_ : Nat) => mapR b_ (fun a : Int => Value.int .i64 a) Mark.v c_) ([] : List (Int × Nat × List (Int × Mark)))] ++ []) [] _ from hW.pick [1, 2, 0] (by decide) rfl)).madeDone 0 rfl⟩

set_option maxRecDepth 100000 in
theorem e_there (b : Nat) (h : List (Int × Nat)) (i : Int) (w : World) (ho_v : (mapR b (fun a : Int => Value.int .i64 a) (fun x_ : Nat => Value.map (some x_)) h).p w) : Calls Try.prog 25 #[Value.map (some b), Value.int .i64 i] w (fun e w' => e = .returned (Value.bool (look h i).isSome) ∧ Fr No w w') := by
  have _hu := ho_v; clear _hu
  refine enter_E 14 Try.func25 rfl rfl (by kernel_rfl) (L := [(0, Value.map (some b)), (1, Value.int .i64 i)]) (by kernel_rfl) ?_
  intro ac hA
  have hW := Ws.start w No
  have hW := hW.mapG ho_v
  refine wp_seq ?_
  refine wp_region_lit ?_
  refine st_rd (v := Value.bool false) hA (by kernel_rfl) (by kernel_rfl) (by kernel_rfl) hW.cls (Rd.pure fun _ => by kernel_rfl) ?_; clear hA ac; intro ac hA
  refine wpList_nil ?_
  refine thenN ?_
  refine wp_seq ?_
  refine wp_region_lit ?_
  refine st_rd (v := Value.map (some b)) hA (by kernel_rfl) (by kernel_rfl) (by kernel_rfl) hW.cls (Rd.pure fun _ => by kernel_rfl) ?_; clear hA ac; intro ac hA
  refine st_rd (v := Value.int .i64 i) hA (by kernel_rfl) (by kernel_rfl) (by kernel_rfl) hW.cls (Rd.pure fun _ => by kernel_rfl) ?_; clear hA ac; intro ac hA
  rcases hk1 : look h (i : Int) with _ | bk2
  · skip
    first
    | (exfalso; clear hA hW; omega)
    | (
        refine st_rd (v := Value.tuple #[Value.map none, Value.bool false]) hA (by kernel_rfl) (by kernel_rfl) (by kernel_rfl) hW.cls ((Rd.lookup (k := 3) (e := 69) (ek := (fun a : Int => Value.int .i64 a)) (ev := (fun x_ : Nat => Value.map (some x_))) (m := h) (z := Value.map none) (i : Int) true (by kernel_rfl) (by kernel_rfl) (KeyE.int (by kernel_rfl)) (by kernel_rfl) (fun _ => by kernel_rfl) (fun _ hw => (hw.1).getG 0 rfl)).cast (by rw [hk1]; rfl)) ?_; clear hA ac; intro ac hA
        refine st_rd (v := Value.tuple #[Value.map none, Value.bool false]) hA (by kernel_rfl) (by kernel_rfl) (by kernel_rfl) hW.cls (Rd.pure fun _ => by kernel_rfl) ?_; clear hA ac; intro ac hA
        refine st_rd (v := Value.map none) hA (by kernel_rfl) (by kernel_rfl) (by kernel_rfl) hW.cls (Rd.pure fun _ => by kernel_rfl) ?_; clear hA ac; intro ac hA
        refine st_rd (v := Value.bool false) hA (by kernel_rfl) (by kernel_rfl) (by kernel_rfl) hW.cls (Rd.pure fun _ => by kernel_rfl) ?_; clear hA ac; intro ac hA
        refine st_rd (v := Value.map none) hA (by kernel_rfl) (by kernel_rfl) (by kernel_rfl) hW.cls (Rd.pure fun _ => by kernel_rfl) ?_; clear hA ac; intro ac hA
        refine st_rd (v := Value.bool false) hA (by kernel_rfl) (by kernel_rfl) (by kernel_rfl) hW.cls (Rd.pure fun _ => by kernel_rfl) ?_; clear hA ac; intro ac hA
        refine wpList_nil ?_
        refine thenN ?_
        refine wp_seq ?_
        refine wp_region_lit ?_
        refine st_rd (v := Value.bool false) hA (by kernel_rfl) (by kernel_rfl) (by kernel_rfl) hW.cls (Rd.pure fun _ => by kernel_rfl) ?_; clear hA ac; intro ac hA
        refine st_rd (v := Value.bool false) hA (by kernel_rfl) (by kernel_rfl) (by kernel_rfl) hW.cls (Rd.pure fun _ => by kernel_rfl) ?_; clear hA ac; intro ac hA
        refine wpList_nil ?_
        refine thenN ?_
        refine wp_ret ?_
        refine ret1 (v := Value.bool false) (by rfl) hA (Got.tmp hA (by kernel_rfl) (by kernel_rfl)) ?_
        clear hA
        exact ⟨retv (by first | rfl | (rw [hk1]; rfl)), hW.fr⟩)
  · skip
    first
    | (exfalso; clear hA hW; omega)
    | (
        refine st_rd (v := Value.tuple #[Value.map (some bk2), Value.bool true]) hA (by kernel_rfl) (by kernel_rfl) (by kernel_rfl) hW.cls ((Rd.lookup (k := 3) (e := 69) (ek := (fun a : Int => Value.int .i64 a)) (ev := (fun x_ : Nat => Value.map (some x_))) (m := h) (z := Value.map none) (i : Int) true (by kernel_rfl) (by kernel_rfl) (KeyE.int (by kernel_rfl)) (by kernel_rfl) (fun _ => by kernel_rfl) (fun _ hw => (hw.1).getG 0 rfl)).cast (by rw [hk1]; rfl)) ?_; clear hA ac; intro ac hA
        refine st_rd (v := Value.tuple #[Value.map (some bk2), Value.bool true]) hA (by kernel_rfl) (by kernel_rfl) (by kernel_rfl) hW.cls (Rd.pure fun _ => by kernel_rfl) ?_; clear hA ac; intro ac hA
        refine st_rd (v := Value.map (some bk2)) hA (by kernel_rfl) (by kernel_rfl) (by kernel_rfl) hW.cls (Rd.pure fun _ => by kernel_rfl) ?_; clear hA ac; intro ac hA
        refine st_rd (v := Value.bool true) hA (by kernel_rfl) (by kernel_rfl) (by kernel_rfl) hW.cls (Rd.pure fun _ => by kernel_rfl) ?_; clear hA ac; intro ac hA
        refine st_rd (v := Value.map (some bk2)) hA (by kernel_rfl) (by kernel_rfl) (by kernel_rfl) hW.cls (Rd.pure fun _ => by kernel_rfl) ?_; clear hA ac; intro ac hA
        refine st_rd (v := Value.bool true) hA (by kernel_rfl) (by kernel_rfl) (by kernel_rfl) hW.cls (Rd.pure fun _ => by kernel_rfl) ?_; clear hA ac; intro ac hA
        refine wpList_nil ?_
        refine thenN ?_
        refine wp_seq ?_
        refine wp_region_lit ?_
        refine st_rd (v := Value.bool true) hA (by kernel_rfl) (by kernel_rfl) (by kernel_rfl) hW.cls (Rd.pure fun _ => by kernel_rfl) ?_; clear hA ac; intro ac hA
        refine st_rd (v := Value.bool true) hA (by kernel_rfl) (by kernel_rfl) (by kernel_rfl) hW.cls (Rd.pure fun _ => by kernel_rfl) ?_; clear hA ac; intro ac hA
        refine wpList_nil ?_
        refine thenN ?_
        refine wp_ret ?_
        refine ret1 (v := Value.bool true) (by rfl) hA (Got.tmp hA (by kernel_rfl) (by kernel_rfl)) ?_
        clear hA
        exact ⟨retv (by first | rfl | (rw [hk1]; rfl)), hW.fr⟩)

set_option maxRecDepth 100000 in
theorem e_first (A_l : Option Addr) (c_l : Nat) (l : List Ask) (w : World) (hr_l : RowAt w A_l 2 enAsk l) (hc_l : l.length ≤ c_l) (hl : l.length ≤ 1000) : Calls Try.prog 26 #[Value.slice A_l l.length c_l] w (fun e w' => e = .returned (Value.int .i64 (firstAsk l)) ∧ Fr No w w') := by
  have _hu := hc_l; have _hv := hr_l; clear _hu _hv
  have _hu := hl; clear _hu
  refine enter_E 16 Try.func26 rfl rfl (by kernel_rfl) (L := [(0, Value.slice A_l l.length c_l)]) (by kernel_rfl) ?_
  intro ac hA
  have hW := Ws.start w No
  have hW := hW.arg hr_l
  refine wp_seq ?_
  refine wp_region_lit ?_
  refine st_rd (v := Value.int .i64 0) hA (by kernel_rfl) (by kernel_rfl) (by kernel_rfl) hW.cls (Rd.pure fun _ => by kernel_rfl) ?_; clear hA ac; intro ac hA
  refine wpList_nil ?_
  refine thenN ?_
  refine wp_seq ?_
  refine wp_seq ?_
  refine wp_region_lit ?_
  refine st_rd (v := Value.slice A_l l.length c_l) hA (by kernel_rfl) (by kernel_rfl) (by kernel_rfl) hW.cls (Rd.pure fun _ => by kernel_rfl) ?_; clear hA ac; intro ac hA
  refine st_rd (v := Value.int .i64 ((l.length : Nat) : Int)) hA (by kernel_rfl) (by kernel_rfl) (by kernel_rfl) hW.cls (Rd.pure fun _ => by kernel_rfl) ?_; clear hA ac; intro ac hA
  refine st_rd (v := Value.int .i64 0) hA (by kernel_rfl) (by kernel_rfl) (by kernel_rfl) hW.cls (Rd.pure fun _ => by kernel_rfl) ?_; clear hA ac; intro ac hA
  refine wpList_nil ?_
  refine thenN ?_
  refine wp_block ?_
  refine wp_loop_m (fun m_ ac_ wl_ => ∃ k : Nat, m_ = l.length - k ∧ (k ≤ l.length) ∧ (firstAsk l = firstAsk (l.drop k)) ∧ Fm 16 [] [(5, Value.slice A_l l.length c_l), (6, Value.int .i64 ((l.length : Nat) : Int)), (7, Value.int .i64 ((k : Nat) : Int))] ac_ ∧ Ws w No [] [roR A_l 2 enAsk l] wl_) _ ⟨0, rfl, by omega, by rfl, hA.sub ⟨⟨by kernel_rfl, by kernel_rfl⟩, ⟨by kernel_rfl, by kernel_rfl⟩, ⟨by kernel_rfl, by kernel_rfl⟩, trivial⟩, (hW.pick [] (by decide) rfl).pickG [0] rfl⟩ ?_
  clear hA ac hW; rintro m_ ac w1 ⟨k, rfl, hk, hn, hA, hW⟩
  refine wp_seq ?_
  refine wp_region_lit ?_
  refine st_rd (v := Value.bool (decide ((((k : Nat) : Int) : Int) < (((l.length : Nat) : Int) : Int)))) hA (by kernel_rfl) (by kernel_rfl) (by kernel_rfl) hW.cls (Rd.pure fun _ => by kernel_rfl) ?_; clear hA ac; intro ac hA
  refine wpList_nil ?_
  refine thenN ?_
  refine wp_seq ?_
  refine wp_cond_split (t := decide ((((k : Nat) : Int) : Int) < (((l.length : Nat) : Int) : Int))) (hA.eval (by kernel_rfl)) (fun h2 => ?_) (fun h2 => ?_)
  · skip
    have h2 := of_decide_eq_true h2
    first
    | (exfalso; clear hA hW; omega)
    | (
        refine wp_skip ?_
        refine thenN ?_
        refine wp_seq ?_
        refine wp_block ?_
        refine wp_seq ?_
        refine wp_region_lit ?_
        obtain ⟨y3, hy3⟩ : ∃ y, l[k]? = some y := ⟨_, List.getElem?_eq_getElem (by first | omega | (simp; done) | (simp; omega))⟩
        obtain ⟨b4, o5, rfl, hbb4⟩ := row_some ((hW).getG 0 rfl) hy3
        refine st_rd (v := Value.pointer (some ⟨b4, o5 + k * 2, none⟩)) hA (by kernel_rfl) (by kernel_rfl) (by kernel_rfl) hW.cls (Rd.indexAddr (e := 73) (sz := 2) (b := b4) (off := o5) (n := l.length) (c := c_l) (k := k) (by kernel_rfl) (by kernel_rfl) (by first | omega | (simp; done) | (simp; omega)) (fun _ => by kernel_rfl) (fun _ => by kernel_rfl)) ?_; clear hA ac; intro ac hA
        refine st_rd (v := Value.agg #[Value.bool y3.wrong, Value.int .i64 y3.why]) hA (by kernel_rfl) (by kernel_rfl) (by kernel_rfl) hW.cls (Rd.loadRow (b := b4) (i := o5 + k * 2) (xs := [Value.bool y3.wrong, Value.int .i64 y3.why]) (by kernel_rfl) (fun _ hw => row_ld ((hw.1).getG 0 rfl) hy3 (Fr.refl No _) (fun h => h) 0 2 (by kernel_rfl)) (by kernel_rfl)) ?_; clear hA ac; intro ac hA
        refine st hA (by kernel_rfl) (by kernel_rfl) (by kernel_rfl) (Runs.cells (fun b => Value.pointer (some ⟨b, 0, none⟩)) #[Value.bool false, Value.int .i64 0] 73 (fun _ => by kernel_rfl) hW ?_); clear hA ac hW; intro b6 w7 hW hb6 hfw7 ac hA
        refine st hA (by kernel_rfl) (by kernel_rfl) (by kernel_rfl) (Runs.store (v := Value.agg #[Value.bool y3.wrong, Value.int .i64 y3.why]) (b := b6) (j := 0) (n := 2) (cs' := #[Value.bool y3.wrong, Value.int .i64 y3.why]) (H' := [Cel b6 #[Value.bool y3.wrong, Value.int .i64 y3.why] 73]) (by kernel_rfl) (by kernel_rfl) (by kernel_rfl) (by kernel_rfl) (by kernel_rfl) hW 0 (by rfl) (Nat.le_of_ble_eq_true (by kernel_rfl)) (by kernel_rfl) (by rfl) ?_); clear hA ac hW; intro w8 hW ac hA
        refine wpList_nil ?_
        refine thenN ?_
        refine wp_seq ?_
        refine wp_region_lit ?_
        refine st_rd (v := Value.pointer (some ⟨b6, 0, none⟩)) hA (by kernel_rfl) (by kernel_rfl) (by kernel_rfl) hW.cls (Rd.pure fun _ => by kernel_rfl) ?_; clear hA ac; intro ac hA
        refine st_rd (v := Value.bool y3.wrong) hA (by kernel_rfl) (by kernel_rfl) (by kernel_rfl) hW.cls (Rd.load (b := b6) (i := 0) (by kernel_rfl) (fun _ hw => (hw.1).cel 0 rfl) (by kernel_rfl)) ?_; clear hA ac; intro ac hA
        refine wpList_nil ?_
        refine thenN ?_
        refine wp_cond_split (t := y3.wrong) (hA.eval (by kernel_rfl)) (fun h9 => ?_) (fun h9 => ?_)
        · skip
          first
          | (exfalso; clear hA hW; omega)
          | (
              refine wp_seq ?_
              refine wp_region_lit ?_
              refine st_rd (v := Value.pointer (some ⟨b6, 1, none⟩)) hA (by kernel_rfl) (by kernel_rfl) (by kernel_rfl) hW.cls (Rd.pure fun _ => by kernel_rfl) ?_; clear hA ac; intro ac hA
              refine st_rd (v := Value.int .i64 y3.why) hA (by kernel_rfl) (by kernel_rfl) (by kernel_rfl) hW.cls (Rd.load (b := b6) (i := 1) (by kernel_rfl) (fun _ hw => (hw.1).cel 0 rfl) (by kernel_rfl)) ?_; clear hA ac; intro ac hA
              refine st_rd (v := Value.int .i64 y3.why) hA (by kernel_rfl) (by kernel_rfl) (by kernel_rfl) hW.cls (Rd.pure fun _ => by kernel_rfl) ?_; clear hA ac; intro ac hA
              refine wpList_nil ?_
              refine thenN ?_
              refine wp_ret ?_
              refine blkR ?_
              refine thenR ?_
              refine thenR ?_
              refine blkR ?_
              refine thenR ?_
              refine ret1 (v := Value.int .i64 y3.why) (by rfl) hA (Got.tmp hA (by kernel_rfl) (by kernel_rfl)) ?_
              clear hA
              refine ⟨retv (congrArg (Value.int .i64) ?_), hW.fr⟩; rw [hn, List.drop_eq_getElem_cons (by omega)]; have hq_ := (List.getElem?_eq_some_iff.1 hy3).2; rw [hq_]; simp only [firstAsk]; rw [if_pos h9])
        · skip
          first
          | (exfalso; clear hA hW; omega)
          | (
              refine wp_skip ?_
              refine blkN ?_
              refine thenN ?_
              refine wp_region_lit ?_
              refine st_rd (v := Value.int .i64 ((k + 1 : Nat) : Int)) hA (by kernel_rfl) (by kernel_rfl) (by kernel_rfl) hW.cls (Rd.pureE (v0 := Value.int .i64 (IntKind.i64.wrap ((((k : Nat) : Int) : Int) + 1))) (fun _ => by kernel_rfl) (congrArg (Value.int .i64) ((w_i64 (x := (((k : Nat) : Int) : Int) + 1) (by omega) (by omega)).trans (by omega)))) ?_; clear hA ac; intro ac hA
              refine st_rd (v := Value.int .i64 ((k + 1 : Nat) : Int)) hA (by kernel_rfl) (by kernel_rfl) (by kernel_rfl) hW.cls (Rd.pure fun _ => by kernel_rfl) ?_; clear hA ac; intro ac hA
              refine wpList_nil ?_
              refine thenN ?_
              exact ⟨l.length - (k + 1), by omega, k + 1, rfl, by omega, by rw [hn, List.drop_eq_getElem_cons (by omega)]; have hq_ := (List.getElem?_eq_some_iff.1 hy3).2; rw [hq_]; simp only [firstAsk]; rw [if_neg (by rw [h9]; simp)], hA.sub ⟨⟨by kernel_rfl, by kernel_rfl⟩, ⟨by kernel_rfl, by kernel_rfl⟩, ⟨by kernel_rfl, by kernel_rfl⟩, trivial⟩, (hW.pick [] (by decide) rfl).pickG [0] rfl⟩))
  · skip
    have h2 := of_decide_eq_false h2
    first
    | (exfalso; clear hA hW; omega)
    | (
        refine wp_exit ?_
        refine thenX ?_
        refine thenX ?_
        refine blkX ?_
        refine thenN ?_
        refine wp_seq ?_
        refine wp_region_lit ?_
        refine st_rd (v := Value.int .i64 0) hA (by kernel_rfl) (by kernel_rfl) (by kernel_rfl) hW.cls (Rd.pure fun _ => by kernel_rfl) ?_; clear hA ac; intro ac hA
        refine wpList_nil ?_
        refine thenN ?_
        refine wp_ret ?_
        refine ret1 (v := Value.int .i64 0) (by rfl) hA (Got.tmp hA (by kernel_rfl) (by kernel_rfl)) ?_
        clear hA
        refine ⟨retv (congrArg (Value.int .i64) ?_), hW.fr⟩; rw [hn, List.drop_eq_nil_of_le (by omega)]; rfl)

set_option maxRecDepth 100000 in
theorem e_fine (id : Int) (m : Mark) (w : World) (hid : -9223372036854775808 ≤ id ∧ id ≤ 9223372036854775807) (hcl : 0 ≤ m.clock ∧ m.clock ≤ 18446744073709551615) : Calls Try.prog 27 #[Value.int .i64 id, m.v] w (fun e w' => e = .returned (Value.bool (fineM id m)) ∧ Fr No w w') := by
  have _hu := hid; clear _hu
  have _hu := hcl; clear _hu
  refine enter_E 34 Try.func27 rfl rfl (by kernel_rfl) (L := [(0, Value.int .i64 id), (1, m.v)]) (by kernel_rfl) ?_
  intro ac hA
  have hW := Ws.start w No
  refine wp_seq ?_
  refine wp_region_lit ?_
  refine st hA (by kernel_rfl) (by kernel_rfl) (by kernel_rfl) (Runs.cells (fun b => Value.pointer (some ⟨b, 0, none⟩)) #[Value.int .u64 m.clock, Value.int .i64 m.site.f, Value.int .i64 m.site.pc] 32 (fun _ => by kernel_rfl) hW ?_); clear hA ac hW; intro b1 w2 hW hb1 hfw2 ac hA
  refine st_rd (v := Value.bool false) hA (by kernel_rfl) (by kernel_rfl) (by kernel_rfl) hW.cls (Rd.pure fun _ => by kernel_rfl) ?_; clear hA ac; intro ac hA
  refine wpList_nil ?_
  refine thenN ?_
  refine wp_seq ?_
  refine wp_seq ?_
  rcases Bool.eq_false_or_eq_true (decide (0 ≤ id)) with h3 | h3
  · skip
    have h3 := of_decide_eq_true h3
    first
    | (exfalso; clear hA hW; omega)
    | (
        refine wp_region_lit ?_
        refine st_rd (v := Value.int .i64 id) hA (by kernel_rfl) (by kernel_rfl) (by kernel_rfl) hW.cls (Rd.pure fun _ => by kernel_rfl) ?_; clear hA ac; intro ac hA
        refine st_rd (v := Value.int .u64 id) hA (by kernel_rfl) (by kernel_rfl) (by kernel_rfl) hW.cls (Rd.pureE (v0 := Value.int .u64 (IntKind.u64.wrap (id))) (fun _ => by kernel_rfl) (congrArg (Value.int .u64) (w_u64 (x := id) (by omega) (by omega)))) ?_; clear hA ac; intro ac hA
        refine st_rd (v := Value.agg #[Value.int .u64 id, Value.int .u64 0, Value.int .u64 65535]) hA (by kernel_rfl) (by kernel_rfl) (by kernel_rfl) hW.cls (Rd.pure fun _ => by kernel_rfl) ?_; clear hA ac; intro ac hA
        refine st_rd (v := Value.pointer (some ⟨b1, 0, none⟩)) hA (by kernel_rfl) (by kernel_rfl) (by kernel_rfl) hW.cls (Rd.pure fun _ => by kernel_rfl) ?_; clear hA ac; intro ac hA
        refine st_rd (v := Value.int .u64 m.clock) hA (by kernel_rfl) (by kernel_rfl) (by kernel_rfl) hW.cls (Rd.load (b := b1) (i := 0) (by kernel_rfl) (fun _ hw => (hw.1).cel 0 rfl) (by kernel_rfl)) ?_; clear hA ac; intro ac hA
        refine st_rd (v := Value.agg #[Value.int .u64 m.clock, Value.int .u64 1, Value.int .u64 281474976710655]) hA (by kernel_rfl) (by kernel_rfl) (by kernel_rfl) hW.cls (Rd.pure fun _ => by kernel_rfl) ?_; clear hA ac; intro ac hA
        refine st_rd (v := Value.agg #[Value.int .u64 id, Value.int .u64 0, Value.int .u64 65535, Value.int .u64 m.clock, Value.int .u64 1, Value.int .u64 281474976710655]) hA (by kernel_rfl) (by kernel_rfl) (by kernel_rfl) hW.cls (Rd.pure fun _ => by kernel_rfl) ?_; clear hA ac; intro ac hA
        refine st_rd (v := Value.int .i64 0) hA (by kernel_rfl) (by kernel_rfl) (by kernel_rfl) hW.cls (Rd.pure fun _ => by kernel_rfl) ?_; clear hA ac; intro ac hA
        refine wpList_nil ?_
        refine thenN ?_
        refine wp_block ?_
        refine wp_loop_rounds 3 ?_
        rw [rounds_succ]
        refine wp_seq ?_
        refine wp_region_lit ?_
        refine st_rd (v := Value.bool true) hA (by kernel_rfl) (by kernel_rfl) (by kernel_rfl) hW.cls (Rd.pure fun _ => by kernel_rfl) ?_; clear hA ac; intro ac hA
        refine wpList_nil ?_
        refine thenN ?_
        refine wp_seq ?_
        refine wp_cond_true (hA.eval (by kernel_rfl)) ?_
        refine wp_skip ?_
        refine thenN ?_
        refine wp_seq ?_
        refine wp_block ?_
        refine wp_seq ?_
        refine wp_region_lit ?_
        refine st_rd (v := Value.agg #[Value.int .u64 id, Value.int .u64 0, Value.int .u64 65535]) hA (by kernel_rfl) (by kernel_rfl) (by kernel_rfl) hW.cls (Rd.pure fun _ => by kernel_rfl) ?_; clear hA ac; intro ac hA
        refine st hA (by kernel_rfl) (by kernel_rfl) (by kernel_rfl) (Runs.cells (fun b => Value.pointer (some ⟨b, 0, none⟩)) #[Value.int .u64 0, Value.int .u64 0, Value.int .u64 0] 100 (fun _ => by kernel_rfl) hW ?_); clear hA ac hW; intro b4 w5 hW hb4 hfw5 ac hA
        refine st hA (by kernel_rfl) (by kernel_rfl) (by kernel_rfl) (Runs.store (v := Value.agg #[Value.int .u64 id, Value.int .u64 0, Value.int .u64 65535]) (b := b4) (j := 0) (n := 3) (cs' := #[Value.int .u64 id, Value.int .u64 0, Value.int .u64 65535]) (H' := [Cel b4 #[Value.int .u64 id, Value.int .u64 0, Value.int .u64 65535] 100, Cel b1 #[Value.int .u64 m.clock, Value.int .i64 m.site.f, Value.int .i64 m.site.pc] 32]) (by kernel_rfl) (by kernel_rfl) (by kernel_rfl) (by kernel_rfl) (by kernel_rfl) hW 0 (by rfl) (Nat.le_of_ble_eq_true (by kernel_rfl)) (by kernel_rfl) (by rfl) ?_); clear hA ac hW; intro w6 hW ac hA
        refine wpList_nil ?_
        refine thenN ?_
        refine wp_seq ?_
        refine wp_region_lit ?_
        refine st_rd (v := Value.pointer (some ⟨b4, 0, none⟩)) hA (by kernel_rfl) (by kernel_rfl) (by kernel_rfl) hW.cls (Rd.pure fun _ => by kernel_rfl) ?_; clear hA ac; intro ac hA
        refine st_rd (v := Value.int .u64 id) hA (by kernel_rfl) (by kernel_rfl) (by kernel_rfl) hW.cls (Rd.load (b := b4) (i := 0) (by kernel_rfl) (fun _ hw => (hw.1).cel 0 rfl) (by kernel_rfl)) ?_; clear hA ac; intro ac hA
        refine st_rd (v := Value.pointer (some ⟨b4, 1, none⟩)) hA (by kernel_rfl) (by kernel_rfl) (by kernel_rfl) hW.cls (Rd.pure fun _ => by kernel_rfl) ?_; clear hA ac; intro ac hA
        refine st_rd (v := Value.int .u64 0) hA (by kernel_rfl) (by kernel_rfl) (by kernel_rfl) hW.cls (Rd.load (b := b4) (i := 1) (by kernel_rfl) (fun _ hw => (hw.1).cel 0 rfl) (by kernel_rfl)) ?_; clear hA ac; intro ac hA
        refine st_rd (v := Value.bool (decide ((id : Int) < (0 : Int)))) hA (by kernel_rfl) (by kernel_rfl) (by kernel_rfl) hW.cls (Rd.pure fun _ => by kernel_rfl) ?_; clear hA ac; intro ac hA
        refine st_rd (v := Value.bool (decide ((id : Int) < (0 : Int)))) hA (by kernel_rfl) (by kernel_rfl) (by kernel_rfl) hW.cls (Rd.pure fun _ => by kernel_rfl) ?_; clear hA ac; intro ac hA
        rcases Bool.eq_false_or_eq_true (decide ((id : Int) < (0 : Int))) with h7 | h7
        · skip
          rw [h7] at hA
          have h7 := of_decide_eq_true h7
          first
          | (exfalso; clear hA hW; omega)
          | (
              refine st_skip hA (by kernel_rfl) (by kernel_rfl) ?_; clear hA ac; intro ac hA
              refine st_skip hA (by kernel_rfl) (by kernel_rfl) ?_; clear hA ac; intro ac hA
              refine st_skip hA (by kernel_rfl) (by kernel_rfl) ?_; clear hA ac; intro ac hA
              refine st_skip hA (by kernel_rfl) (by kernel_rfl) ?_; clear hA ac; intro ac hA
              refine st_skip hA (by kernel_rfl) (by kernel_rfl) ?_; clear hA ac; intro ac hA
              refine st_rd (v := Value.bool true) hA (by kernel_rfl) (by kernel_rfl) (by kernel_rfl) hW.cls (Rd.pure fun _ => by kernel_rfl) ?_; clear hA ac; intro ac hA
              refine wpList_nil ?_
              refine thenN ?_
              refine wp_cond_true (hA.eval (by kernel_rfl)) ?_
              refine wp_seq ?_
              refine wp_region_lit ?_
              refine st_rd (v := Value.bool false) hA (by kernel_rfl) (by kernel_rfl) (by kernel_rfl) hW.cls (Rd.pure fun _ => by kernel_rfl) ?_; clear hA ac; intro ac hA
              refine wpList_nil ?_
              refine thenN ?_
              refine wp_ret ?_
              refine blkR ?_
              refine thenR ?_
              refine thenR ?_
              refine blkR ?_
              refine thenR ?_
              refine ret1 (v := Value.bool false) (by rfl) hA (Got.tmp hA (by kernel_rfl) (by kernel_rfl)) ?_
              clear hA
              refine ⟨retv (congrArg Value.bool ?_), hW.fr⟩; unfold fineM; first | (simp [*]; done) | (simp [*]; omega) | (simp; omega) | (simp only [argErr_zero]; simp; omega) | (simp [argErr_zero, *]; done) | (simp [argErr_zero, *]; omega) | (simp [*, argErr]; done) | (simp [*, argErr]; omega))
        · skip
          rw [h7] at hA
          have h7 := of_decide_eq_false h7
          first
          | (exfalso; clear hA hW; omega)
          | (
              refine st_rd (v := Value.pointer (some ⟨b4, 0, none⟩)) hA (by kernel_rfl) (by kernel_rfl) (by kernel_rfl) hW.cls (Rd.pure fun _ => by kernel_rfl) ?_; clear hA ac; intro ac hA
              refine st_rd (v := Value.int .u64 id) hA (by kernel_rfl) (by kernel_rfl) (by kernel_rfl) hW.cls (Rd.load (b := b4) (i := 0) (by kernel_rfl) (fun _ hw => (hw.1).cel 0 rfl) (by kernel_rfl)) ?_; clear hA ac; intro ac hA
              refine st_rd (v := Value.pointer (some ⟨b4, 2, none⟩)) hA (by kernel_rfl) (by kernel_rfl) (by kernel_rfl) hW.cls (Rd.pure fun _ => by kernel_rfl) ?_; clear hA ac; intro ac hA
              refine st_rd (v := Value.int .u64 65535) hA (by kernel_rfl) (by kernel_rfl) (by kernel_rfl) hW.cls (Rd.load (b := b4) (i := 2) (by kernel_rfl) (fun _ hw => (hw.1).cel 0 rfl) (by kernel_rfl)) ?_; clear hA ac; intro ac hA
              refine st_rd (v := Value.bool (decide ((id : Int) > (65535 : Int)))) hA (by kernel_rfl) (by kernel_rfl) (by kernel_rfl) hW.cls (Rd.pure fun _ => by kernel_rfl) ?_; clear hA ac; intro ac hA
              refine st_rd (v := Value.bool (decide ((id : Int) > (65535 : Int)))) hA (by kernel_rfl) (by kernel_rfl) (by kernel_rfl) hW.cls (Rd.pure fun _ => by kernel_rfl) ?_; clear hA ac; intro ac hA
              refine wpList_nil ?_
              refine thenN ?_
              refine wp_cond_split (t := decide ((id : Int) > (65535 : Int))) (hA.eval (by kernel_rfl)) (fun h8 => ?_) (fun h8 => ?_)
              · skip
                have h8 := of_decide_eq_true h8
                first
                | (exfalso; clear hA hW; omega)
                | (
                    refine wp_seq ?_
                    refine wp_region_lit ?_
                    refine st_rd (v := Value.bool false) hA (by kernel_rfl) (by kernel_rfl) (by kernel_rfl) hW.cls (Rd.pure fun _ => by kernel_rfl) ?_; clear hA ac; intro ac hA
                    refine wpList_nil ?_
                    refine thenN ?_
                    refine wp_ret ?_
                    refine blkR ?_
                    refine thenR ?_
                    refine thenR ?_
                    refine blkR ?_
                    refine thenR ?_
                    refine ret1 (v := Value.bool false) (by rfl) hA (Got.tmp hA (by kernel_rfl) (by kernel_rfl)) ?_
                    clear hA
                    refine ⟨retv (congrArg Value.bool ?_), hW.fr⟩; unfold fineM; first | (simp [*]; done) | (simp [*]; omega) | (simp; omega) | (simp only [argErr_zero]; simp; omega) | (simp [argErr_zero, *]; done) | (simp [argErr_zero, *]; omega) | (simp [*, argErr]; done) | (simp [*, argErr]; omega))
              · skip
                have h8 := of_decide_eq_false h8
                first
                | (exfalso; clear hA hW; omega)
                | (
                    refine wp_skip ?_
                    refine blkN ?_
                    refine thenN ?_
                    refine wp_region_lit ?_
                    refine st_rd (v := Value.int .i64 1) hA (by kernel_rfl) (by kernel_rfl) (by kernel_rfl) hW.cls (Rd.pureE (v0 := Value.int .i64 (IntKind.i64.wrap ((0 : Int) + 1))) (fun _ => by kernel_rfl) (congrArg (Value.int .i64) ((w_i64 (x := (0 : Int) + 1) (by omega) (by omega)).trans (by omega)))) ?_; clear hA ac; intro ac hA
                    refine st_rd (v := Value.int .i64 1) hA (by kernel_rfl) (by kernel_rfl) (by kernel_rfl) hW.cls (Rd.pure fun _ => by kernel_rfl) ?_; clear hA ac; intro ac hA
                    refine wpList_nil ?_
                    refine thenN ?_
                    rw [rounds_succ]
                    refine wp_seq ?_
                    refine wp_region_lit ?_
                    refine st_rd (v := Value.bool true) hA (by kernel_rfl) (by kernel_rfl) (by kernel_rfl) hW.cls (Rd.pure fun _ => by kernel_rfl) ?_; clear hA ac; intro ac hA
                    refine wpList_nil ?_
                    refine thenN ?_
                    refine wp_seq ?_
                    refine wp_cond_true (hA.eval (by kernel_rfl)) ?_
                    refine wp_skip ?_
                    refine thenN ?_
                    refine wp_seq ?_
                    refine wp_block ?_
                    refine wp_seq ?_
                    refine wp_region_lit ?_
                    refine st_rd (v := Value.agg #[Value.int .u64 m.clock, Value.int .u64 1, Value.int .u64 281474976710655]) hA (by kernel_rfl) (by kernel_rfl) (by kernel_rfl) hW.cls (Rd.pure fun _ => by kernel_rfl) ?_; clear hA ac; intro ac hA
                    refine st hA (by kernel_rfl) (by kernel_rfl) (by kernel_rfl) (Runs.cells (fun b => Value.pointer (some ⟨b, 0, none⟩)) #[Value.int .u64 0, Value.int .u64 0, Value.int .u64 0] 100 (fun _ => by kernel_rfl) hW ?_); clear hA ac hW; intro b9 w10 hW hb9 hfw10 ac hA
                    refine st hA (by kernel_rfl) (by kernel_rfl) (by kernel_rfl) (Runs.store (v := Value.agg #[Value.int .u64 m.clock, Value.int .u64 1, Value.int .u64 281474976710655]) (b := b9) (j := 0) (n := 3) (cs' := #[Value.int .u64 m.clock, Value.int .u64 1, Value.int .u64 281474976710655]) (H' := [Cel b9 #[Value.int .u64 m.clock, Value.int .u64 1, Value.int .u64 281474976710655] 100, Cel b4 #[Value.int .u64 id, Value.int .u64 0, Value.int .u64 65535] 100, Cel b1 #[Value.int .u64 m.clock, Value.int .i64 m.site.f, Value.int .i64 m.site.pc] 32]) (by kernel_rfl) (by kernel_rfl) (by kernel_rfl) (by kernel_rfl) (by kernel_rfl) hW 0 (by rfl) (Nat.le_of_ble_eq_true (by kernel_rfl)) (by kernel_rfl) (by rfl) ?_); clear hA ac hW; intro w11 hW ac hA
                    refine wpList_nil ?_
                    refine thenN ?_
                    refine wp_seq ?_
                    refine wp_region_lit ?_
                    refine st_rd (v := Value.pointer (some ⟨b9, 0, none⟩)) hA (by kernel_rfl) (by kernel_rfl) (by kernel_rfl) hW.cls (Rd.pure fun _ => by kernel_rfl) ?_; clear hA ac; intro ac hA
                    refine st_rd (v := Value.int .u64 m.clock) hA (by kernel_rfl) (by kernel_rfl) (by kernel_rfl) hW.cls (Rd.load (b := b9) (i := 0) (by kernel_rfl) (fun _ hw => (hw.1).cel 0 rfl) (by kernel_rfl)) ?_; clear hA ac; intro ac hA
                    refine st_rd (v := Value.pointer (some ⟨b9, 1, none⟩)) hA (by kernel_rfl) (by kernel_rfl) (by kernel_rfl) hW.cls (Rd.pure fun _ => by kernel_rfl) ?_; clear hA ac; intro ac hA
                    refine st_rd (v := Value.int .u64 1) hA (by kernel_rfl) (by kernel_rfl) (by kernel_rfl) hW.cls (Rd.load (b := b9) (i := 1) (by kernel_rfl) (fun _ hw => (hw.1).cel 0 rfl) (by kernel_rfl)) ?_; clear hA ac; intro ac hA
                    refine st_rd (v := Value.bool (decide ((m.clock : Int) < (1 : Int)))) hA (by kernel_rfl) (by kernel_rfl) (by kernel_rfl) hW.cls (Rd.pure fun _ => by kernel_rfl) ?_; clear hA ac; intro ac hA
                    refine st_rd (v := Value.bool (decide ((m.clock : Int) < (1 : Int)))) hA (by kernel_rfl) (by kernel_rfl) (by kernel_rfl) hW.cls (Rd.pure fun _ => by kernel_rfl) ?_; clear hA ac; intro ac hA
                    rcases Bool.eq_false_or_eq_true (decide ((m.clock : Int) < (1 : Int))) with h12 | h12
                    · skip
                      rw [h12] at hA
                      have h12 := of_decide_eq_true h12
                      first
                      | (exfalso; clear hA hW; omega)
                      | (
                          refine st_skip hA (by kernel_rfl) (by kernel_rfl) ?_; clear hA ac; intro ac hA
                          refine st_skip hA (by kernel_rfl) (by kernel_rfl) ?_; clear hA ac; intro ac hA
                          refine st_skip hA (by kernel_rfl) (by kernel_rfl) ?_; clear hA ac; intro ac hA
                          refine st_skip hA (by kernel_rfl) (by kernel_rfl) ?_; clear hA ac; intro ac hA
                          refine st_skip hA (by kernel_rfl) (by kernel_rfl) ?_; clear hA ac; intro ac hA
                          refine st_rd (v := Value.bool true) hA (by kernel_rfl) (by kernel_rfl) (by kernel_rfl) hW.cls (Rd.pure fun _ => by kernel_rfl) ?_; clear hA ac; intro ac hA
                          refine wpList_nil ?_
                          refine thenN ?_
                          refine wp_cond_true (hA.eval (by kernel_rfl)) ?_
                          refine wp_seq ?_
                          refine wp_region_lit ?_
                          refine st_rd (v := Value.bool false) hA (by kernel_rfl) (by kernel_rfl) (by kernel_rfl) hW.cls (Rd.pure fun _ => by kernel_rfl) ?_; clear hA ac; intro ac hA
                          refine wpList_nil ?_
                          refine thenN ?_
                          refine wp_ret ?_
                          refine blkR ?_
                          refine thenR ?_
                          refine thenR ?_
                          refine blkR ?_
                          refine thenR ?_
                          refine ret1 (v := Value.bool false) (by rfl) hA (Got.tmp hA (by kernel_rfl) (by kernel_rfl)) ?_
                          clear hA
                          refine ⟨retv (congrArg Value.bool ?_), hW.fr⟩; unfold fineM; first | (simp [*]; done) | (simp [*]; omega) | (simp; omega) | (simp only [argErr_zero]; simp; omega) | (simp [argErr_zero, *]; done) | (simp [argErr_zero, *]; omega) | (simp [*, argErr]; done) | (simp [*, argErr]; omega))
                    · skip
                      rw [h12] at hA
                      have h12 := of_decide_eq_false h12
                      first
                      | (exfalso; clear hA hW; omega)
                      | (
                          refine st_rd (v := Value.pointer (some ⟨b9, 0, none⟩)) hA (by kernel_rfl) (by kernel_rfl) (by kernel_rfl) hW.cls (Rd.pure fun _ => by kernel_rfl) ?_; clear hA ac; intro ac hA
                          refine st_rd (v := Value.int .u64 m.clock) hA (by kernel_rfl) (by kernel_rfl) (by kernel_rfl) hW.cls (Rd.load (b := b9) (i := 0) (by kernel_rfl) (fun _ hw => (hw.1).cel 0 rfl) (by kernel_rfl)) ?_; clear hA ac; intro ac hA
                          refine st_rd (v := Value.pointer (some ⟨b9, 2, none⟩)) hA (by kernel_rfl) (by kernel_rfl) (by kernel_rfl) hW.cls (Rd.pure fun _ => by kernel_rfl) ?_; clear hA ac; intro ac hA
                          refine st_rd (v := Value.int .u64 281474976710655) hA (by kernel_rfl) (by kernel_rfl) (by kernel_rfl) hW.cls (Rd.load (b := b9) (i := 2) (by kernel_rfl) (fun _ hw => (hw.1).cel 0 rfl) (by kernel_rfl)) ?_; clear hA ac; intro ac hA
                          refine st_rd (v := Value.bool (decide ((m.clock : Int) > (281474976710655 : Int)))) hA (by kernel_rfl) (by kernel_rfl) (by kernel_rfl) hW.cls (Rd.pure fun _ => by kernel_rfl) ?_; clear hA ac; intro ac hA
                          refine st_rd (v := Value.bool (decide ((m.clock : Int) > (281474976710655 : Int)))) hA (by kernel_rfl) (by kernel_rfl) (by kernel_rfl) hW.cls (Rd.pure fun _ => by kernel_rfl) ?_; clear hA ac; intro ac hA
                          refine wpList_nil ?_
                          refine thenN ?_
                          refine wp_cond_split (t := decide ((m.clock : Int) > (281474976710655 : Int))) (hA.eval (by kernel_rfl)) (fun h13 => ?_) (fun h13 => ?_)
                          · skip
                            have h13 := of_decide_eq_true h13
                            first
                            | (exfalso; clear hA hW; omega)
                            | (
                                refine wp_seq ?_
                                refine wp_region_lit ?_
                                refine st_rd (v := Value.bool false) hA (by kernel_rfl) (by kernel_rfl) (by kernel_rfl) hW.cls (Rd.pure fun _ => by kernel_rfl) ?_; clear hA ac; intro ac hA
                                refine wpList_nil ?_
                                refine thenN ?_
                                refine wp_ret ?_
                                refine blkR ?_
                                refine thenR ?_
                                refine thenR ?_
                                refine blkR ?_
                                refine thenR ?_
                                refine ret1 (v := Value.bool false) (by rfl) hA (Got.tmp hA (by kernel_rfl) (by kernel_rfl)) ?_
                                clear hA
                                refine ⟨retv (congrArg Value.bool ?_), hW.fr⟩; unfold fineM; first | (simp [*]; done) | (simp [*]; omega) | (simp; omega) | (simp only [argErr_zero]; simp; omega) | (simp [argErr_zero, *]; done) | (simp [argErr_zero, *]; omega) | (simp [*, argErr]; done) | (simp [*, argErr]; omega))
                          · skip
                            have h13 := of_decide_eq_false h13
                            first
                            | (exfalso; clear hA hW; omega)
                            | (
                                refine wp_skip ?_
                                refine blkN ?_
                                refine thenN ?_
                                refine wp_region_lit ?_
                                refine st_rd (v := Value.int .i64 2) hA (by kernel_rfl) (by kernel_rfl) (by kernel_rfl) hW.cls (Rd.pureE (v0 := Value.int .i64 (IntKind.i64.wrap ((1 : Int) + 1))) (fun _ => by kernel_rfl) (congrArg (Value.int .i64) ((w_i64 (x := (1 : Int) + 1) (by omega) (by omega)).trans (by omega)))) ?_; clear hA ac; intro ac hA
                                refine st_rd (v := Value.int .i64 2) hA (by kernel_rfl) (by kernel_rfl) (by kernel_rfl) hW.cls (Rd.pure fun _ => by kernel_rfl) ?_; clear hA ac; intro ac hA
                                refine wpList_nil ?_
                                refine thenN ?_
                                rw [rounds_succ]
                                refine wp_seq ?_
                                refine wp_region_lit ?_
                                refine st_rd (v := Value.bool false) hA (by kernel_rfl) (by kernel_rfl) (by kernel_rfl) hW.cls (Rd.pure fun _ => by kernel_rfl) ?_; clear hA ac; intro ac hA
                                refine wpList_nil ?_
                                refine thenN ?_
                                refine wp_seq ?_
                                refine wp_cond_false (hA.eval (by kernel_rfl)) ?_
                                refine wp_exit ?_
                                refine thenX ?_
                                refine thenX ?_
                                refine blkX ?_
                                refine thenN ?_
                                refine wp_seq ?_
                                refine wp_region_lit ?_
                                refine st_rd (v := Value.pointer (some ⟨b1, 1, none⟩)) hA (by kernel_rfl) (by kernel_rfl) (by kernel_rfl) hW.cls (Rd.pure fun _ => by kernel_rfl) ?_; clear hA ac; intro ac hA
                                refine st_rd (v := Value.agg #[Value.int .i64 m.site.f, Value.int .i64 m.site.pc]) hA (by kernel_rfl) (by kernel_rfl) (by kernel_rfl) hW.cls (Rd.load (b := b1) (i := 1) (by kernel_rfl) (fun _ hw => (hw.1).cel 2 rfl) (by kernel_rfl)) ?_; clear hA ac; intro ac hA
                                refine st hA (by kernel_rfl) (by kernel_rfl) (by kernel_rfl) (Runs.callN (v := Value.int .i64 (argErr (Site.ok m.site))) (fun _ => by kernel_rfl) hW (check_any m.site w11) ?_); clear hA ac hW; intro w14 hW hfw14 ac hA
                                refine st_rd (v := Value.bool ((argErr (Site.ok m.site) : Int) == (0 : Int))) hA (by kernel_rfl) (by kernel_rfl) (by kernel_rfl) hW.cls (Rd.pure fun _ => by kernel_rfl) ?_; clear hA ac; intro ac hA
                                refine st_rd (v := Value.bool ((argErr (Site.ok m.site) : Int) == (0 : Int))) hA (by kernel_rfl) (by kernel_rfl) (by kernel_rfl) hW.cls (Rd.pure fun _ => by kernel_rfl) ?_; clear hA ac; intro ac hA
                                refine wpList_nil ?_
                                refine thenN ?_
                                refine wp_ret ?_
                                refine ret1 (v := Value.bool ((argErr (Site.ok m.site) : Int) == (0 : Int))) (by rfl) hA (Got.tmp hA (by kernel_rfl) (by kernel_rfl)) ?_
                                clear hA
                                refine ⟨retv (congrArg Value.bool ?_), hW.fr⟩; unfold fineM; first | (simp [*]; done) | (simp [*]; omega) | (simp; omega) | (simp only [argErr_zero]; simp; omega) | (simp [argErr_zero, *]; done) | (simp [argErr_zero, *]; omega) | (simp [*, argErr]; done) | (simp [*, argErr]; omega))))))
  · skip
    have h3 := of_decide_eq_false h3
    first
    | (exfalso; clear hA hW; omega)
    | (
        refine wp_region_lit ?_
        refine st_rd (v := Value.int .i64 id) hA (by kernel_rfl) (by kernel_rfl) (by kernel_rfl) hW.cls (Rd.pure fun _ => by kernel_rfl) ?_; clear hA ac; intro ac hA
        refine st_rd (v := Value.int .u64 (id + 18446744073709551616)) hA (by kernel_rfl) (by kernel_rfl) (by kernel_rfl) hW.cls (Rd.pureE (v0 := Value.int .u64 (IntKind.u64.wrap (id))) (fun _ => by kernel_rfl) (congrArg (Value.int .u64) (by simp [IntKind.wrap, IntKind.bits, IntKind.signed]; omega))) ?_; clear hA ac; intro ac hA
        refine st_rd (v := Value.agg #[Value.int .u64 (id + 18446744073709551616), Value.int .u64 0, Value.int .u64 65535]) hA (by kernel_rfl) (by kernel_rfl) (by kernel_rfl) hW.cls (Rd.pure fun _ => by kernel_rfl) ?_; clear hA ac; intro ac hA
        refine st_rd (v := Value.pointer (some ⟨b1, 0, none⟩)) hA (by kernel_rfl) (by kernel_rfl) (by kernel_rfl) hW.cls (Rd.pure fun _ => by kernel_rfl) ?_; clear hA ac; intro ac hA
        refine st_rd (v := Value.int .u64 m.clock) hA (by kernel_rfl) (by kernel_rfl) (by kernel_rfl) hW.cls (Rd.load (b := b1) (i := 0) (by kernel_rfl) (fun _ hw => (hw.1).cel 0 rfl) (by kernel_rfl)) ?_; clear hA ac; intro ac hA
        refine st_rd (v := Value.agg #[Value.int .u64 m.clock, Value.int .u64 1, Value.int .u64 281474976710655]) hA (by kernel_rfl) (by kernel_rfl) (by kernel_rfl) hW.cls (Rd.pure fun _ => by kernel_rfl) ?_; clear hA ac; intro ac hA
        refine st_rd (v := Value.agg #[Value.int .u64 (id + 18446744073709551616), Value.int .u64 0, Value.int .u64 65535, Value.int .u64 m.clock, Value.int .u64 1, Value.int .u64 281474976710655]) hA (by kernel_rfl) (by kernel_rfl) (by kernel_rfl) hW.cls (Rd.pure fun _ => by kernel_rfl) ?_; clear hA ac; intro ac hA
        refine st_rd (v := Value.int .i64 0) hA (by kernel_rfl) (by kernel_rfl) (by kernel_rfl) hW.cls (Rd.pure fun _ => by kernel_rfl) ?_; clear hA ac; intro ac hA
        refine wpList_nil ?_
        refine thenN ?_
        refine wp_block ?_
        refine wp_loop_rounds 3 ?_
        rw [rounds_succ]
        refine wp_seq ?_
        refine wp_region_lit ?_
        refine st_rd (v := Value.bool true) hA (by kernel_rfl) (by kernel_rfl) (by kernel_rfl) hW.cls (Rd.pure fun _ => by kernel_rfl) ?_; clear hA ac; intro ac hA
        refine wpList_nil ?_
        refine thenN ?_
        refine wp_seq ?_
        refine wp_cond_true (hA.eval (by kernel_rfl)) ?_
        refine wp_skip ?_
        refine thenN ?_
        refine wp_seq ?_
        refine wp_block ?_
        refine wp_seq ?_
        refine wp_region_lit ?_
        refine st_rd (v := Value.agg #[Value.int .u64 (id + 18446744073709551616), Value.int .u64 0, Value.int .u64 65535]) hA (by kernel_rfl) (by kernel_rfl) (by kernel_rfl) hW.cls (Rd.pure fun _ => by kernel_rfl) ?_; clear hA ac; intro ac hA
        refine st hA (by kernel_rfl) (by kernel_rfl) (by kernel_rfl) (Runs.cells (fun b => Value.pointer (some ⟨b, 0, none⟩)) #[Value.int .u64 0, Value.int .u64 0, Value.int .u64 0] 100 (fun _ => by kernel_rfl) hW ?_); clear hA ac hW; intro b15 w16 hW hb15 hfw16 ac hA
        refine st hA (by kernel_rfl) (by kernel_rfl) (by kernel_rfl) (Runs.store (v := Value.agg #[Value.int .u64 (id + 18446744073709551616), Value.int .u64 0, Value.int .u64 65535]) (b := b15) (j := 0) (n := 3) (cs' := #[Value.int .u64 (id + 18446744073709551616), Value.int .u64 0, Value.int .u64 65535]) (H' := [Cel b15 #[Value.int .u64 (id + 18446744073709551616), Value.int .u64 0, Value.int .u64 65535] 100, Cel b1 #[Value.int .u64 m.clock, Value.int .i64 m.site.f, Value.int .i64 m.site.pc] 32]) (by kernel_rfl) (by kernel_rfl) (by kernel_rfl) (by kernel_rfl) (by kernel_rfl) hW 0 (by rfl) (Nat.le_of_ble_eq_true (by kernel_rfl)) (by kernel_rfl) (by rfl) ?_); clear hA ac hW; intro w17 hW ac hA
        refine wpList_nil ?_
        refine thenN ?_
        refine wp_seq ?_
        refine wp_region_lit ?_
        refine st_rd (v := Value.pointer (some ⟨b15, 0, none⟩)) hA (by kernel_rfl) (by kernel_rfl) (by kernel_rfl) hW.cls (Rd.pure fun _ => by kernel_rfl) ?_; clear hA ac; intro ac hA
        refine st_rd (v := Value.int .u64 (id + 18446744073709551616)) hA (by kernel_rfl) (by kernel_rfl) (by kernel_rfl) hW.cls (Rd.load (b := b15) (i := 0) (by kernel_rfl) (fun _ hw => (hw.1).cel 0 rfl) (by kernel_rfl)) ?_; clear hA ac; intro ac hA
        refine st_rd (v := Value.pointer (some ⟨b15, 1, none⟩)) hA (by kernel_rfl) (by kernel_rfl) (by kernel_rfl) hW.cls (Rd.pure fun _ => by kernel_rfl) ?_; clear hA ac; intro ac hA
        refine st_rd (v := Value.int .u64 0) hA (by kernel_rfl) (by kernel_rfl) (by kernel_rfl) hW.cls (Rd.load (b := b15) (i := 1) (by kernel_rfl) (fun _ hw => (hw.1).cel 0 rfl) (by kernel_rfl)) ?_; clear hA ac; intro ac hA
        refine st_rd (v := Value.bool (decide (((id + 18446744073709551616) : Int) < (0 : Int)))) hA (by kernel_rfl) (by kernel_rfl) (by kernel_rfl) hW.cls (Rd.pure fun _ => by kernel_rfl) ?_; clear hA ac; intro ac hA
        refine st_rd (v := Value.bool (decide (((id + 18446744073709551616) : Int) < (0 : Int)))) hA (by kernel_rfl) (by kernel_rfl) (by kernel_rfl) hW.cls (Rd.pure fun _ => by kernel_rfl) ?_; clear hA ac; intro ac hA
        rcases Bool.eq_false_or_eq_true (decide (((id + 18446744073709551616) : Int) < (0 : Int))) with h18 | h18
        · skip
          rw [h18] at hA
          have h18 := of_decide_eq_true h18
          first
          | (exfalso; clear hA hW; omega)
          | (
              refine st_skip hA (by kernel_rfl) (by kernel_rfl) ?_; clear hA ac; intro ac hA
              refine st_skip hA (by kernel_rfl) (by kernel_rfl) ?_; clear hA ac; intro ac hA
              refine st_skip hA (by kernel_rfl) (by kernel_rfl) ?_; clear hA ac; intro ac hA
              refine st_skip hA (by kernel_rfl) (by kernel_rfl) ?_; clear hA ac; intro ac hA
              refine st_skip hA (by kernel_rfl) (by kernel_rfl) ?_; clear hA ac; intro ac hA
              refine st_rd (v := Value.bool true) hA (by kernel_rfl) (by kernel_rfl) (by kernel_rfl) hW.cls (Rd.pure fun _ => by kernel_rfl) ?_; clear hA ac; intro ac hA
              refine wpList_nil ?_
              refine thenN ?_
              refine wp_cond_true (hA.eval (by kernel_rfl)) ?_
              refine wp_seq ?_
              refine wp_region_lit ?_
              refine st_rd (v := Value.bool false) hA (by kernel_rfl) (by kernel_rfl) (by kernel_rfl) hW.cls (Rd.pure fun _ => by kernel_rfl) ?_; clear hA ac; intro ac hA
              refine wpList_nil ?_
              refine thenN ?_
              refine wp_ret ?_
              refine blkR ?_
              refine thenR ?_
              refine thenR ?_
              refine blkR ?_
              refine thenR ?_
              refine ret1 (v := Value.bool false) (by rfl) hA (Got.tmp hA (by kernel_rfl) (by kernel_rfl)) ?_
              clear hA
              refine ⟨retv (congrArg Value.bool ?_), hW.fr⟩; unfold fineM; first | (simp [*]; done) | (simp [*]; omega) | (simp; omega) | (simp only [argErr_zero]; simp; omega) | (simp [argErr_zero, *]; done) | (simp [argErr_zero, *]; omega) | (simp [*, argErr]; done) | (simp [*, argErr]; omega))
        · skip
          rw [h18] at hA
          have h18 := of_decide_eq_false h18
          first
          | (exfalso; clear hA hW; omega)
          | (
              refine st_rd (v := Value.pointer (some ⟨b15, 0, none⟩)) hA (by kernel_rfl) (by kernel_rfl) (by kernel_rfl) hW.cls (Rd.pure fun _ => by kernel_rfl) ?_; clear hA ac; intro ac hA
              refine st_rd (v := Value.int .u64 (id + 18446744073709551616)) hA (by kernel_rfl) (by kernel_rfl) (by kernel_rfl) hW.cls (Rd.load (b := b15) (i := 0) (by kernel_rfl) (fun _ hw => (hw.1).cel 0 rfl) (by kernel_rfl)) ?_; clear hA ac; intro ac hA
              refine st_rd (v := Value.pointer (some ⟨b15, 2, none⟩)) hA (by kernel_rfl) (by kernel_rfl) (by kernel_rfl) hW.cls (Rd.pure fun _ => by kernel_rfl) ?_; clear hA ac; intro ac hA
              refine st_rd (v := Value.int .u64 65535) hA (by kernel_rfl) (by kernel_rfl) (by kernel_rfl) hW.cls (Rd.load (b := b15) (i := 2) (by kernel_rfl) (fun _ hw => (hw.1).cel 0 rfl) (by kernel_rfl)) ?_; clear hA ac; intro ac hA
              refine st_rd (v := Value.bool (decide (((id + 18446744073709551616) : Int) > (65535 : Int)))) hA (by kernel_rfl) (by kernel_rfl) (by kernel_rfl) hW.cls (Rd.pure fun _ => by kernel_rfl) ?_; clear hA ac; intro ac hA
              refine st_rd (v := Value.bool (decide (((id + 18446744073709551616) : Int) > (65535 : Int)))) hA (by kernel_rfl) (by kernel_rfl) (by kernel_rfl) hW.cls (Rd.pure fun _ => by kernel_rfl) ?_; clear hA ac; intro ac hA
              refine wpList_nil ?_
              refine thenN ?_
              refine wp_cond_split (t := decide (((id + 18446744073709551616) : Int) > (65535 : Int))) (hA.eval (by kernel_rfl)) (fun h19 => ?_) (fun h19 => ?_)
              · skip
                have h19 := of_decide_eq_true h19
                first
                | (exfalso; clear hA hW; omega)
                | (
                    refine wp_seq ?_
                    refine wp_region_lit ?_
                    refine st_rd (v := Value.bool false) hA (by kernel_rfl) (by kernel_rfl) (by kernel_rfl) hW.cls (Rd.pure fun _ => by kernel_rfl) ?_; clear hA ac; intro ac hA
                    refine wpList_nil ?_
                    refine thenN ?_
                    refine wp_ret ?_
                    refine blkR ?_
                    refine thenR ?_
                    refine thenR ?_
                    refine blkR ?_
                    refine thenR ?_
                    refine ret1 (v := Value.bool false) (by rfl) hA (Got.tmp hA (by kernel_rfl) (by kernel_rfl)) ?_
                    clear hA
                    refine ⟨retv (congrArg Value.bool ?_), hW.fr⟩; unfold fineM; first | (simp [*]; done) | (simp [*]; omega) | (simp; omega) | (simp only [argErr_zero]; simp; omega) | (simp [argErr_zero, *]; done) | (simp [argErr_zero, *]; omega) | (simp [*, argErr]; done) | (simp [*, argErr]; omega))
              · skip
                have h19 := of_decide_eq_false h19
                first
                | (exfalso; clear hA hW; omega)
                | (
                    refine wp_skip ?_
                    refine blkN ?_
                    refine thenN ?_
                    refine wp_region_lit ?_
                    refine st_rd (v := Value.int .i64 1) hA (by kernel_rfl) (by kernel_rfl) (by kernel_rfl) hW.cls (Rd.pureE (v0 := Value.int .i64 (IntKind.i64.wrap ((0 : Int) + 1))) (fun _ => by kernel_rfl) (congrArg (Value.int .i64) ((w_i64 (x := (0 : Int) + 1) (by omega) (by omega)).trans (by omega)))) ?_; clear hA ac; intro ac hA
                    refine st_rd (v := Value.int .i64 1) hA (by kernel_rfl) (by kernel_rfl) (by kernel_rfl) hW.cls (Rd.pure fun _ => by kernel_rfl) ?_; clear hA ac; intro ac hA
                    refine wpList_nil ?_
                    refine thenN ?_
                    rw [rounds_succ]
                    refine wp_seq ?_
                    refine wp_region_lit ?_
                    refine st_rd (v := Value.bool true) hA (by kernel_rfl) (by kernel_rfl) (by kernel_rfl) hW.cls (Rd.pure fun _ => by kernel_rfl) ?_; clear hA ac; intro ac hA
                    refine wpList_nil ?_
                    refine thenN ?_
                    refine wp_seq ?_
                    refine wp_cond_true (hA.eval (by kernel_rfl)) ?_
                    refine wp_skip ?_
                    refine thenN ?_
                    refine wp_seq ?_
                    refine wp_block ?_
                    refine wp_seq ?_
                    refine wp_region_lit ?_
                    refine st_rd (v := Value.agg #[Value.int .u64 m.clock, Value.int .u64 1, Value.int .u64 281474976710655]) hA (by kernel_rfl) (by kernel_rfl) (by kernel_rfl) hW.cls (Rd.pure fun _ => by kernel_rfl) ?_; clear hA ac; intro ac hA
                    refine st hA (by kernel_rfl) (by kernel_rfl) (by kernel_rfl) (Runs.cells (fun b => Value.pointer (some ⟨b, 0, none⟩)) #[Value.int .u64 0, Value.int .u64 0, Value.int .u64 0] 100 (fun _ => by kernel_rfl) hW ?_); clear hA ac hW; intro b20 w21 hW hb20 hfw21 ac hA
                    refine st hA (by kernel_rfl) (by kernel_rfl) (by kernel_rfl) (Runs.store (v := Value.agg #[Value.int .u64 m.clock, Value.int .u64 1, Value.int .u64 281474976710655]) (b := b20) (j := 0) (n := 3) (cs' := #[Value.int .u64 m.clock, Value.int .u64 1, Value.int .u64 281474976710655]) (H' := [Cel b20 #[Value.int .u64 m.clock, Value.int .u64 1, Value.int .u64 281474976710655] 100, Cel b15 #[Value.int .u64 (id + 18446744073709551616), Value.int .u64 0, Value.int .u64 65535] 100, Cel b1 #[Value.int .u64 m.clock, Value.int .i64 m.site.f, Value.int .i64 m.site.pc] 32]) (by kernel_rfl) (by kernel_rfl) (by kernel_rfl) (by kernel_rfl) (by kernel_rfl) hW 0 (by rfl) (Nat.le_of_ble_eq_true (by kernel_rfl)) (by kernel_rfl) (by rfl) ?_); clear hA ac hW; intro w22 hW ac hA
                    refine wpList_nil ?_
                    refine thenN ?_
                    refine wp_seq ?_
                    refine wp_region_lit ?_
                    refine st_rd (v := Value.pointer (some ⟨b20, 0, none⟩)) hA (by kernel_rfl) (by kernel_rfl) (by kernel_rfl) hW.cls (Rd.pure fun _ => by kernel_rfl) ?_; clear hA ac; intro ac hA
                    refine st_rd (v := Value.int .u64 m.clock) hA (by kernel_rfl) (by kernel_rfl) (by kernel_rfl) hW.cls (Rd.load (b := b20) (i := 0) (by kernel_rfl) (fun _ hw => (hw.1).cel 0 rfl) (by kernel_rfl)) ?_; clear hA ac; intro ac hA
                    refine st_rd (v := Value.pointer (some ⟨b20, 1, none⟩)) hA (by kernel_rfl) (by kernel_rfl) (by kernel_rfl) hW.cls (Rd.pure fun _ => by kernel_rfl) ?_; clear hA ac; intro ac hA
                    refine st_rd (v := Value.int .u64 1) hA (by kernel_rfl) (by kernel_rfl) (by kernel_rfl) hW.cls (Rd.load (b := b20) (i := 1) (by kernel_rfl) (fun _ hw => (hw.1).cel 0 rfl) (by kernel_rfl)) ?_; clear hA ac; intro ac hA
                    refine st_rd (v := Value.bool (decide ((m.clock : Int) < (1 : Int)))) hA (by kernel_rfl) (by kernel_rfl) (by kernel_rfl) hW.cls (Rd.pure fun _ => by kernel_rfl) ?_; clear hA ac; intro ac hA
                    refine st_rd (v := Value.bool (decide ((m.clock : Int) < (1 : Int)))) hA (by kernel_rfl) (by kernel_rfl) (by kernel_rfl) hW.cls (Rd.pure fun _ => by kernel_rfl) ?_; clear hA ac; intro ac hA
                    rcases Bool.eq_false_or_eq_true (decide ((m.clock : Int) < (1 : Int))) with h23 | h23
                    · skip
                      rw [h23] at hA
                      have h23 := of_decide_eq_true h23
                      first
                      | (exfalso; clear hA hW; omega)
                      | (
                          refine st_skip hA (by kernel_rfl) (by kernel_rfl) ?_; clear hA ac; intro ac hA
                          refine st_skip hA (by kernel_rfl) (by kernel_rfl) ?_; clear hA ac; intro ac hA
                          refine st_skip hA (by kernel_rfl) (by kernel_rfl) ?_; clear hA ac; intro ac hA
                          refine st_skip hA (by kernel_rfl) (by kernel_rfl) ?_; clear hA ac; intro ac hA
                          refine st_skip hA (by kernel_rfl) (by kernel_rfl) ?_; clear hA ac; intro ac hA
                          refine st_rd (v := Value.bool true) hA (by kernel_rfl) (by kernel_rfl) (by kernel_rfl) hW.cls (Rd.pure fun _ => by kernel_rfl) ?_; clear hA ac; intro ac hA
                          refine wpList_nil ?_
                          refine thenN ?_
                          refine wp_cond_true (hA.eval (by kernel_rfl)) ?_
                          refine wp_seq ?_
                          refine wp_region_lit ?_
                          refine st_rd (v := Value.bool false) hA (by kernel_rfl) (by kernel_rfl) (by kernel_rfl) hW.cls (Rd.pure fun _ => by kernel_rfl) ?_; clear hA ac; intro ac hA
                          refine wpList_nil ?_
                          refine thenN ?_
                          refine wp_ret ?_
                          refine blkR ?_
                          refine thenR ?_
                          refine thenR ?_
                          refine blkR ?_
                          refine thenR ?_
                          refine ret1 (v := Value.bool false) (by rfl) hA (Got.tmp hA (by kernel_rfl) (by kernel_rfl)) ?_
                          clear hA
                          refine ⟨retv (congrArg Value.bool ?_), hW.fr⟩; unfold fineM; first | (simp [*]; done) | (simp [*]; omega) | (simp; omega) | (simp only [argErr_zero]; simp; omega) | (simp [argErr_zero, *]; done) | (simp [argErr_zero, *]; omega) | (simp [*, argErr]; done) | (simp [*, argErr]; omega))
                    · skip
                      rw [h23] at hA
                      have h23 := of_decide_eq_false h23
                      first
                      | (exfalso; clear hA hW; omega)
                      | (
                          refine st_rd (v := Value.pointer (some ⟨b20, 0, none⟩)) hA (by kernel_rfl) (by kernel_rfl) (by kernel_rfl) hW.cls (Rd.pure fun _ => by kernel_rfl) ?_; clear hA ac; intro ac hA
                          refine st_rd (v := Value.int .u64 m.clock) hA (by kernel_rfl) (by kernel_rfl) (by kernel_rfl) hW.cls (Rd.load (b := b20) (i := 0) (by kernel_rfl) (fun _ hw => (hw.1).cel 0 rfl) (by kernel_rfl)) ?_; clear hA ac; intro ac hA
                          refine st_rd (v := Value.pointer (some ⟨b20, 2, none⟩)) hA (by kernel_rfl) (by kernel_rfl) (by kernel_rfl) hW.cls (Rd.pure fun _ => by kernel_rfl) ?_; clear hA ac; intro ac hA
                          refine st_rd (v := Value.int .u64 281474976710655) hA (by kernel_rfl) (by kernel_rfl) (by kernel_rfl) hW.cls (Rd.load (b := b20) (i := 2) (by kernel_rfl) (fun _ hw => (hw.1).cel 0 rfl) (by kernel_rfl)) ?_; clear hA ac; intro ac hA
                          refine st_rd (v := Value.bool (decide ((m.clock : Int) > (281474976710655 : Int)))) hA (by kernel_rfl) (by kernel_rfl) (by kernel_rfl) hW.cls (Rd.pure fun _ => by kernel_rfl) ?_; clear hA ac; intro ac hA
                          refine st_rd (v := Value.bool (decide ((m.clock : Int) > (281474976710655 : Int)))) hA (by kernel_rfl) (by kernel_rfl) (by kernel_rfl) hW.cls (Rd.pure fun _ => by kernel_rfl) ?_; clear hA ac; intro ac hA
                          refine wpList_nil ?_
                          refine thenN ?_
                          refine wp_cond_split (t := decide ((m.clock : Int) > (281474976710655 : Int))) (hA.eval (by kernel_rfl)) (fun h24 => ?_) (fun h24 => ?_)
                          · skip
                            have h24 := of_decide_eq_true h24
                            first
                            | (exfalso; clear hA hW; omega)
                            | (
                                refine wp_seq ?_
                                refine wp_region_lit ?_
                                refine st_rd (v := Value.bool false) hA (by kernel_rfl) (by kernel_rfl) (by kernel_rfl) hW.cls (Rd.pure fun _ => by kernel_rfl) ?_; clear hA ac; intro ac hA
                                refine wpList_nil ?_
                                refine thenN ?_
                                refine wp_ret ?_
                                refine blkR ?_
                                refine thenR ?_
                                refine thenR ?_
                                refine blkR ?_
                                refine thenR ?_
                                refine ret1 (v := Value.bool false) (by rfl) hA (Got.tmp hA (by kernel_rfl) (by kernel_rfl)) ?_
                                clear hA
                                refine ⟨retv (congrArg Value.bool ?_), hW.fr⟩; unfold fineM; first | (simp [*]; done) | (simp [*]; omega) | (simp; omega) | (simp only [argErr_zero]; simp; omega) | (simp [argErr_zero, *]; done) | (simp [argErr_zero, *]; omega) | (simp [*, argErr]; done) | (simp [*, argErr]; omega))
                          · skip
                            have h24 := of_decide_eq_false h24
                            first
                            | (exfalso; clear hA hW; omega)
                            | (
                                refine wp_skip ?_
                                refine blkN ?_
                                refine thenN ?_
                                refine wp_region_lit ?_
                                refine st_rd (v := Value.int .i64 2) hA (by kernel_rfl) (by kernel_rfl) (by kernel_rfl) hW.cls (Rd.pureE (v0 := Value.int .i64 (IntKind.i64.wrap ((1 : Int) + 1))) (fun _ => by kernel_rfl) (congrArg (Value.int .i64) ((w_i64 (x := (1 : Int) + 1) (by omega) (by omega)).trans (by omega)))) ?_; clear hA ac; intro ac hA
                                refine st_rd (v := Value.int .i64 2) hA (by kernel_rfl) (by kernel_rfl) (by kernel_rfl) hW.cls (Rd.pure fun _ => by kernel_rfl) ?_; clear hA ac; intro ac hA
                                refine wpList_nil ?_
                                refine thenN ?_
                                rw [rounds_succ]
                                refine wp_seq ?_
                                refine wp_region_lit ?_
                                refine st_rd (v := Value.bool false) hA (by kernel_rfl) (by kernel_rfl) (by kernel_rfl) hW.cls (Rd.pure fun _ => by kernel_rfl) ?_; clear hA ac; intro ac hA
                                refine wpList_nil ?_
                                refine thenN ?_
                                refine wp_seq ?_
                                refine wp_cond_false (hA.eval (by kernel_rfl)) ?_
                                refine wp_exit ?_
                                refine thenX ?_
                                refine thenX ?_
                                refine blkX ?_
                                refine thenN ?_
                                refine wp_seq ?_
                                refine wp_region_lit ?_
                                refine st_rd (v := Value.pointer (some ⟨b1, 1, none⟩)) hA (by kernel_rfl) (by kernel_rfl) (by kernel_rfl) hW.cls (Rd.pure fun _ => by kernel_rfl) ?_; clear hA ac; intro ac hA
                                refine st_rd (v := Value.agg #[Value.int .i64 m.site.f, Value.int .i64 m.site.pc]) hA (by kernel_rfl) (by kernel_rfl) (by kernel_rfl) hW.cls (Rd.load (b := b1) (i := 1) (by kernel_rfl) (fun _ hw => (hw.1).cel 2 rfl) (by kernel_rfl)) ?_; clear hA ac; intro ac hA
                                refine st hA (by kernel_rfl) (by kernel_rfl) (by kernel_rfl) (Runs.callN (v := Value.int .i64 (argErr (Site.ok m.site))) (fun _ => by kernel_rfl) hW (check_any m.site w22) ?_); clear hA ac hW; intro w25 hW hfw25 ac hA
                                refine st_rd (v := Value.bool ((argErr (Site.ok m.site) : Int) == (0 : Int))) hA (by kernel_rfl) (by kernel_rfl) (by kernel_rfl) hW.cls (Rd.pure fun _ => by kernel_rfl) ?_; clear hA ac; intro ac hA
                                refine st_rd (v := Value.bool ((argErr (Site.ok m.site) : Int) == (0 : Int))) hA (by kernel_rfl) (by kernel_rfl) (by kernel_rfl) hW.cls (Rd.pure fun _ => by kernel_rfl) ?_; clear hA ac; intro ac hA
                                refine wpList_nil ?_
                                refine thenN ?_
                                refine wp_ret ?_
                                refine ret1 (v := Value.bool ((argErr (Site.ok m.site) : Int) == (0 : Int))) (by rfl) hA (Got.tmp hA (by kernel_rfl) (by kernel_rfl)) ?_
                                clear hA
                                refine ⟨retv (congrArg Value.bool ?_), hW.fr⟩; unfold fineM; first | (simp [*]; done) | (simp [*]; omega) | (simp; omega) | (simp only [argErr_zero]; simp; omega) | (simp [argErr_zero, *]; done) | (simp [argErr_zero, *]; omega) | (simp [*, argErr]; done) | (simp [*, argErr]; omega))))))

end Go.Proofs.Ytobbocpacacnhaa.L
