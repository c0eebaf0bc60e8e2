/- Contracts, walked by program over the engine's laws. -/
import Derived.Test.YtgeikokmhkfkgaaProg
import Derived.Test.YtgeikokmhkfkgaaMutObj
namespace Go.Proofs.Ytgeikokmhkfkgaa.L
open Go.RowKit

structure Bound where
  n : Int
  most : Int
deriving DecidableEq
def Bound.v (x : Bound) : Value := .agg #[.int .i64 x.n, .int .i64 x.most]
def enBound (x : Bound) : List Value := [.int .i64 x.n, .int .i64 x.most]
def Bound.ok (b : Bound) : Bool := decide (0 ≤ b.n) && decide (b.n ≤ b.most)
/-- A Lock, an Unlock: who holds which then; the error. -/
def mLock (h : List (Int × Int)) (many i by_ : Int) : List (Int × Int) × Int :=
  if by_ < 0 ∨ 65535 < by_ then (h, 2) else if i < 0 ∨ many ≤ i then (h, 4) else if (look h i).isSome = true then (h, 230) else (put h i by_, 0)
def mUnlock (h : List (Int × Int)) (many i : Int) : List (Int × Int) × Int × Int :=
  if i < 0 ∨ many ≤ i then (h, 0, 4) else if (look h i).isSome = true then (del h i, (look h i).getD 0, 0) else (h, 0, 231)
theorem elt_Bound : Elt Try.prog 62 2 enBound := ⟨⟨Value.agg #[Value.int .i64 0, Value.int .i64 0], 16, by kernel_rfl, rfl, by decide⟩, by decide, fun _ => rfl, fun x u hu => List.all_eq_true.1 (show (enBound x).all (·.oneCell') = true from rfl) u hu⟩
set_option maxRecDepth 100000 in
theorem e_fine (A_l : Option Addr) (c_l : Nat) (l : List Bound) (w : World) (hr_l : RowAt w A_l 2 enBound l) (hc_l : l.length ≤ c_l) (hl : l.length ≤ 1000) : Calls Try.prog 21 #[Value.slice A_l l.length c_l] w (fun e w' => e = .returned (Value.bool (List.all l Bound.ok)) ∧ Fr No w w') := by
  have _hu := hc_l; have _hv := hr_l; clear _hu _hv
  have _hu := hl; clear _hu
  refine enter_E 22 Try.func21 rfl rfl (by kernel_rfl) (L := [(0, Value.slice A_l l.length c_l)]) (by kernel_rfl) ?_
  intro ac hA
  have hW := Ws.start w No
  have hW := hW.arg hr_l
  refine wp_seq ?_
  refine wp_region_lit ?_
  refine st_rd (v := Value.bool false) hA (by kernel_rfl) (by kernel_rfl) (by kernel_rfl) hW.cls (Rd.pure fun _ => by kernel_rfl) ?_; clear hA ac; intro ac hA
  refine wpList_nil ?_
  refine thenN ?_
  refine wp_seq ?_
  refine wp_seq ?_
  refine wp_region_lit ?_
  refine st_rd (v := Value.slice A_l l.length c_l) hA (by kernel_rfl) (by kernel_rfl) (by kernel_rfl) hW.cls (Rd.pure fun _ => by kernel_rfl) ?_; clear hA ac; intro ac hA
  refine st_rd (v := Value.int .i64 ((l.length : Nat) : Int)) hA (by kernel_rfl) (by kernel_rfl) (by kernel_rfl) hW.cls (Rd.pure fun _ => by kernel_rfl) ?_; clear hA ac; intro ac hA
  refine st_rd (v := Value.int .i64 0) hA (by kernel_rfl) (by kernel_rfl) (by kernel_rfl) hW.cls (Rd.pure fun _ => by kernel_rfl) ?_; clear hA ac; intro ac hA
  refine wpList_nil ?_
  refine thenN ?_
  refine wp_block ?_
  refine wp_loop_m (fun m_ ac_ wl_ => ∃ k : Nat, m_ = l.length - k ∧ (k ≤ l.length) ∧ (∀ x ∈ l.take k, Bound.ok x = true) ∧ Fm 22 [] [(5, Value.slice A_l l.length c_l), (6, Value.int .i64 ((l.length : Nat) : Int)), (7, Value.int .i64 ((k : Nat) : Int))] ac_ ∧ Ws w No [] [roR A_l 2 enBound l] wl_) _ ⟨0, rfl, by omega, by intro x hx; simp at hx, hA.sub ⟨⟨by kernel_rfl, by kernel_rfl⟩, ⟨by kernel_rfl, by kernel_rfl⟩, ⟨by kernel_rfl, by kernel_rfl⟩, trivial⟩, (hW.pick [] (by decide) rfl).pickG [0] rfl⟩ ?_
  clear hA ac hW; rintro m_ ac w1 ⟨k, rfl, hk, hn, hA, hW⟩
  refine wp_seq ?_
  refine wp_region_lit ?_
  refine st_rd (v := Value.bool (decide ((((k : Nat) : Int) : Int) < (((l.length : Nat) : Int) : Int)))) hA (by kernel_rfl) (by kernel_rfl) (by kernel_rfl) hW.cls (Rd.pure fun _ => by kernel_rfl) ?_; clear hA ac; intro ac hA
  refine wpList_nil ?_
  refine thenN ?_
  refine wp_seq ?_
  refine wp_cond_split (t := decide ((((k : Nat) : Int) : Int) < (((l.length : Nat) : Int) : Int))) (hA.eval (by kernel_rfl)) (fun h2 => ?_) (fun h2 => ?_)
  · skip
    have h2 := of_decide_eq_true h2
    first
    | (exfalso; clear hA hW; omega)
    | (
        refine wp_skip ?_
        refine thenN ?_
        refine wp_seq ?_
        refine wp_block ?_
        refine wp_seq ?_
        refine wp_region_lit ?_
        obtain ⟨y3, hy3⟩ : ∃ y, l[k]? = some y := ⟨_, List.getElem?_eq_getElem (by first | omega | (simp; done) | (simp; omega))⟩
        obtain ⟨b4, o5, rfl, hbb4⟩ := row_some ((hW).getG 0 rfl) hy3
        refine st_rd (v := Value.pointer (some ⟨b4, o5 + k * 2, none⟩)) hA (by kernel_rfl) (by kernel_rfl) (by kernel_rfl) hW.cls (Rd.indexAddr (e := 62) (sz := 2) (b := b4) (off := o5) (n := l.length) (c := c_l) (k := k) (by kernel_rfl) (by kernel_rfl) (by first | omega | (simp; done) | (simp; omega)) (fun _ => by kernel_rfl) (fun _ => by kernel_rfl)) ?_; clear hA ac; intro ac hA
        refine st_rd (v := Value.agg #[Value.int .i64 y3.n, Value.int .i64 y3.most]) hA (by kernel_rfl) (by kernel_rfl) (by kernel_rfl) hW.cls (Rd.loadRow (b := b4) (i := o5 + k * 2) (xs := [Value.int .i64 y3.n, Value.int .i64 y3.most]) (by kernel_rfl) (fun _ hw => row_ld ((hw.1).getG 0 rfl) hy3 (Fr.refl No _) (fun h => h) 0 2 (by kernel_rfl)) (by kernel_rfl)) ?_; clear hA ac; intro ac hA
        refine st hA (by kernel_rfl) (by kernel_rfl) (by kernel_rfl) (Runs.cells (fun b => Value.pointer (some ⟨b, 0, none⟩)) #[Value.int .i64 0, Value.int .i64 0] 62 (fun _ => by kernel_rfl) hW ?_); clear hA ac hW; intro b6 w7 hW hb6 hfw7 ac hA
        refine st hA (by kernel_rfl) (by kernel_rfl) (by kernel_rfl) (Runs.store (v := Value.agg #[Value.int .i64 y3.n, Value.int .i64 y3.most]) (b := b6) (j := 0) (n := 2) (cs' := #[Value.int .i64 y3.n, Value.int .i64 y3.most]) (H' := [Cel b6 #[Value.int .i64 y3.n, Value.int .i64 y3.most] 62]) (by kernel_rfl) (by kernel_rfl) (by kernel_rfl) (by kernel_rfl) (by kernel_rfl) hW 0 (by rfl) (Nat.le_of_ble_eq_true (by kernel_rfl)) (by kernel_rfl) (by rfl) ?_); clear hA ac hW; intro w8 hW ac hA
        refine wpList_nil ?_
        refine thenN ?_
        refine wp_seq ?_
        refine wp_region_lit ?_
        refine st_rd (v := Value.pointer (some ⟨b6, 0, none⟩)) hA (by kernel_rfl) (by kernel_rfl) (by kernel_rfl) hW.cls (Rd.pure fun _ => by kernel_rfl) ?_; clear hA ac; intro ac hA
        refine st_rd (v := Value.int .i64 y3.n) hA (by kernel_rfl) (by kernel_rfl) (by kernel_rfl) hW.cls (Rd.load (b := b6) (i := 0) (by kernel_rfl) (fun _ hw => (hw.1).cel 0 rfl) (by kernel_rfl)) ?_; clear hA ac; intro ac hA
        refine st_rd (v := Value.bool (decide ((y3.n : Int) < (0 : Int)))) hA (by kernel_rfl) (by kernel_rfl) (by kernel_rfl) hW.cls (Rd.pure fun _ => by kernel_rfl) ?_; clear hA ac; intro ac hA
        refine st_rd (v := Value.bool (decide ((y3.n : Int) < (0 : Int)))) hA (by kernel_rfl) (by kernel_rfl) (by kernel_rfl) hW.cls (Rd.pure fun _ => by kernel_rfl) ?_; clear hA ac; intro ac hA
        rcases Bool.eq_false_or_eq_true (decide ((y3.n : Int) < (0 : Int))) with h9 | h9
        · skip
          rw [h9] at hA
          have h9 := of_decide_eq_true h9
          first
          | (exfalso; clear hA hW; omega)
          | (
              refine st_skip hA (by kernel_rfl) (by kernel_rfl) ?_; clear hA ac; intro ac hA
              refine st_skip hA (by kernel_rfl) (by kernel_rfl) ?_; clear hA ac; intro ac hA
              refine st_skip hA (by kernel_rfl) (by kernel_rfl) ?_; clear hA ac; intro ac hA
              refine st_skip hA (by kernel_rfl) (by kernel_rfl) ?_; clear hA ac; intro ac hA
              refine st_skip hA (by kernel_rfl) (by kernel_rfl) ?_; clear hA ac; intro ac hA
              refine st_rd (v := Value.bool true) hA (by kernel_rfl) (by kernel_rfl) (by kernel_rfl) hW.cls (Rd.pure fun _ => by kernel_rfl) ?_; clear hA ac; intro ac hA
              refine wpList_nil ?_
              refine thenN ?_
              refine wp_cond_true (hA.eval (by kernel_rfl)) ?_
              refine wp_seq ?_
              refine wp_region_lit ?_
              refine st_rd (v := Value.bool false) hA (by kernel_rfl) (by kernel_rfl) (by kernel_rfl) hW.cls (Rd.pure fun _ => by kernel_rfl) ?_; clear hA ac; intro ac hA
              refine wpList_nil ?_
              refine thenN ?_
              refine wp_ret ?_
              refine blkR ?_
              refine thenR ?_
              refine thenR ?_
              refine blkR ?_
              refine thenR ?_
              refine ret1 (v := Value.bool false) (by rfl) hA (Got.tmp hA (by kernel_rfl) (by kernel_rfl)) ?_
              clear hA
              refine ⟨retv (congrArg Value.bool ?_), hW.fr⟩; rw [eq_comm, List.all_eq_false]; exact ⟨_, List.mem_of_getElem? hy3, by simp only [Bound.ok, Bool.and_eq_true, decide_eq_true_eq]; omega⟩)
        · skip
          rw [h9] at hA
          have h9 := of_decide_eq_false h9
          first
          | (exfalso; clear hA hW; omega)
          | (
              refine st_rd (v := Value.pointer (some ⟨b6, 0, none⟩)) hA (by kernel_rfl) (by kernel_rfl) (by kernel_rfl) hW.cls (Rd.pure fun _ => by kernel_rfl) ?_; clear hA ac; intro ac hA
              refine st_rd (v := Value.int .i64 y3.n) hA (by kernel_rfl) (by kernel_rfl) (by kernel_rfl) hW.cls (Rd.load (b := b6) (i := 0) (by kernel_rfl) (fun _ hw => (hw.1).cel 0 rfl) (by kernel_rfl)) ?_; clear hA ac; intro ac hA
              refine st_rd (v := Value.pointer (some ⟨b6, 1, none⟩)) hA (by kernel_rfl) (by kernel_rfl) (by kernel_rfl) hW.cls (Rd.pure fun _ => by kernel_rfl) ?_; clear hA ac; intro ac hA
              refine st_rd (v := Value.int .i64 y3.most) hA (by kernel_rfl) (by kernel_rfl) (by kernel_rfl) hW.cls (Rd.load (b := b6) (i := 1) (by kernel_rfl) (fun _ hw => (hw.1).cel 0 rfl) (by kernel_rfl)) ?_; clear hA ac; intro ac hA
              refine st_rd (v := Value.bool (decide ((y3.n : Int) > (y3.most : Int)))) hA (by kernel_rfl) (by kernel_rfl) (by kernel_rfl) hW.cls (Rd.pure fun _ => by kernel_rfl) ?_; clear hA ac; intro ac hA
              refine st_rd (v := Value.bool (decide ((y3.n : Int) > (y3.most : Int)))) hA (by kernel_rfl) (by kernel_rfl) (by kernel_rfl) hW.cls (Rd.pure fun _ => by kernel_rfl) ?_; clear hA ac; intro ac hA
              refine wpList_nil ?_
              refine thenN ?_
              refine wp_cond_split (t := decide ((y3.n : Int) > (y3.most : Int))) (hA.eval (by kernel_rfl)) (fun h10 => ?_) (fun h10 => ?_)
              · skip
                have h10 := of_decide_eq_true h10
                first
                | (exfalso; clear hA hW; omega)
                | (
                    refine wp_seq ?_
                    refine wp_region_lit ?_
                    refine st_rd (v := Value.bool false) hA (by kernel_rfl) (by kernel_rfl) (by kernel_rfl) hW.cls (Rd.pure fun _ => by kernel_rfl) ?_; clear hA ac; intro ac hA
                    refine wpList_nil ?_
                    refine thenN ?_
                    refine wp_ret ?_
                    refine blkR ?_
                    refine thenR ?_
                    refine thenR ?_
                    refine blkR ?_
                    refine thenR ?_
                    refine ret1 (v := Value.bool false) (by rfl) hA (Got.tmp hA (by kernel_rfl) (by kernel_rfl)) ?_
                    clear hA
                    refine ⟨retv (congrArg Value.bool ?_), hW.fr⟩; rw [eq_comm, List.all_eq_false]; exact ⟨_, List.mem_of_getElem? hy3, by simp only [Bound.ok, Bool.and_eq_true, decide_eq_true_eq]; omega⟩)
              · skip
                have h10 := of_decide_eq_false h10
                first
                | (exfalso; clear hA hW; omega)
                | (
                    refine wp_skip ?_
                    refine blkN ?_
                    refine thenN ?_
                    refine wp_region_lit ?_
                    refine st_rd (v := Value.int .i64 ((k + 1 : Nat) : Int)) hA (by kernel_rfl) (by kernel_rfl) (by kernel_rfl) hW.cls (Rd.pureE (v0 := Value.int .i64 (IntKind.i64.wrap ((((k : Nat) : Int) : Int) + 1))) (fun _ => by kernel_rfl) (congrArg (Value.int .i64) ((w_i64 (x := (((k : Nat) : Int) : Int) + 1) (by omega) (by omega)).trans (by omega)))) ?_; clear hA ac; intro ac hA
                    refine st_rd (v := Value.int .i64 ((k + 1 : Nat) : Int)) hA (by kernel_rfl) (by kernel_rfl) (by kernel_rfl) hW.cls (Rd.pure fun _ => by kernel_rfl) ?_; clear hA ac; intro ac hA
                    refine wpList_nil ?_
                    refine thenN ?_
                    exact ⟨l.length - (k + 1), by omega, k + 1, rfl, by omega, by intro x hx; rw [tk_snoc hy3] at hx; rcases List.mem_append.1 hx with h_ | h_; exact hn x h_; simp only [List.mem_singleton] at h_; subst h_; simp only [Bound.ok, Bool.and_eq_true, decide_eq_true_eq]; omega, hA.sub ⟨⟨by kernel_rfl, by kernel_rfl⟩, ⟨by kernel_rfl, by kernel_rfl⟩, ⟨by kernel_rfl, by kernel_rfl⟩, trivial⟩, (hW.pick [] (by decide) rfl).pickG [0] rfl⟩)))
  · skip
    have h2 := of_decide_eq_false h2
    first
    | (exfalso; clear hA hW; omega)
    | (
        refine wp_exit ?_
        refine thenX ?_
        refine thenX ?_
        refine blkX ?_
        refine thenN ?_
        refine wp_seq ?_
        refine wp_region_lit ?_
        refine st_rd (v := Value.bool true) hA (by kernel_rfl) (by kernel_rfl) (by kernel_rfl) hW.cls (Rd.pure fun _ => by kernel_rfl) ?_; clear hA ac; intro ac hA
        refine wpList_nil ?_
        refine thenN ?_
        refine wp_ret ?_
        refine ret1 (v := Value.bool true) (by rfl) hA (Got.tmp hA (by kernel_rfl) (by kernel_rfl)) ?_
        clear hA
        refine ⟨retv (congrArg Value.bool (List.all_eq_true.2 ?_).symm), hW.fr⟩; rw [List.take_of_length_le (by omega)] at hn; exact hn)

set_option maxRecDepth 100000 in
theorem e_none (m : Nat) (b : Nat) (many : Int) (w : World) (ho_m : w.heap[m]? = some (.cells #[Value.map (some b), Value.int .i64 many] 54 (0, 0))) : Calls Try.prog 22 #[Value.pointer (some ⟨m, 0, none⟩)] w (fun e w' => e = .returned (Value.bool false) ∧ w = w') := by
  have _hu := ho_m; clear _hu
  refine enter_E 12 Try.func22 rfl rfl (by kernel_rfl) (L := [(0, Value.pointer (some ⟨m, 0, none⟩))]) (by kernel_rfl) ?_
  intro ac hA
  have hW := Ws.start w No
  have hW := hW.celG ho_m
  refine wp_seq ?_
  refine wp_region_lit ?_
  refine st_rd (v := Value.bool false) hA (by kernel_rfl) (by kernel_rfl) (by kernel_rfl) hW.cls (Rd.pure fun _ => by kernel_rfl) ?_; clear hA ac; intro ac hA
  refine wpList_nil ?_
  refine thenN ?_
  refine wp_seq ?_
  refine wp_region_lit ?_
  refine st_rd (v := Value.pointer (some ⟨m, 0, none⟩)) hA (by kernel_rfl) (by kernel_rfl) (by kernel_rfl) hW.cls (Rd.pure fun _ => by kernel_rfl) ?_; clear hA ac; intro ac hA
  refine st_rd (v := Value.bool false) hA (by kernel_rfl) (by kernel_rfl) (by kernel_rfl) hW.cls (Rd.pure fun _ => by kernel_rfl) ?_; clear hA ac; intro ac hA
  refine st_rd (v := Value.bool false) hA (by kernel_rfl) (by kernel_rfl) (by kernel_rfl) hW.cls (Rd.pure fun _ => by kernel_rfl) ?_; clear hA ac; intro ac hA
  refine st_rd (v := Value.pointer (some ⟨m, 0, none⟩)) hA (by kernel_rfl) (by kernel_rfl) (by kernel_rfl) hW.cls (Rd.pure fun _ => by kernel_rfl) ?_; clear hA ac; intro ac hA
  refine st_rd (v := Value.pointer (some ⟨m, 0, none⟩)) hA (by kernel_rfl) (by kernel_rfl) (by kernel_rfl) hW.cls (Rd.pure fun _ => by kernel_rfl) ?_; clear hA ac; intro ac hA
  refine st_rd (v := Value.pointer (some ⟨m, 0, none⟩)) hA (by kernel_rfl) (by kernel_rfl) (by kernel_rfl) hW.cls (Rd.pure fun _ => by kernel_rfl) ?_; clear hA ac; intro ac hA
  refine st_rd (v := Value.map (some b)) hA (by kernel_rfl) (by kernel_rfl) (by kernel_rfl) hW.cls (Rd.load (b := m) (i := 0) (by kernel_rfl) (fun _ hw => show _ = _ from (hw.1).getG 0 rfl) (by kernel_rfl)) ?_; clear hA ac; intro ac hA
  refine st_rd (v := Value.bool false) hA (by kernel_rfl) (by kernel_rfl) (by kernel_rfl) hW.cls (Rd.pure fun _ => by kernel_rfl) ?_; clear hA ac; intro ac hA
  refine st_rd (v := Value.bool false) hA (by kernel_rfl) (by kernel_rfl) (by kernel_rfl) hW.cls (Rd.pure fun _ => by kernel_rfl) ?_; clear hA ac; intro ac hA
  refine st_rd (v := Value.bool false) hA (by kernel_rfl) (by kernel_rfl) (by kernel_rfl) hW.cls (Rd.pure fun _ => by kernel_rfl) ?_; clear hA ac; intro ac hA
  refine wpList_nil ?_
  refine thenN ?_
  refine wp_ret ?_
  refine ret1 (v := Value.bool false) (by rfl) hA (Got.tmp hA (by kernel_rfl) (by kernel_rfl)) ?_
  clear hA
  exact ⟨retv (by rfl), rfl⟩

set_option maxRecDepth 100000 in
theorem e_there (m : Nat) (b : Nat) (many : Int) (i : Int) (w : World) (ho_m : w.heap[m]? = some (.cells #[Value.map (some b), Value.int .i64 many] 54 (0, 0))) : Calls Try.prog 23 #[Value.pointer (some ⟨m, 0, none⟩), Value.int .i64 i] w (fun e w' => e = .returned (Value.bool (decide (0 ≤ i) && decide (i < many))) ∧ Fr No w w') := by
  have _hu := ho_m; clear _hu
  refine enter_E 15 Try.func23 rfl rfl (by kernel_rfl) (L := [(0, Value.pointer (some ⟨m, 0, none⟩)), (1, Value.int .i64 i)]) (by kernel_rfl) ?_
  intro ac hA
  have hW := Ws.start w No
  have hW := hW.celG ho_m
  refine wp_seq ?_
  refine wp_region_lit ?_
  refine st_rd (v := Value.bool false) hA (by kernel_rfl) (by kernel_rfl) (by kernel_rfl) hW.cls (Rd.pure fun _ => by kernel_rfl) ?_; clear hA ac; intro ac hA
  refine wpList_nil ?_
  refine thenN ?_
  refine wp_seq ?_
  refine wp_region_lit ?_
  refine st_rd (v := Value.int .i64 i) hA (by kernel_rfl) (by kernel_rfl) (by kernel_rfl) hW.cls (Rd.pure fun _ => by kernel_rfl) ?_; clear hA ac; intro ac hA
  refine st_rd (v := Value.bool (decide ((i : Int) ≥ (0 : Int)))) hA (by kernel_rfl) (by kernel_rfl) (by kernel_rfl) hW.cls (Rd.pure fun _ => by kernel_rfl) ?_; clear hA ac; intro ac hA
  refine st_rd (v := Value.bool (decide ((i : Int) ≥ (0 : Int)))) hA (by kernel_rfl) (by kernel_rfl) (by kernel_rfl) hW.cls (Rd.pure fun _ => by kernel_rfl) ?_; clear hA ac; intro ac hA
  rcases Bool.eq_false_or_eq_true (decide ((i : Int) ≥ (0 : Int))) with h1 | h1
  · skip
    rw [h1] at hA
    have h1 := of_decide_eq_true h1
    first
    | (exfalso; clear hA hW; omega)
    | (
        refine st_rd (v := Value.int .i64 i) hA (by kernel_rfl) (by kernel_rfl) (by kernel_rfl) hW.cls (Rd.pure fun _ => by kernel_rfl) ?_; clear hA ac; intro ac hA
        refine st_rd (v := Value.pointer (some ⟨m, 0, none⟩)) hA (by kernel_rfl) (by kernel_rfl) (by kernel_rfl) hW.cls (Rd.pure fun _ => by kernel_rfl) ?_; clear hA ac; intro ac hA
        refine st_rd (v := Value.pointer (some ⟨m, 0, none⟩)) hA (by kernel_rfl) (by kernel_rfl) (by kernel_rfl) hW.cls (Rd.pure fun _ => by kernel_rfl) ?_; clear hA ac; intro ac hA
        refine st_rd (v := Value.pointer (some ⟨m, 1, none⟩)) hA (by kernel_rfl) (by kernel_rfl) (by kernel_rfl) hW.cls (Rd.pure fun _ => by kernel_rfl) ?_; clear hA ac; intro ac hA
        refine st_rd (v := Value.int .i64 many) hA (by kernel_rfl) (by kernel_rfl) (by kernel_rfl) hW.cls (Rd.load (b := m) (i := 1) (by kernel_rfl) (fun _ hw => show _ = _ from (hw.1).getG 0 rfl) (by kernel_rfl)) ?_; clear hA ac; intro ac hA
        refine st_rd (v := Value.bool (decide ((i : Int) < (many : Int)))) hA (by kernel_rfl) (by kernel_rfl) (by kernel_rfl) hW.cls (Rd.pure fun _ => by kernel_rfl) ?_; clear hA ac; intro ac hA
        refine st_rd (v := Value.bool (decide ((i : Int) < (many : Int)))) hA (by kernel_rfl) (by kernel_rfl) (by kernel_rfl) hW.cls (Rd.pure fun _ => by kernel_rfl) ?_; clear hA ac; intro ac hA
        refine st_rd (v := Value.bool (decide ((i : Int) < (many : Int)))) hA (by kernel_rfl) (by kernel_rfl) (by kernel_rfl) hW.cls (Rd.pure fun _ => by kernel_rfl) ?_; clear hA ac; intro ac hA
        refine wpList_nil ?_
        refine thenN ?_
        refine wp_ret ?_
        refine ret1 (v := Value.bool (decide ((i : Int) < (many : Int)))) (by rfl) hA (Got.tmp hA (by kernel_rfl) (by kernel_rfl)) ?_
        clear hA
        exact ⟨retv (by first | (simp [decide_eq_true_eq]; done) | (simp [decide_eq_true_eq]; omega) | (simp [decide_eq_true_eq, *]; done) | (simp [decide_eq_true_eq, *]; omega) | (simp_all [decide_eq_true_eq]; done) | (simp_all [decide_eq_true_eq]; omega) | (refine congrArg Value.bool (Bool.eq_iff_iff.2 ?_); simp [decide_eq_true_eq]; (try simp only [*]); (try simp); omega) | (simp [decide_eq_true_eq]; repeat' split; all_goals omega)), hW.fr⟩)
  · skip
    rw [h1] at hA
    have h1 := of_decide_eq_false h1
    first
    | (exfalso; clear hA hW; omega)
    | (
        refine st_skip hA (by kernel_rfl) (by kernel_rfl) ?_; clear hA ac; intro ac hA
        refine st_skip hA (by kernel_rfl) (by kernel_rfl) ?_; clear hA ac; intro ac hA
        refine st_skip hA (by kernel_rfl) (by kernel_rfl) ?_; clear hA ac; intro ac hA
        refine st_skip hA (by kernel_rfl) (by kernel_rfl) ?_; clear hA ac; intro ac hA
        refine st_skip hA (by kernel_rfl) (by kernel_rfl) ?_; clear hA ac; intro ac hA
        refine st_skip hA (by kernel_rfl) (by kernel_rfl) ?_; clear hA ac; intro ac hA
        refine st_rd (v := Value.bool false) hA (by kernel_rfl) (by kernel_rfl) (by kernel_rfl) hW.cls (Rd.pure fun _ => by kernel_rfl) ?_; clear hA ac; intro ac hA
        refine st_rd (v := Value.bool false) hA (by kernel_rfl) (by kernel_rfl) (by kernel_rfl) hW.cls (Rd.pure fun _ => by kernel_rfl) ?_; clear hA ac; intro ac hA
        refine wpList_nil ?_
        refine thenN ?_
        refine wp_ret ?_
        refine ret1 (v := Value.bool false) (by rfl) hA (Got.tmp hA (by kernel_rfl) (by kernel_rfl)) ?_
        clear hA
        exact ⟨retv (by first | (simp [decide_eq_true_eq]; done) | (simp [decide_eq_true_eq]; omega) | (simp [decide_eq_true_eq, *]; done) | (simp [decide_eq_true_eq, *]; omega) | (simp_all [decide_eq_true_eq]; done) | (simp_all [decide_eq_true_eq]; omega) | (refine congrArg Value.bool (Bool.eq_iff_iff.2 ?_); simp [decide_eq_true_eq]; (try simp only [*]); (try simp); omega) | (simp [decide_eq_true_eq]; repeat' split; all_goals omega)), hW.fr⟩)

set_option maxRecDepth 100000 in
theorem e_of (b : Nat) (h : List (Int × Int)) (i : Int) (w : World) (ho_x : (mapR b (fun a : Int => Value.int .i64 a) (fun a : Int => Value.int .i64 a) h).p w) : Calls Try.prog 24 #[Value.map (some b), Value.int .i64 i] w (fun e w' => e = .returned (Value.tuple #[Value.int .i64 ((look h i).getD 0), Value.bool (look h i).isSome]) ∧ Fr No w w') := by
  have _hu := ho_x; clear _hu
  refine enter_E 16 Try.func24 rfl rfl (by kernel_rfl) (L := [(0, Value.map (some b)), (1, Value.int .i64 i)]) (by kernel_rfl) ?_
  intro ac hA
  have hW := Ws.start w No
  have hW := hW.mapG ho_x
  refine wp_seq ?_
  refine wp_region_lit ?_
  refine st_rd (v := Value.int .i64 0) hA (by kernel_rfl) (by kernel_rfl) (by kernel_rfl) hW.cls (Rd.pure fun _ => by kernel_rfl) ?_; clear hA ac; intro ac hA
  refine st_rd (v := Value.bool false) hA (by kernel_rfl) (by kernel_rfl) (by kernel_rfl) hW.cls (Rd.pure fun _ => by kernel_rfl) ?_; clear hA ac; intro ac hA
  refine wpList_nil ?_
  refine thenN ?_
  refine wp_seq ?_
  refine wp_region_lit ?_
  refine st_rd (v := Value.map (some b)) hA (by kernel_rfl) (by kernel_rfl) (by kernel_rfl) hW.cls (Rd.pure fun _ => by kernel_rfl) ?_; clear hA ac; intro ac hA
  refine st_rd (v := Value.int .i64 i) hA (by kernel_rfl) (by kernel_rfl) (by kernel_rfl) hW.cls (Rd.pure fun _ => by kernel_rfl) ?_; clear hA ac; intro ac hA
  refine st_rd (v := Value.tuple #[Value.int .i64 ((look h (i : Int)).getD 0), Value.bool (look h (i : Int)).isSome]) hA (by kernel_rfl) (by kernel_rfl) (by kernel_rfl) hW.cls ((Rd.lookup (k := 3) (e := 3) (ek := (fun a : Int => Value.int .i64 a)) (ev := (fun a : Int => Value.int .i64 a)) (m := h) (z := Value.int .i64 0) (i : Int) true (by kernel_rfl) (by kernel_rfl) (KeyE.int (by kernel_rfl)) (by kernel_rfl) (fun _ => by kernel_rfl) (fun _ hw => (hw.1).getG 0 rfl)).cast (by generalize look h (i : Int) = o_; cases o_ <;> rfl)) ?_; clear hA ac; intro ac hA
  refine st_rd (v := Value.tuple #[Value.int .i64 ((look h (i : Int)).getD 0), Value.bool (look h (i : Int)).isSome]) hA (by kernel_rfl) (by kernel_rfl) (by kernel_rfl) hW.cls (Rd.pure fun _ => by kernel_rfl) ?_; clear hA ac; intro ac hA
  refine st_rd (v := Value.int .i64 ((look h (i : Int)).getD 0)) hA (by kernel_rfl) (by kernel_rfl) (by kernel_rfl) hW.cls (Rd.pure fun _ => by kernel_rfl) ?_; clear hA ac; intro ac hA
  refine st_rd (v := Value.bool (look h (i : Int)).isSome) hA (by kernel_rfl) (by kernel_rfl) (by kernel_rfl) hW.cls (Rd.pure fun _ => by kernel_rfl) ?_; clear hA ac; intro ac hA
  refine st_rd (v := Value.int .i64 ((look h (i : Int)).getD 0)) hA (by kernel_rfl) (by kernel_rfl) (by kernel_rfl) hW.cls (Rd.pure fun _ => by kernel_rfl) ?_; clear hA ac; intro ac hA
  refine st_rd (v := Value.bool (look h (i : Int)).isSome) hA (by kernel_rfl) (by kernel_rfl) (by kernel_rfl) hW.cls (Rd.pure fun _ => by kernel_rfl) ?_; clear hA ac; intro ac hA
  refine wpList_nil ?_
  refine thenN ?_
  refine wp_seq ?_
  refine wp_region_lit ?_
  refine st_rd (v := Value.int .i64 ((look h (i : Int)).getD 0)) hA (by kernel_rfl) (by kernel_rfl) (by kernel_rfl) hW.cls (Rd.pure fun _ => by kernel_rfl) ?_; clear hA ac; intro ac hA
  refine st_rd (v := Value.bool (look h (i : Int)).isSome) hA (by kernel_rfl) (by kernel_rfl) (by kernel_rfl) hW.cls (Rd.pure fun _ => by kernel_rfl) ?_; clear hA ac; intro ac hA
  refine st_rd (v := Value.int .i64 ((look h (i : Int)).getD 0)) hA (by kernel_rfl) (by kernel_rfl) (by kernel_rfl) hW.cls (Rd.pure fun _ => by kernel_rfl) ?_; clear hA ac; intro ac hA
  refine st_rd (v := Value.bool (look h (i : Int)).isSome) hA (by kernel_rfl) (by kernel_rfl) (by kernel_rfl) hW.cls (Rd.pure fun _ => by kernel_rfl) ?_; clear hA ac; intro ac hA
  refine wpList_nil ?_
  refine thenN ?_
  refine wp_ret ?_
  refine ret2 (v1 := Value.int .i64 ((look h (i : Int)).getD 0)) (v2 := Value.bool (look h (i : Int)).isSome) (by rfl) hA (Got.tmp hA (by kernel_rfl) (by kernel_rfl)) (Got.tmp hA (by kernel_rfl) (by kernel_rfl)) ?_
  clear hA
  exact ⟨retv (by rfl), hW.fr⟩

set_option maxRecDepth 100000 in
theorem e_holder (m : Nat) (b : Nat) (h : List (Int × Int)) (many : Int) (i : Int) (w : World) (ho_m : (MutR m b h many).p w) (hl_m : ∀ x_ ∈ (MutR m b h many).fp, x_ < w.heap.size) : Calls Try.prog 12 #[Value.pointer (some ⟨m, 0, none⟩), Value.int .i64 i] w (fun e w' => e = .returned (Value.tuple #[Value.int .i64 ((look h i).getD 0), Value.bool (look h i).isSome]) ∧ Fr No w w') := by
  have _hu := ho_m; have _hv := hl_m; clear _hu _hv
  refine enter_E 16 Try.func12 rfl rfl (by kernel_rfl) (L := [(0, Value.pointer (some ⟨m, 0, none⟩)), (1, Value.int .i64 i)]) (by kernel_rfl) ?_
  intro ac hA
  have hW := Ws.start w No
  have hW := hW.objG (L := [Cel m #[Value.map (some b), Value.int .i64 many] 54, mapR b (fun a : Int => Value.int .i64 a) (fun a : Int => Value.int .i64 a) h]) ho_m hl_m
  clear ho_m hl_m
  refine wp_seq ?_
  refine wp_region_lit ?_
  refine st_rd (v := Value.int .i64 0) hA (by kernel_rfl) (by kernel_rfl) (by kernel_rfl) hW.cls (Rd.pure fun _ => by kernel_rfl) ?_; clear hA ac; intro ac hA
  refine st_rd (v := Value.bool false) hA (by kernel_rfl) (by kernel_rfl) (by kernel_rfl) hW.cls (Rd.pure fun _ => by kernel_rfl) ?_; clear hA ac; intro ac hA
  refine wpList_nil ?_
  refine thenN ?_
  refine wp_seq ?_
  refine wp_seq ?_
  refine wp_region_lit ?_
  refine st_rd (v := Value.pointer (some ⟨m, 0, none⟩)) hA (by kernel_rfl) (by kernel_rfl) (by kernel_rfl) hW.cls (Rd.pure fun _ => by kernel_rfl) ?_; clear hA ac; intro ac hA
  refine st hA (by kernel_rfl) (by kernel_rfl) (by kernel_rfl) (Runs.callS (v := Value.bool false) (fun _ => by kernel_rfl) (e_none m b (many : Int) w (show _ = _ from (hW).getG 0 rfl)) ?_); clear hA ac; intro  ac hA
  refine wpList_nil ?_
  refine thenN ?_
  refine wp_cond_false (hA.eval (by kernel_rfl)) ?_
  refine wp_skip ?_
  refine thenN ?_
  refine wp_seq ?_
  refine wp_region_lit ?_
  refine st_rd (v := Value.pointer (some ⟨m, 0, none⟩)) hA (by kernel_rfl) (by kernel_rfl) (by kernel_rfl) hW.cls (Rd.pure fun _ => by kernel_rfl) ?_; clear hA ac; intro ac hA
  refine st_rd (v := Value.pointer (some ⟨m, 0, none⟩)) hA (by kernel_rfl) (by kernel_rfl) (by kernel_rfl) hW.cls (Rd.pure fun _ => by kernel_rfl) ?_; clear hA ac; intro ac hA
  refine st_rd (v := Value.pointer (some ⟨m, 0, none⟩)) hA (by kernel_rfl) (by kernel_rfl) (by kernel_rfl) hW.cls (Rd.pure fun _ => by kernel_rfl) ?_; clear hA ac; intro ac hA
  refine st_rd (v := Value.map (some b)) hA (by kernel_rfl) (by kernel_rfl) (by kernel_rfl) hW.cls (Rd.load (b := m) (i := 0) (by kernel_rfl) (fun _ hw => show _ = _ from (hw.1).getG 0 rfl) (by kernel_rfl)) ?_; clear hA ac; intro ac hA
  refine st_rd (v := Value.int .i64 i) hA (by kernel_rfl) (by kernel_rfl) (by kernel_rfl) hW.cls (Rd.pure fun _ => by kernel_rfl) ?_; clear hA ac; intro ac hA
  refine st hA (by kernel_rfl) (by kernel_rfl) (by kernel_rfl) (Runs.callN (v := Value.tuple #[Value.int .i64 ((look h (i)).getD 0), Value.bool (look h (i)).isSome]) (fun _ => by kernel_rfl) hW (e_of b h (i) w ((hW).getG 1 rfl)) ?_); clear hA ac hW; intro w1 hW hfw1 ac hA
  refine st_rd (v := Value.int .i64 ((look h (i)).getD 0)) hA (by kernel_rfl) (by kernel_rfl) (by kernel_rfl) hW.cls (Rd.pure fun _ => by kernel_rfl) ?_; clear hA ac; intro ac hA
  refine st_rd (v := Value.bool (look h (i)).isSome) hA (by kernel_rfl) (by kernel_rfl) (by kernel_rfl) hW.cls (Rd.pure fun _ => by kernel_rfl) ?_; clear hA ac; intro ac hA
  refine st_rd (v := Value.int .i64 ((look h (i)).getD 0)) hA (by kernel_rfl) (by kernel_rfl) (by kernel_rfl) hW.cls (Rd.pure fun _ => by kernel_rfl) ?_; clear hA ac; intro ac hA
  refine st_rd (v := Value.bool (look h (i)).isSome) hA (by kernel_rfl) (by kernel_rfl) (by kernel_rfl) hW.cls (Rd.pure fun _ => by kernel_rfl) ?_; clear hA ac; intro ac hA
  refine wpList_nil ?_
  refine thenN ?_
  refine wp_ret ?_
  refine ret2 (v1 := Value.int .i64 ((look h (i)).getD 0)) (v2 := Value.bool (look h (i)).isSome) (by rfl) hA (Got.tmp hA (by kernel_rfl) (by kernel_rfl)) (Got.tmp hA (by kernel_rfl) (by kernel_rfl)) ?_
  clear hA
  exact ⟨retv (by rfl), hW.fr⟩

set_option maxRecDepth 100000 in
theorem e_len (m : Nat) (b : Nat) (h : List (Int × Int)) (many : Int) (w : World) (ho_m : (MutR m b h many).p w) (hl_m : ∀ x_ ∈ (MutR m b h many).fp, x_ < w.heap.size) : Calls Try.prog 20 #[Value.pointer (some ⟨m, 0, none⟩)] w (fun e w' => e = .returned (Value.int .i64 many) ∧ w = w') := by
  have _hu := ho_m; have _hv := hl_m; clear _hu _hv
  refine enter_E 9 Try.func20 rfl rfl (by kernel_rfl) (L := [(0, Value.pointer (some ⟨m, 0, none⟩))]) (by kernel_rfl) ?_
  intro ac hA
  have hW := Ws.start w No
  have hW := hW.objG (L := [Cel m #[Value.map (some b), Value.int .i64 many] 54, mapR b (fun a : Int => Value.int .i64 a) (fun a : Int => Value.int .i64 a) h]) ho_m hl_m
  clear ho_m hl_m
  refine wp_seq ?_
  refine wp_region_lit ?_
  refine st_rd (v := Value.int .i64 0) hA (by kernel_rfl) (by kernel_rfl) (by kernel_rfl) hW.cls (Rd.pure fun _ => by kernel_rfl) ?_; clear hA ac; intro ac hA
  refine wpList_nil ?_
  refine thenN ?_
  refine wp_seq ?_
  refine wp_seq ?_
  refine wp_region_lit ?_
  refine st_rd (v := Value.pointer (some ⟨m, 0, none⟩)) hA (by kernel_rfl) (by kernel_rfl) (by kernel_rfl) hW.cls (Rd.pure fun _ => by kernel_rfl) ?_; clear hA ac; intro ac hA
  refine st hA (by kernel_rfl) (by kernel_rfl) (by kernel_rfl) (Runs.callS (v := Value.bool false) (fun _ => by kernel_rfl) (e_none m b (many : Int) w (show _ = _ from (hW).getG 0 rfl)) ?_); clear hA ac; intro  ac hA
  refine wpList_nil ?_
  refine thenN ?_
  refine wp_cond_false (hA.eval (by kernel_rfl)) ?_
  refine wp_skip ?_
  refine thenN ?_
  refine wp_seq ?_
  refine wp_region_lit ?_
  refine st_rd (v := Value.pointer (some ⟨m, 0, none⟩)) hA (by kernel_rfl) (by kernel_rfl) (by kernel_rfl) hW.cls (Rd.pure fun _ => by kernel_rfl) ?_; clear hA ac; intro ac hA
  refine st_rd (v := Value.pointer (some ⟨m, 0, none⟩)) hA (by kernel_rfl) (by kernel_rfl) (by kernel_rfl) hW.cls (Rd.pure fun _ => by kernel_rfl) ?_; clear hA ac; intro ac hA
  refine st_rd (v := Value.pointer (some ⟨m, 1, none⟩)) hA (by kernel_rfl) (by kernel_rfl) (by kernel_rfl) hW.cls (Rd.pure fun _ => by kernel_rfl) ?_; clear hA ac; intro ac hA
  refine st_rd (v := Value.int .i64 many) hA (by kernel_rfl) (by kernel_rfl) (by kernel_rfl) hW.cls (Rd.load (b := m) (i := 1) (by kernel_rfl) (fun _ hw => show _ = _ from (hw.1).getG 0 rfl) (by kernel_rfl)) ?_; clear hA ac; intro ac hA
  refine st_rd (v := Value.int .i64 many) hA (by kernel_rfl) (by kernel_rfl) (by kernel_rfl) hW.cls (Rd.pure fun _ => by kernel_rfl) ?_; clear hA ac; intro ac hA
  refine wpList_nil ?_
  refine thenN ?_
  refine wp_ret ?_
  refine ret1 (v := Value.int .i64 many) (by rfl) hA (Got.tmp hA (by kernel_rfl) (by kernel_rfl)) ?_
  clear hA
  exact ⟨retv (by rfl), rfl⟩

set_option maxRecDepth 100000 in
theorem e_lock (m : Nat) (b : Nat) (h : List (Int × Int)) (many : Int) (i : Int) (by_ : Int) (w : World) (ho_m : (MutR m b h many).p w) (hl_m : ∀ x_ ∈ (MutR m b h many).fp, x_ < w.heap.size) : Calls Try.prog 10 #[Value.pointer (some ⟨m, 0, none⟩), Value.int .i64 i, Value.int .i64 by_] w (fun e w' => ∃ h' : List (Int × Int), ∃ er : Int, e = .returned (Value.int .i64 er) ∧ ((h', er) = mLock h many i by_) ∧ Upd (MutR m b h many) (MutR m b h' many) w w') := by
  have _hu := ho_m; have _hv := hl_m; clear _hu _hv
  refine enter_E 39 Try.func10 rfl rfl (by kernel_rfl) (L := [(0, Value.pointer (some ⟨m, 0, none⟩)), (1, Value.int .i64 i), (2, Value.int .i64 by_)]) (by kernel_rfl) ?_
  intro ac hA
  have hW : Ws w (· ∈ (MutR m b h many).fp) [Cel m #[Value.map (some b), Value.int .i64 many] 54, mapR b (fun a : Int => Value.int .i64 a) (fun a : Int => Value.int .i64 a) h] [] w := Ws.unpack (K := []) (objW ho_m hl_m)
  clear ho_m hl_m
  refine wp_seq ?_
  refine wp_region_lit ?_
  refine st_rd (v := Value.int .i64 0) hA (by kernel_rfl) (by kernel_rfl) (by kernel_rfl) hW.cls (Rd.pure fun _ => by kernel_rfl) ?_; clear hA ac; intro ac hA
  refine wpList_nil ?_
  refine thenN ?_
  refine wp_fwd (l := 0) rfl ?_
  refine wp_seq ?_
  refine wp_region_lit ?_
  refine st_rd (v := Value.int .i64 by_) hA (by kernel_rfl) (by kernel_rfl) (by kernel_rfl) hW.cls (Rd.pure fun _ => by kernel_rfl) ?_; clear hA ac; intro ac hA
  refine st_rd (v := Value.agg #[Value.int .i64 by_, Value.int .i64 65535]) hA (by kernel_rfl) (by kernel_rfl) (by kernel_rfl) hW.cls (Rd.pure fun _ => by kernel_rfl) ?_; clear hA ac; intro ac hA
  refine st_rd (v := Value.agg #[Value.int .i64 by_, Value.int .i64 65535]) hA (by kernel_rfl) (by kernel_rfl) (by kernel_rfl) hW.cls (Rd.pure fun _ => by kernel_rfl) ?_; clear hA ac; intro ac hA
  refine st hA (by kernel_rfl) (by kernel_rfl) (by kernel_rfl) (Runs.cells (fun b => Value.pointer (some ⟨b, 0, none⟩)) #[Value.int .i64 0, Value.int .i64 0] 64 (fun _ => by kernel_rfl) hW ?_); clear hA ac hW; intro b1 w2 hW hb1 hfw2 ac hA
  refine st hA (by kernel_rfl) (by kernel_rfl) (by kernel_rfl) (Runs.store (v := Value.agg #[Value.int .i64 by_, Value.int .i64 65535]) (b := b1) (j := 0) (n := 2) (cs' := #[Value.int .i64 by_, Value.int .i64 65535]) (H' := [Cel b1 #[Value.int .i64 by_, Value.int .i64 65535] 64, Cel m #[Value.map (some b), Value.int .i64 many] 54, mapR b (fun a : Int => Value.int .i64 a) (fun a : Int => Value.int .i64 a) h]) (by kernel_rfl) (by kernel_rfl) (by kernel_rfl) (by kernel_rfl) (by kernel_rfl) hW 0 (by rfl) (Nat.le_of_ble_eq_true (by kernel_rfl)) (by kernel_rfl) (by rfl) ?_); clear hA ac hW; intro w3 hW ac hA
  refine wpList_nil ?_
  refine thenN ?_
  refine wp_seq ?_
  refine wp_seq ?_
  refine wp_region_lit ?_
  refine st_rd (v := Value.int .i64 1) hA (by kernel_rfl) (by kernel_rfl) (by kernel_rfl) hW.cls (Rd.pure fun _ => by kernel_rfl) ?_; clear hA ac; intro ac hA
  refine wpList_nil ?_
  refine thenN ?_
  refine wp_seq ?_
  refine wp_region_lit ?_
  refine st_rd (v := Value.pointer (some ⟨m, 0, none⟩)) hA (by kernel_rfl) (by kernel_rfl) (by kernel_rfl) hW.cls (Rd.pure fun _ => by kernel_rfl) ?_; clear hA ac; intro ac hA
  refine st hA (by kernel_rfl) (by kernel_rfl) (by kernel_rfl) (Runs.callS (v := Value.bool false) (fun _ => by kernel_rfl) (e_none m b (many : Int) w3 ((hW).cel 1 rfl)) ?_); clear hA ac; intro  ac hA
  refine wpList_nil ?_
  refine thenN ?_
  refine wp_cond_false (hA.eval (by kernel_rfl)) ?_
  refine wp_skip ?_
  refine thenN ?_
  refine wp_seq ?_
  refine wp_seq ?_
  refine wp_region_lit ?_
  refine st_rd (v := Value.int .i64 2) hA (by kernel_rfl) (by kernel_rfl) (by kernel_rfl) hW.cls (Rd.pure fun _ => by kernel_rfl) ?_; clear hA ac; intro ac hA
  refine wpList_nil ?_
  refine thenN ?_
  refine wp_seq ?_
  refine wp_region_lit ?_
  refine st_rd (v := Value.slice (some ⟨b1, 0, none⟩) 1 1) hA (by kernel_rfl) (by kernel_rfl) (by kernel_rfl) hW.cls (Rd.pure fun _ => by kernel_rfl) ?_; clear hA ac; intro ac hA
  refine st hA (by kernel_rfl) (by kernel_rfl) (by kernel_rfl) (Runs.callN (v := Value.bool ((decide (0 ≤ (by_ : Int)) && decide ((by_ : Int) ≤ 65535)) && true)) (fun _ => by kernel_rfl) hW (e_fine (some ⟨b1, 0, none⟩) 1 ([(⟨by_, 65535⟩ : Bound)] : List Bound) w3 (rowAt_cel ((hW).cel 0 rfl) ([(⟨by_, 65535⟩ : Bound)] : List Bound) (by rfl) elt_Bound.len) (by first | assumption | omega | (simp; omega) | simp) (by first | omega | (simp; done))) ?_); clear hA ac hW; intro w4 hW hfw4 ac hA
  refine st_rd (v := Value.bool (!((decide (0 ≤ (by_ : Int)) && decide ((by_ : Int) ≤ 65535)) && true))) hA (by kernel_rfl) (by kernel_rfl) (by kernel_rfl) hW.cls (Rd.pure fun _ => by kernel_rfl) ?_; clear hA ac; intro ac hA
  refine wpList_nil ?_
  refine thenN ?_
  refine wp_cond_split (t := !((decide (0 ≤ (by_ : Int)) && decide ((by_ : Int) ≤ 65535)) && true)) (hA.eval (by kernel_rfl)) (fun h5 => ?_) (fun h5 => ?_)
  · skip
    have h5 := not_t h5
    simp only [Bool.and_true, Bool.and_eq_false_iff, decide_eq_false_iff_not] at h5
    first
    | (exfalso; clear hA hW; omega)
    | (
        refine wp_goto ?_
        refine thenG ?_
        refine fwdG ?_
        refine wp_seq ?_
        refine wp_skip ?_
        refine thenN ?_
        refine wp_seq ?_
        refine wp_region_lit ?_
        refine st_rd (v := Value.int .i64 2) hA (by kernel_rfl) (by kernel_rfl) (by kernel_rfl) hW.cls (Rd.pure fun _ => by kernel_rfl) ?_; clear hA ac; intro ac hA
        refine st_rd (v := Value.int .i64 2) hA (by kernel_rfl) (by kernel_rfl) (by kernel_rfl) hW.cls (Rd.pure fun _ => by kernel_rfl) ?_; clear hA ac; intro ac hA
        refine wpList_nil ?_
        refine thenN ?_
        refine wp_ret ?_
        refine nogR ?_
        refine ret1 (v := Value.int .i64 2) (by rfl) hA (Got.tmp hA (by kernel_rfl) (by kernel_rfl)) ?_
        clear hA
        exact ⟨h, 2, rfl, by unfold mLock; (repeat' split) <;> first | rfl | (exfalso; omega) | (exfalso; simp_all; done) | (simp_all; done), (Ws.pack (K := []) (show Ws w (· ∈ (MutR m b h many).fp) ([Cel m #[Value.map (some b), Value.int .i64 many] 54, mapR b (fun a : Int => Value.int .i64 a) (fun a : Int => Value.int .i64 a) h] ++ []) [] _ from hW.pick [1, 2] (by decide) rfl)).updDone 0 rfl⟩)
  · skip
    have h5 := not_f h5
    simp only [Bool.and_true, Bool.and_eq_true, decide_eq_true_eq] at h5
    first
    | (exfalso; clear hA hW; omega)
    | (
        refine wp_skip ?_
        refine thenN ?_
        refine wp_seq ?_
        refine wp_seq ?_
        refine wp_region_lit ?_
        refine st_rd (v := Value.int .i64 4) hA (by kernel_rfl) (by kernel_rfl) (by kernel_rfl) hW.cls (Rd.pure fun _ => by kernel_rfl) ?_; clear hA ac; intro ac hA
        refine wpList_nil ?_
        refine thenN ?_
        refine wp_seq ?_
        refine wp_region_lit ?_
        refine st_rd (v := Value.pointer (some ⟨m, 0, none⟩)) hA (by kernel_rfl) (by kernel_rfl) (by kernel_rfl) hW.cls (Rd.pure fun _ => by kernel_rfl) ?_; clear hA ac; intro ac hA
        refine st_rd (v := Value.int .i64 i) hA (by kernel_rfl) (by kernel_rfl) (by kernel_rfl) hW.cls (Rd.pure fun _ => by kernel_rfl) ?_; clear hA ac; intro ac hA
        refine st hA (by kernel_rfl) (by kernel_rfl) (by kernel_rfl) (Runs.callN (v := Value.bool (decide (0 ≤ (i)) && decide ((i) < (many : Int)))) (fun _ => by kernel_rfl) hW (e_there m b (many : Int) (i) w4 ((hW).cel 1 rfl)) ?_); clear hA ac hW; intro w6 hW hfw6 ac hA
        refine st_rd (v := Value.bool (!(decide (0 ≤ (i)) && decide ((i) < (many : Int))))) hA (by kernel_rfl) (by kernel_rfl) (by kernel_rfl) hW.cls (Rd.pure fun _ => by kernel_rfl) ?_; clear hA ac; intro ac hA
        refine wpList_nil ?_
        refine thenN ?_
        refine wp_cond_split (t := !(decide (0 ≤ (i)) && decide ((i) < (many : Int)))) (hA.eval (by kernel_rfl)) (fun h7 => ?_) (fun h7 => ?_)
        · skip
          have h7 := not_t h7
          simp only [Bool.and_eq_false_iff, decide_eq_false_iff_not] at h7
          first
          | (exfalso; clear hA hW; omega)
          | (
              refine wp_goto ?_
              refine thenG ?_
              refine fwdG ?_
              refine wp_seq ?_
              refine wp_skip ?_
              refine thenN ?_
              refine wp_seq ?_
              refine wp_region_lit ?_
              refine st_rd (v := Value.int .i64 4) hA (by kernel_rfl) (by kernel_rfl) (by kernel_rfl) hW.cls (Rd.pure fun _ => by kernel_rfl) ?_; clear hA ac; intro ac hA
              refine st_rd (v := Value.int .i64 4) hA (by kernel_rfl) (by kernel_rfl) (by kernel_rfl) hW.cls (Rd.pure fun _ => by kernel_rfl) ?_; clear hA ac; intro ac hA
              refine wpList_nil ?_
              refine thenN ?_
              refine wp_ret ?_
              refine nogR ?_
              refine ret1 (v := Value.int .i64 4) (by rfl) hA (Got.tmp hA (by kernel_rfl) (by kernel_rfl)) ?_
              clear hA
              exact ⟨h, 4, rfl, by unfold mLock; (repeat' split) <;> first | rfl | (exfalso; omega) | (exfalso; simp_all; done) | (simp_all; done), (Ws.pack (K := []) (show Ws w (· ∈ (MutR m b h many).fp) ([Cel m #[Value.map (some b), Value.int .i64 many] 54, mapR b (fun a : Int => Value.int .i64 a) (fun a : Int => Value.int .i64 a) h] ++ []) [] _ from hW.pick [1, 2] (by decide) rfl)).updDone 0 rfl⟩)
        · skip
          have h7 := not_f h7
          simp only [Bool.and_eq_true, decide_eq_true_eq] at h7
          first
          | (exfalso; clear hA hW; omega)
          | (
              refine wp_skip ?_
              refine thenN ?_
              refine wp_seq ?_
              refine wp_seq ?_
              refine wp_region_lit ?_
              refine st_rd (v := Value.pointer (some ⟨m, 0, none⟩)) hA (by kernel_rfl) (by kernel_rfl) (by kernel_rfl) hW.cls (Rd.pure fun _ => by kernel_rfl) ?_; clear hA ac; intro ac hA
              refine st_rd (v := Value.pointer (some ⟨m, 0, none⟩)) hA (by kernel_rfl) (by kernel_rfl) (by kernel_rfl) hW.cls (Rd.pure fun _ => by kernel_rfl) ?_; clear hA ac; intro ac hA
              refine st_rd (v := Value.pointer (some ⟨m, 0, none⟩)) hA (by kernel_rfl) (by kernel_rfl) (by kernel_rfl) hW.cls (Rd.pure fun _ => by kernel_rfl) ?_; clear hA ac; intro ac hA
              refine st_rd (v := Value.map (some b)) hA (by kernel_rfl) (by kernel_rfl) (by kernel_rfl) hW.cls (Rd.load (b := m) (i := 0) (by kernel_rfl) (fun _ hw => (hw.1).cel 1 rfl) (by kernel_rfl)) ?_; clear hA ac; intro ac hA
              refine st_rd (v := Value.int .i64 i) hA (by kernel_rfl) (by kernel_rfl) (by kernel_rfl) hW.cls (Rd.pure fun _ => by kernel_rfl) ?_; clear hA ac; intro ac hA
              refine st hA (by kernel_rfl) (by kernel_rfl) (by kernel_rfl) (Runs.callN (v := Value.tuple #[Value.int .i64 ((look h (i)).getD 0), Value.bool (look h (i)).isSome]) (fun _ => by kernel_rfl) hW (e_of b h (i) w6 ((hW).get 2 rfl)) ?_); clear hA ac hW; intro w8 hW hfw8 ac hA
              refine st_rd (v := Value.tuple #[Value.int .i64 ((look h (i)).getD 0), Value.bool (look h (i)).isSome]) hA (by kernel_rfl) (by kernel_rfl) (by kernel_rfl) hW.cls (Rd.pure fun _ => by kernel_rfl) ?_; clear hA ac; intro ac hA
              refine st_rd (v := Value.int .i64 ((look h (i)).getD 0)) hA (by kernel_rfl) (by kernel_rfl) (by kernel_rfl) hW.cls (Rd.pure fun _ => by kernel_rfl) ?_; clear hA ac; intro ac hA
              refine st_rd (v := Value.bool (look h (i)).isSome) hA (by kernel_rfl) (by kernel_rfl) (by kernel_rfl) hW.cls (Rd.pure fun _ => by kernel_rfl) ?_; clear hA ac; intro ac hA
              refine st_rd (v := Value.int .i64 ((look h (i)).getD 0)) hA (by kernel_rfl) (by kernel_rfl) (by kernel_rfl) hW.cls (Rd.pure fun _ => by kernel_rfl) ?_; clear hA ac; intro ac hA
              refine st_rd (v := Value.bool (look h (i)).isSome) hA (by kernel_rfl) (by kernel_rfl) (by kernel_rfl) hW.cls (Rd.pure fun _ => by kernel_rfl) ?_; clear hA ac; intro ac hA
              refine wpList_nil ?_
              refine thenN ?_
              refine wp_seq ?_
              refine wp_region_lit ?_
              refine st_rd (v := Value.bool (look h (i)).isSome) hA (by kernel_rfl) (by kernel_rfl) (by kernel_rfl) hW.cls (Rd.pure fun _ => by kernel_rfl) ?_; clear hA ac; intro ac hA
              refine wpList_nil ?_
              refine thenN ?_
              refine wp_cond_split (t := (look h (i)).isSome) (hA.eval (by kernel_rfl)) (fun h9 => ?_) (fun h9 => ?_)
              · skip
                first
                | (exfalso; clear hA hW; omega)
                | (
                    refine wp_seq ?_
                    refine wp_region_lit ?_
                    refine st_rd (v := Value.int .i64 230) hA (by kernel_rfl) (by kernel_rfl) (by kernel_rfl) hW.cls (Rd.pure fun _ => by kernel_rfl) ?_; clear hA ac; intro ac hA
                    refine wpList_nil ?_
                    refine thenN ?_
                    refine wp_goto ?_
                    refine thenG ?_
                    refine fwdG ?_
                    refine wp_seq ?_
                    refine wp_skip ?_
                    refine thenN ?_
                    refine wp_seq ?_
                    refine wp_region_lit ?_
                    refine st_rd (v := Value.int .i64 230) hA (by kernel_rfl) (by kernel_rfl) (by kernel_rfl) hW.cls (Rd.pure fun _ => by kernel_rfl) ?_; clear hA ac; intro ac hA
                    refine st_rd (v := Value.int .i64 230) hA (by kernel_rfl) (by kernel_rfl) (by kernel_rfl) hW.cls (Rd.pure fun _ => by kernel_rfl) ?_; clear hA ac; intro ac hA
                    refine wpList_nil ?_
                    refine thenN ?_
                    refine wp_ret ?_
                    refine nogR ?_
                    refine ret1 (v := Value.int .i64 230) (by rfl) hA (Got.tmp hA (by kernel_rfl) (by kernel_rfl)) ?_
                    clear hA
                    exact ⟨h, 230, rfl, by unfold mLock; (repeat' split) <;> first | rfl | (exfalso; omega) | (exfalso; simp_all; done) | (simp_all; done), (Ws.pack (K := []) (show Ws w (· ∈ (MutR m b h many).fp) ([Cel m #[Value.map (some b), Value.int .i64 many] 54, mapR b (fun a : Int => Value.int .i64 a) (fun a : Int => Value.int .i64 a) h] ++ []) [] _ from hW.pick [1, 2] (by decide) rfl)).updDone 0 rfl⟩)
              · skip
                first
                | (exfalso; clear hA hW; omega)
                | (
                    refine wp_skip ?_
                    refine thenN ?_
                    refine wp_seq ?_
                    refine wp_region_lit ?_
                    refine st_rd (v := Value.pointer (some ⟨m, 0, none⟩)) hA (by kernel_rfl) (by kernel_rfl) (by kernel_rfl) hW.cls (Rd.pure fun _ => by kernel_rfl) ?_; clear hA ac; intro ac hA
                    refine st_rd (v := Value.pointer (some ⟨m, 0, none⟩)) hA (by kernel_rfl) (by kernel_rfl) (by kernel_rfl) hW.cls (Rd.pure fun _ => by kernel_rfl) ?_; clear hA ac; intro ac hA
                    refine st_rd (v := Value.pointer (some ⟨m, 0, none⟩)) hA (by kernel_rfl) (by kernel_rfl) (by kernel_rfl) hW.cls (Rd.pure fun _ => by kernel_rfl) ?_; clear hA ac; intro ac hA
                    refine st_rd (v := Value.map (some b)) hA (by kernel_rfl) (by kernel_rfl) (by kernel_rfl) hW.cls (Rd.load (b := m) (i := 0) (by kernel_rfl) (fun _ hw => (hw.1).cel 1 rfl) (by kernel_rfl)) ?_; clear hA ac; intro ac hA
                    refine st_rd (v := Value.int .i64 i) hA (by kernel_rfl) (by kernel_rfl) (by kernel_rfl) hW.cls (Rd.pure fun _ => by kernel_rfl) ?_; clear hA ac; intro ac hA
                    refine st_rd (v := Value.int .i64 by_) hA (by kernel_rfl) (by kernel_rfl) (by kernel_rfl) hW.cls (Rd.pure fun _ => by kernel_rfl) ?_; clear hA ac; intro ac hA
                    refine st hA (by kernel_rfl) (by kernel_rfl) (by kernel_rfl) (Runs.mapUpdate (k := 3) (e := 3) (ek := (fun a : Int => Value.int .i64 a)) (ev := (fun a : Int => Value.int .i64 a)) (m := h) (i : Int) (by_ : Int) (by kernel_rfl) (by kernel_rfl) (by kernel_rfl) (KeyE.int (by kernel_rfl)) (by kernel_rfl) hW (i := 2) rfl ?_); clear hA ac hW; intro w10 hW ac hA
                    refine wpList_nil ?_
                    refine thenN ?_
                    refine wp_seq ?_
                    refine wp_seq ?_
                    refine wp_region_lit ?_
                    refine st_rd (v := Value.int .i64 0) hA (by kernel_rfl) (by kernel_rfl) (by kernel_rfl) hW.cls (Rd.pure fun _ => by kernel_rfl) ?_; clear hA ac; intro ac hA
                    refine wpList_nil ?_
                    refine thenN ?_
                    refine wp_ret ?_
                    refine thenR ?_
                    refine fwdR ?_
                    refine ret1 (v := Value.int .i64 0) (by rfl) hA (Got.tmp hA (by kernel_rfl) (by kernel_rfl)) ?_
                    clear hA
                    exact ⟨put h (i : Int) (by_ : Int), 0, rfl, by unfold mLock; (repeat' split) <;> first | rfl | (exfalso; omega) | (exfalso; simp_all; done) | (simp_all; done), (Ws.pack (K := []) (show Ws w (· ∈ (MutR m b h many).fp) ([Cel m #[Value.map (some b), Value.int .i64 many] 54, mapR b (fun a : Int => Value.int .i64 a) (fun a : Int => Value.int .i64 a) (put h (i : Int) (by_ : Int))] ++ []) [] _ from hW.pick [1, 2] (by decide) rfl)).updDone 0 rfl⟩)))

set_option maxRecDepth 100000 in
theorem e_unlock (m : Nat) (b : Nat) (h : List (Int × Int)) (many : Int) (i : Int) (w : World) (ho_m : (MutR m b h many).p w) (hl_m : ∀ x_ ∈ (MutR m b h many).fp, x_ < w.heap.size) : Calls Try.prog 11 #[Value.pointer (some ⟨m, 0, none⟩), Value.int .i64 i] w (fun e w' => ∃ h' : List (Int × Int), ∃ who : Int, ∃ er : Int, e = .returned (Value.tuple #[Value.int .i64 who, Value.int .i64 er]) ∧ ((h', who, er) = mUnlock h many i) ∧ Upd (MutR m b h many) (MutR m b h' many) w w') := by
  have _hu := ho_m; have _hv := hl_m; clear _hu _hv
  refine enter_E 31 Try.func11 rfl rfl (by kernel_rfl) (L := [(0, Value.pointer (some ⟨m, 0, none⟩)), (1, Value.int .i64 i)]) (by kernel_rfl) ?_
  intro ac hA
  have hW : Ws w (· ∈ (MutR m b h many).fp) [Cel m #[Value.map (some b), Value.int .i64 many] 54, mapR b (fun a : Int => Value.int .i64 a) (fun a : Int => Value.int .i64 a) h] [] w := Ws.unpack (K := []) (objW ho_m hl_m)
  clear ho_m hl_m
  refine wp_seq ?_
  refine wp_region_lit ?_
  refine st_rd (v := Value.int .i64 0) hA (by kernel_rfl) (by kernel_rfl) (by kernel_rfl) hW.cls (Rd.pure fun _ => by kernel_rfl) ?_; clear hA ac; intro ac hA
  refine st_rd (v := Value.int .i64 0) hA (by kernel_rfl) (by kernel_rfl) (by kernel_rfl) hW.cls (Rd.pure fun _ => by kernel_rfl) ?_; clear hA ac; intro ac hA
  refine wpList_nil ?_
  refine thenN ?_
  refine wp_fwd (l := 0) rfl ?_
  refine wp_seq ?_
  refine wp_region_lit ?_
  refine st_rd (v := Value.bool false) hA (by kernel_rfl) (by kernel_rfl) (by kernel_rfl) hW.cls (Rd.pure fun _ => by kernel_rfl) ?_; clear hA ac; intro ac hA
  refine wpList_nil ?_
  refine thenN ?_
  refine wp_seq ?_
  refine wp_seq ?_
  refine wp_region_lit ?_
  refine st_rd (v := Value.int .i64 1) hA (by kernel_rfl) (by kernel_rfl) (by kernel_rfl) hW.cls (Rd.pure fun _ => by kernel_rfl) ?_; clear hA ac; intro ac hA
  refine wpList_nil ?_
  refine thenN ?_
  refine wp_seq ?_
  refine wp_region_lit ?_
  refine st_rd (v := Value.pointer (some ⟨m, 0, none⟩)) hA (by kernel_rfl) (by kernel_rfl) (by kernel_rfl) hW.cls (Rd.pure fun _ => by kernel_rfl) ?_; clear hA ac; intro ac hA
  refine st hA (by kernel_rfl) (by kernel_rfl) (by kernel_rfl) (Runs.callS (v := Value.bool false) (fun _ => by kernel_rfl) (e_none m b (many : Int) w ((hW).cel 0 rfl)) ?_); clear hA ac; intro  ac hA
  refine wpList_nil ?_
  refine thenN ?_
  refine wp_cond_false (hA.eval (by kernel_rfl)) ?_
  refine wp_skip ?_
  refine thenN ?_
  refine wp_seq ?_
  refine wp_seq ?_
  refine wp_region_lit ?_
  refine st_rd (v := Value.int .i64 4) hA (by kernel_rfl) (by kernel_rfl) (by kernel_rfl) hW.cls (Rd.pure fun _ => by kernel_rfl) ?_; clear hA ac; intro ac hA
  refine wpList_nil ?_
  refine thenN ?_
  refine wp_seq ?_
  refine wp_region_lit ?_
  refine st_rd (v := Value.pointer (some ⟨m, 0, none⟩)) hA (by kernel_rfl) (by kernel_rfl) (by kernel_rfl) hW.cls (Rd.pure fun _ => by kernel_rfl) ?_; clear hA ac; intro ac hA
  refine st_rd (v := Value.int .i64 i) hA (by kernel_rfl) (by kernel_rfl) (by kernel_rfl) hW.cls (Rd.pure fun _ => by kernel_rfl) ?_; clear hA ac; intro ac hA
  refine st hA (by kernel_rfl) (by kernel_rfl) (by kernel_rfl) (Runs.callN (v := Value.bool (decide (0 ≤ (i)) && decide ((i) < (many : Int)))) (fun _ => by kernel_rfl) hW (e_there m b (many : Int) (i) w ((hW).cel 0 rfl)) ?_); clear hA ac hW; intro w1 hW hfw1 ac hA
  refine st_rd (v := Value.bool (!(decide (0 ≤ (i)) && decide ((i) < (many : Int))))) hA (by kernel_rfl) (by kernel_rfl) (by kernel_rfl) hW.cls (Rd.pure fun _ => by kernel_rfl) ?_; clear hA ac; intro ac hA
  refine wpList_nil ?_
  refine thenN ?_
  refine wp_cond_split (t := !(decide (0 ≤ (i)) && decide ((i) < (many : Int)))) (hA.eval (by kernel_rfl)) (fun h2 => ?_) (fun h2 => ?_)
  · skip
    have h2 := not_t h2
    simp only [Bool.and_eq_false_iff, decide_eq_false_iff_not] at h2
    first
    | (exfalso; clear hA hW; omega)
    | (
        refine wp_goto ?_
        refine thenG ?_
        refine fwdG ?_
        refine wp_seq ?_
        refine wp_skip ?_
        refine thenN ?_
        refine wp_seq ?_
        refine wp_region_lit ?_
        refine st_rd (v := Value.int .i64 4) hA (by kernel_rfl) (by kernel_rfl) (by kernel_rfl) hW.cls (Rd.pure fun _ => by kernel_rfl) ?_; clear hA ac; intro ac hA
        refine st_rd (v := Value.int .i64 0) hA (by kernel_rfl) (by kernel_rfl) (by kernel_rfl) hW.cls (Rd.pure fun _ => by kernel_rfl) ?_; clear hA ac; intro ac hA
        refine st_rd (v := Value.int .i64 4) hA (by kernel_rfl) (by kernel_rfl) (by kernel_rfl) hW.cls (Rd.pure fun _ => by kernel_rfl) ?_; clear hA ac; intro ac hA
        refine wpList_nil ?_
        refine thenN ?_
        refine wp_ret ?_
        refine nogR ?_
        refine ret2 (v1 := Value.int .i64 0) (v2 := Value.int .i64 4) (by rfl) hA (Got.tmp hA (by kernel_rfl) (by kernel_rfl)) (Got.tmp hA (by kernel_rfl) (by kernel_rfl)) ?_
        clear hA
        exact ⟨h, 0, 4, rfl, by unfold mUnlock; (repeat' split) <;> first | rfl | (exfalso; omega) | (exfalso; simp_all; done) | (simp_all; done), (Ws.pack (K := []) (show Ws w (· ∈ (MutR m b h many).fp) ([Cel m #[Value.map (some b), Value.int .i64 many] 54, mapR b (fun a : Int => Value.int .i64 a) (fun a : Int => Value.int .i64 a) h] ++ []) [] _ from hW.pick [0, 1] (by decide) rfl)).updDone 0 rfl⟩)
  · skip
    have h2 := not_f h2
    simp only [Bool.and_eq_true, decide_eq_true_eq] at h2
    first
    | (exfalso; clear hA hW; omega)
    | (
        refine wp_skip ?_
        refine thenN ?_
        refine wp_seq ?_
        refine wp_seq ?_
        refine wp_region_lit ?_
        refine st_rd (v := Value.pointer (some ⟨m, 0, none⟩)) hA (by kernel_rfl) (by kernel_rfl) (by kernel_rfl) hW.cls (Rd.pure fun _ => by kernel_rfl) ?_; clear hA ac; intro ac hA
        refine st_rd (v := Value.pointer (some ⟨m, 0, none⟩)) hA (by kernel_rfl) (by kernel_rfl) (by kernel_rfl) hW.cls (Rd.pure fun _ => by kernel_rfl) ?_; clear hA ac; intro ac hA
        refine st_rd (v := Value.pointer (some ⟨m, 0, none⟩)) hA (by kernel_rfl) (by kernel_rfl) (by kernel_rfl) hW.cls (Rd.pure fun _ => by kernel_rfl) ?_; clear hA ac; intro ac hA
        refine st_rd (v := Value.map (some b)) hA (by kernel_rfl) (by kernel_rfl) (by kernel_rfl) hW.cls (Rd.load (b := m) (i := 0) (by kernel_rfl) (fun _ hw => (hw.1).cel 0 rfl) (by kernel_rfl)) ?_; clear hA ac; intro ac hA
        refine st_rd (v := Value.int .i64 i) hA (by kernel_rfl) (by kernel_rfl) (by kernel_rfl) hW.cls (Rd.pure fun _ => by kernel_rfl) ?_; clear hA ac; intro ac hA
        refine st hA (by kernel_rfl) (by kernel_rfl) (by kernel_rfl) (Runs.callN (v := Value.tuple #[Value.int .i64 ((look h (i)).getD 0), Value.bool (look h (i)).isSome]) (fun _ => by kernel_rfl) hW (e_of b h (i) w1 ((hW).get 1 rfl)) ?_); clear hA ac hW; intro w3 hW hfw3 ac hA
        refine st_rd (v := Value.tuple #[Value.int .i64 ((look h (i)).getD 0), Value.bool (look h (i)).isSome]) hA (by kernel_rfl) (by kernel_rfl) (by kernel_rfl) hW.cls (Rd.pure fun _ => by kernel_rfl) ?_; clear hA ac; intro ac hA
        refine st_rd (v := Value.int .i64 ((look h (i)).getD 0)) hA (by kernel_rfl) (by kernel_rfl) (by kernel_rfl) hW.cls (Rd.pure fun _ => by kernel_rfl) ?_; clear hA ac; intro ac hA
        refine st_rd (v := Value.bool (look h (i)).isSome) hA (by kernel_rfl) (by kernel_rfl) (by kernel_rfl) hW.cls (Rd.pure fun _ => by kernel_rfl) ?_; clear hA ac; intro ac hA
        refine st_rd (v := Value.int .i64 ((look h (i)).getD 0)) hA (by kernel_rfl) (by kernel_rfl) (by kernel_rfl) hW.cls (Rd.pure fun _ => by kernel_rfl) ?_; clear hA ac; intro ac hA
        refine st_rd (v := Value.bool (look h (i)).isSome) hA (by kernel_rfl) (by kernel_rfl) (by kernel_rfl) hW.cls (Rd.pure fun _ => by kernel_rfl) ?_; clear hA ac; intro ac hA
        refine wpList_nil ?_
        refine thenN ?_
        refine wp_seq ?_
        refine wp_region_lit ?_
        refine st_rd (v := Value.bool (look h (i)).isSome) hA (by kernel_rfl) (by kernel_rfl) (by kernel_rfl) hW.cls (Rd.pure fun _ => by kernel_rfl) ?_; clear hA ac; intro ac hA
        refine st_rd (v := Value.bool (!(look h (i)).isSome)) hA (by kernel_rfl) (by kernel_rfl) (by kernel_rfl) hW.cls (Rd.pure fun _ => by kernel_rfl) ?_; clear hA ac; intro ac hA
        refine wpList_nil ?_
        refine thenN ?_
        refine wp_cond_split (t := !(look h (i)).isSome) (hA.eval (by kernel_rfl)) (fun h4 => ?_) (fun h4 => ?_)
        · skip
          have h4 := not_t h4
          first
          | (exfalso; clear hA hW; omega)
          | (
              refine wp_seq ?_
              refine wp_region_lit ?_
              refine st_rd (v := Value.int .i64 231) hA (by kernel_rfl) (by kernel_rfl) (by kernel_rfl) hW.cls (Rd.pure fun _ => by kernel_rfl) ?_; clear hA ac; intro ac hA
              refine wpList_nil ?_
              refine thenN ?_
              refine wp_goto ?_
              refine thenG ?_
              refine fwdG ?_
              refine wp_seq ?_
              refine wp_skip ?_
              refine thenN ?_
              refine wp_seq ?_
              refine wp_region_lit ?_
              refine st_rd (v := Value.int .i64 231) hA (by kernel_rfl) (by kernel_rfl) (by kernel_rfl) hW.cls (Rd.pure fun _ => by kernel_rfl) ?_; clear hA ac; intro ac hA
              refine st_rd (v := Value.int .i64 0) hA (by kernel_rfl) (by kernel_rfl) (by kernel_rfl) hW.cls (Rd.pure fun _ => by kernel_rfl) ?_; clear hA ac; intro ac hA
              refine st_rd (v := Value.int .i64 231) hA (by kernel_rfl) (by kernel_rfl) (by kernel_rfl) hW.cls (Rd.pure fun _ => by kernel_rfl) ?_; clear hA ac; intro ac hA
              refine wpList_nil ?_
              refine thenN ?_
              refine wp_ret ?_
              refine nogR ?_
              refine ret2 (v1 := Value.int .i64 0) (v2 := Value.int .i64 231) (by rfl) hA (Got.tmp hA (by kernel_rfl) (by kernel_rfl)) (Got.tmp hA (by kernel_rfl) (by kernel_rfl)) ?_
              clear hA
              exact ⟨h, 0, 231, rfl, by unfold mUnlock; (repeat' split) <;> first | rfl | (exfalso; omega) | (exfalso; simp_all; done) | (simp_all; done), (Ws.pack (K := []) (show Ws w (· ∈ (MutR m b h many).fp) ([Cel m #[Value.map (some b), Value.int .i64 many] 54, mapR b (fun a : Int => Value.int .i64 a) (fun a : Int => Value.int .i64 a) h] ++ []) [] _ from hW.pick [0, 1] (by decide) rfl)).updDone 0 rfl⟩)
        · skip
          have h4 := not_f h4
          first
          | (exfalso; clear hA hW; omega)
          | (
              refine wp_skip ?_
              refine thenN ?_
              refine wp_seq ?_
              refine wp_region_lit ?_
              refine st_rd (v := Value.pointer (some ⟨m, 0, none⟩)) hA (by kernel_rfl) (by kernel_rfl) (by kernel_rfl) hW.cls (Rd.pure fun _ => by kernel_rfl) ?_; clear hA ac; intro ac hA
              refine st_rd (v := Value.pointer (some ⟨m, 0, none⟩)) hA (by kernel_rfl) (by kernel_rfl) (by kernel_rfl) hW.cls (Rd.pure fun _ => by kernel_rfl) ?_; clear hA ac; intro ac hA
              refine st_rd (v := Value.pointer (some ⟨m, 0, none⟩)) hA (by kernel_rfl) (by kernel_rfl) (by kernel_rfl) hW.cls (Rd.pure fun _ => by kernel_rfl) ?_; clear hA ac; intro ac hA
              refine st_rd (v := Value.map (some b)) hA (by kernel_rfl) (by kernel_rfl) (by kernel_rfl) hW.cls (Rd.load (b := m) (i := 0) (by kernel_rfl) (fun _ hw => (hw.1).cel 0 rfl) (by kernel_rfl)) ?_; clear hA ac; intro ac hA
              refine st_rd (v := Value.int .i64 i) hA (by kernel_rfl) (by kernel_rfl) (by kernel_rfl) hW.cls (Rd.pure fun _ => by kernel_rfl) ?_; clear hA ac; intro ac hA
              refine st hA (by kernel_rfl) (by kernel_rfl) (by kernel_rfl) (Runs.delete (k := 3) (e := 3) (ek := (fun a : Int => Value.int .i64 a)) (ev := (fun a : Int => Value.int .i64 a)) (m := h) (i : Int) (by kernel_rfl) (by kernel_rfl) (KeyE.int (by kernel_rfl)) (by kernel_rfl) hW (i := 1) rfl ?_); clear hA ac hW; intro w5 hW ac hA
              refine wpList_nil ?_
              refine thenN ?_
              refine wp_seq ?_
              refine wp_seq ?_
              refine wp_region_lit ?_
              refine st_rd (v := Value.int .i64 ((look h (i)).getD 0)) hA (by kernel_rfl) (by kernel_rfl) (by kernel_rfl) hW.cls (Rd.pure fun _ => by kernel_rfl) ?_; clear hA ac; intro ac hA
              refine st_rd (v := Value.int .i64 ((look h (i)).getD 0)) hA (by kernel_rfl) (by kernel_rfl) (by kernel_rfl) hW.cls (Rd.pure fun _ => by kernel_rfl) ?_; clear hA ac; intro ac hA
              refine st_rd (v := Value.int .i64 0) hA (by kernel_rfl) (by kernel_rfl) (by kernel_rfl) hW.cls (Rd.pure fun _ => by kernel_rfl) ?_; clear hA ac; intro ac hA
              refine wpList_nil ?_
              refine thenN ?_
              refine wp_ret ?_
              refine thenR ?_
              refine fwdR ?_
              refine ret2 (v1 := Value.int .i64 ((look h (i)).getD 0)) (v2 := Value.int .i64 0) (by rfl) hA (Got.tmp hA (by kernel_rfl) (by kernel_rfl)) (Got.tmp hA (by kernel_rfl) (by kernel_rfl)) ?_
              clear hA
              exact ⟨del h (i : Int), ((look h (i)).getD 0), 0, rfl, by unfold mUnlock; (repeat' split) <;> first | rfl | (exfalso; omega) | (exfalso; simp_all; done) | (simp_all; done), (Ws.pack (K := []) (show Ws w (· ∈ (MutR m b h many).fp) ([Cel m #[Value.map (some b), Value.int .i64 many] 54, mapR b (fun a : Int => Value.int .i64 a) (fun a : Int => Value.int .i64 a) (del h (i : Int))] ++ []) [] _ from hW.pick [0, 1] (by decide) rfl)).updDone 0 rfl⟩))

end Go.Proofs.Ytgeikokmhkfkgaa.L
