/- Contracts, walked by program over the engine's laws. -/
import Derived.Test.YtobbocpacacnhaaProg
import Derived.Test.YtobbocpacacnhaaT3
namespace Go.Proofs.Ytobbocpacacnhaa.L
open Go.RowKit

def markAt (m : MarkM) (i : Int) : Mark := (look m i).getD (⟨0, ⟨0, 0⟩⟩ : Mark)
def BeyR (o : Option MarkM) (c : List Int) (id : Int) (mk : Mark) (is : Bool) : Prop := ∃ ks : List Int, ks.Perm (keys (o.getD [])) ∧ (ks.Pairwise fun x y => x ≤ y) ∧
  match ks.find? fun i => decide ((markAt (o.getD []) i).clock > getC c i) with
  | some i => id = i ∧ mk = markAt (o.getD []) i ∧ is = true
  | none => id = 0 ∧ mk = (⟨0, ⟨0, 0⟩⟩ : Mark) ∧ is = false
def EachR (o : Option MarkM) (xs : List (Int × Mark)) : Prop := ∃ ks : List Int, ks.Perm (keys (o.getD [])) ∧ (ks.Pairwise fun x y => x ≤ y) ∧ xs = ks.map fun i => (i, markAt (o.getD []) i)
theorem find_some {α : Type} {l : List α} {p : α → Bool} {k : Nat} {y : α} (hn : ∀ x ∈ l.take k, p x = false) (hy : l[k]? = some y) (hp : p y = true) : l.find? p = some y := by
  have e : l = l.take k ++ y :: l.drop (k + 1) := by
    obtain ⟨hlt, rfl⟩ := List.getElem?_eq_some_iff.1 hy
    rw [List.getElem_cons_drop, List.take_append_drop]
  rw [e, List.find?_append, List.find?_eq_none.2 (fun x hx => by rw [hn x hx]; simp), List.find?_cons_of_pos hp]; rfl
theorem find_no {α : Type} {l : List α} {p : α → Bool} {k : Nat} (hn : ∀ x ∈ l.take k, p x = false) (hk : l.length ≤ k) : l.find? p = none := by
  rw [List.take_of_length_le hk] at hn
  exact List.find?_eq_none.2 fun x hx => by rw [hn x hx]; simp
theorem comes_map {α β : Type} {F : α → β} {l : List α} {k : Nat} {y : α} (h : l[k]? = some y) : Comes (· = l.map F) ((l.take k).map F) (F y) :=
  ⟨_, rfl, by rw [show (l.take k).map F ++ [F y] = (l.take (k + 1)).map F from by rw [tk_snoc h, List.map_append]; rfl]; exact (List.take_prefix _ _).map F⟩
theorem map_snoc {α β : Type} {F : α → β} {l : List α} {k : Nat} {y : α} (h : l[k]? = some y) : (l.take k).map F ++ [F y] = (l.take (k + 1)).map F := by rw [tk_snoc h, List.map_append]; rfl
theorem getC_at {c : List Int} {i : Int} {y : Int} (h0 : 0 ≤ i) (h : c[i.toNat]? = some y) : y = getC c i := by unfold getC; rw [if_neg (by omega), h]; rfl
theorem getC_no {c : List Int} {i : Int} (h : i < 0 ∨ (c.length : Int) ≤ i) : getC c i = 0 := by
  unfold getC
  split
  · rfl
  · rw [List.getElem?_eq_none (by omega)]; rfl
theorem comes_nil {α : Type} {pre : List α} {x : α} (h : Comes (· = ([] : List α)) pre x) : False := by
  obtain ⟨xs, rfl, t, ht⟩ := h
  simp at ht
set_option maxRecDepth 100000 in
theorem e_vof (A_c : Option Addr) (c_c : Nat) (c : List Int) (w : World) (hr_c : RowAt w A_c 1 enU c) (hc_c : c.length ≤ c_c) : Calls Try.prog 55 #[Value.slice A_c c.length c_c] w (fun e w' => e = .returned (Value.agg #[Value.slice A_c c.length c_c]) ∧ Fr No w w') := by
  have _hu := hc_c; have _hv := hr_c; clear _hu _hv
  refine enter_E 5 Try.func55 rfl rfl (by kernel_rfl) (L := [(0, Value.slice A_c c.length c_c)]) (by kernel_rfl) ?_
  intro ac hA
  have hW := Ws.start w No
  have hW := hW.arg hr_c
  refine wp_seq ?_
  refine wp_region_lit ?_
  refine st hA (by kernel_rfl) (by kernel_rfl) (by kernel_rfl) (Runs.cells (fun b => Value.pointer (some ⟨b, 0, none⟩)) #[Value.slice none 0 0] 107 (fun _ => by kernel_rfl) hW ?_); clear hA ac hW; intro b1 w2 hW hb1 hfw2 ac hA
  refine wpList_nil ?_
  refine thenN ?_
  refine wp_seq ?_
  refine wp_region_lit ?_
  refine st_rd (v := Value.slice A_c c.length c_c) hA (by kernel_rfl) (by kernel_rfl) (by kernel_rfl) hW.cls (Rd.pure fun _ => by kernel_rfl) ?_; clear hA ac; intro ac hA
  refine st_rd (v := Value.agg #[Value.slice A_c c.length c_c]) hA (by kernel_rfl) (by kernel_rfl) (by kernel_rfl) hW.cls (Rd.pure fun _ => by kernel_rfl) ?_; clear hA ac; intro ac hA
  refine st hA (by kernel_rfl) (by kernel_rfl) (by kernel_rfl) (Runs.store (v := Value.agg #[Value.slice A_c c.length c_c]) (b := b1) (j := 0) (n := 1) (cs' := #[Value.slice A_c c.length c_c]) (H' := [Cel b1 #[Value.slice A_c c.length c_c] 107]) (by kernel_rfl) (by kernel_rfl) (by kernel_rfl) (by kernel_rfl) (by kernel_rfl) hW 0 (by rfl) (Nat.le_of_ble_eq_true (by kernel_rfl)) (by kernel_rfl) (by rfl) ?_); clear hA ac hW; intro w3 hW ac hA
  refine wpList_nil ?_
  refine thenN ?_
  refine wp_ret ?_
  refine ret1 (v := Value.agg #[Value.slice A_c c.length c_c]) (by rfl) hA (Got.cell (b := b1) (i := 0) hA (by kernel_rfl) (by kernel_rfl) (hW.cel 0 rfl) (by kernel_rfl)) ?_
  clear hA
  exact ⟨retv (by rfl), hW.fr⟩

set_option maxRecDepth 100000 in
theorem e_vat (A_c : Option Addr) (c_c : Nat) (c : List Int) (id : Int) (w : World) (hr_c : RowAt w A_c 1 enU c) (hc_c : c.length ≤ c_c) (hl : c.length ≤ 100000) : Calls Try.prog 56 #[Value.slice A_c c.length c_c, Value.int .i64 id] w (fun e w' => e = .returned (Value.int .u64 (getC c id)) ∧ Fr No w w') := by
  have _hu := hc_c; have _hv := hr_c; clear _hu _hv
  have _hu := hl; clear _hu
  refine enter_E 17 Try.func56 rfl rfl (by kernel_rfl) (L := [(0, Value.slice A_c c.length c_c), (1, Value.int .i64 id)]) (by kernel_rfl) ?_
  intro ac hA
  have hW := Ws.start w No
  have hW := hW.arg hr_c
  refine wp_seq ?_
  refine wp_region_lit ?_
  refine st_rd (v := Value.int .u64 0) hA (by kernel_rfl) (by kernel_rfl) (by kernel_rfl) hW.cls (Rd.pure fun _ => by kernel_rfl) ?_; clear hA ac; intro ac hA
  refine wpList_nil ?_
  refine thenN ?_
  refine wp_seq ?_
  refine wp_seq ?_
  refine wp_region_lit ?_
  refine st_rd (v := Value.int .i64 id) hA (by kernel_rfl) (by kernel_rfl) (by kernel_rfl) hW.cls (Rd.pure fun _ => by kernel_rfl) ?_; clear hA ac; intro ac hA
  refine st_rd (v := Value.bool (decide ((id : Int) < (0 : Int)))) hA (by kernel_rfl) (by kernel_rfl) (by kernel_rfl) hW.cls (Rd.pure fun _ => by kernel_rfl) ?_; clear hA ac; intro ac hA
  refine st_rd (v := Value.bool (decide ((id : Int) < (0 : Int)))) hA (by kernel_rfl) (by kernel_rfl) (by kernel_rfl) hW.cls (Rd.pure fun _ => by kernel_rfl) ?_; clear hA ac; intro ac hA
  rcases Bool.eq_false_or_eq_true (decide ((id : Int) < (0 : Int))) with h1 | h1
  · skip
    rw [h1] at hA
    have h1 := of_decide_eq_true h1
    first
    | (exfalso; clear hA hW; omega)
    | (
        refine st_skip hA (by kernel_rfl) (by kernel_rfl) ?_; clear hA ac; intro ac hA
        refine st_skip hA (by kernel_rfl) (by kernel_rfl) ?_; clear hA ac; intro ac hA
        refine st_skip hA (by kernel_rfl) (by kernel_rfl) ?_; clear hA ac; intro ac hA
        refine st_skip hA (by kernel_rfl) (by kernel_rfl) ?_; clear hA ac; intro ac hA
        refine st_rd (v := Value.bool true) hA (by kernel_rfl) (by kernel_rfl) (by kernel_rfl) hW.cls (Rd.pure fun _ => by kernel_rfl) ?_; clear hA ac; intro ac hA
        refine wpList_nil ?_
        refine thenN ?_
        refine wp_cond_true (hA.eval (by kernel_rfl)) ?_
        refine wp_seq ?_
        refine wp_region_lit ?_
        refine st_rd (v := Value.int .u64 0) hA (by kernel_rfl) (by kernel_rfl) (by kernel_rfl) hW.cls (Rd.pure fun _ => by kernel_rfl) ?_; clear hA ac; intro ac hA
        refine wpList_nil ?_
        refine thenN ?_
        refine wp_ret ?_
        refine thenR ?_
        refine ret1 (v := Value.int .u64 0) (by rfl) hA (Got.tmp hA (by kernel_rfl) (by kernel_rfl)) ?_
        clear hA
        exact ⟨retv (congrArg (Value.int .u64) (getC_no (by omega)).symm), hW.fr⟩)
  · skip
    rw [h1] at hA
    have h1 := of_decide_eq_false h1
    first
    | (exfalso; clear hA hW; omega)
    | (
        refine st_rd (v := Value.int .i64 id) hA (by kernel_rfl) (by kernel_rfl) (by kernel_rfl) hW.cls (Rd.pure fun _ => by kernel_rfl) ?_; clear hA ac; intro ac hA
        refine st_rd (v := Value.slice A_c c.length c_c) hA (by kernel_rfl) (by kernel_rfl) (by kernel_rfl) hW.cls (Rd.pure fun _ => by kernel_rfl) ?_; clear hA ac; intro ac hA
        refine st_rd (v := Value.int .i64 ((c.length : Nat) : Int)) hA (by kernel_rfl) (by kernel_rfl) (by kernel_rfl) hW.cls (Rd.pure fun _ => by kernel_rfl) ?_; clear hA ac; intro ac hA
        refine st_rd (v := Value.bool (decide ((id : Int) ≥ (((c.length : Nat) : Int) : Int)))) hA (by kernel_rfl) (by kernel_rfl) (by kernel_rfl) hW.cls (Rd.pure fun _ => by kernel_rfl) ?_; clear hA ac; intro ac hA
        refine st_rd (v := Value.bool (decide ((id : Int) ≥ (((c.length : Nat) : Int) : Int)))) hA (by kernel_rfl) (by kernel_rfl) (by kernel_rfl) hW.cls (Rd.pure fun _ => by kernel_rfl) ?_; clear hA ac; intro ac hA
        refine wpList_nil ?_
        refine thenN ?_
        refine wp_cond_split (t := decide ((id : Int) ≥ (((c.length : Nat) : Int) : Int))) (hA.eval (by kernel_rfl)) (fun h2 => ?_) (fun h2 => ?_)
        · skip
          have h2 := of_decide_eq_true h2
          first
          | (exfalso; clear hA hW; omega)
          | (
              refine wp_seq ?_
              refine wp_region_lit ?_
              refine st_rd (v := Value.int .u64 0) hA (by kernel_rfl) (by kernel_rfl) (by kernel_rfl) hW.cls (Rd.pure fun _ => by kernel_rfl) ?_; clear hA ac; intro ac hA
              refine wpList_nil ?_
              refine thenN ?_
              refine wp_ret ?_
              refine thenR ?_
              refine ret1 (v := Value.int .u64 0) (by rfl) hA (Got.tmp hA (by kernel_rfl) (by kernel_rfl)) ?_
              clear hA
              exact ⟨retv (congrArg (Value.int .u64) (getC_no (by omega)).symm), hW.fr⟩)
        · skip
          have h2 := of_decide_eq_false h2
          first
          | (exfalso; clear hA hW; omega)
          | (
              refine wp_skip ?_
              refine thenN ?_
              refine wp_seq ?_
              refine wp_region_lit ?_
              refine st_rd (v := Value.slice A_c c.length c_c) hA (by kernel_rfl) (by kernel_rfl) (by kernel_rfl) hW.cls (Rd.pure fun _ => by kernel_rfl) ?_; clear hA ac; intro ac hA
              refine st_rd (v := Value.int .i64 id) hA (by kernel_rfl) (by kernel_rfl) (by kernel_rfl) hW.cls (Rd.pure fun _ => by kernel_rfl) ?_; clear hA ac; intro ac hA
              obtain ⟨y3, hy3⟩ : ∃ y, c[Int.toNat (id)]? = some y := ⟨_, List.getElem?_eq_getElem (by first | omega | (simp; done) | (simp; omega))⟩
              obtain ⟨b4, o5, rfl, hbb4⟩ := row_some ((hW).getG 0 rfl) hy3
              refine st_rd (v := Value.pointer (some ⟨b4, o5 + (Int.toNat (id)) * 1, none⟩)) hA (by kernel_rfl) (by kernel_rfl) (by kernel_rfl) hW.cls (Rd.indexAddrI (e := 28) (sz := 1) (b := b4) (off := o5) (n := c.length) (c := c_c) (k := id) (by kernel_rfl) (by kernel_rfl) (by omega) (by first | omega | (simp; done) | (simp; omega)) (fun _ => by kernel_rfl) (fun _ => by kernel_rfl)) ?_; clear hA ac; intro ac hA
              refine st_rd (v := Value.int .u64 y3) hA (by kernel_rfl) (by kernel_rfl) (by kernel_rfl) hW.cls (Rd.loadRow (b := b4) (i := o5 + (Int.toNat (id)) * 1) (xs := [Value.int .u64 y3]) (by kernel_rfl) (fun _ hw => row_ld ((hw.1).getG 0 rfl) hy3 (Fr.refl No _) (fun h => h) 0 1 (by kernel_rfl)) (by kernel_rfl)) ?_; clear hA ac; intro ac hA
              refine st_rd (v := Value.int .u64 y3) hA (by kernel_rfl) (by kernel_rfl) (by kernel_rfl) hW.cls (Rd.pure fun _ => by kernel_rfl) ?_; clear hA ac; intro ac hA
              refine wpList_nil ?_
              refine thenN ?_
              refine wp_ret ?_
              refine ret1 (v := Value.int .u64 y3) (by rfl) hA (Got.tmp hA (by kernel_rfl) (by kernel_rfl)) ?_
              clear hA
              exact ⟨retv (congrArg (Value.int .u64) (getC_at (by omega) hy3)), hW.fr⟩))

set_option maxRecDepth 100000 in
theorem e_vget (A_c : Option Addr) (c_c : Nat) (c : List Int) (id : Int) (w : World) (hr_c : RowAt w A_c 1 enU c) (hc_c : c.length ≤ c_c) (hl : c.length ≤ 100000) : Calls Try.prog 33 #[Value.slice A_c c.length c_c, Value.int .i64 id] w (fun e w' => e = .returned (Value.int .u64 (getC c id)) ∧ Fr No w w') := by
  have _hu := hc_c; have _hv := hr_c; clear _hu _hv
  have _hu := hl; clear _hu
  refine enter_E 10 Try.func33 rfl rfl (by kernel_rfl) (L := [(0, Value.slice A_c c.length c_c), (1, Value.int .i64 id)]) (by kernel_rfl) ?_
  intro ac hA
  have hW := Ws.start w No
  have hW := hW.arg hr_c
  refine wp_seq ?_
  refine wp_region_lit ?_
  refine st_rd (v := Value.int .u64 0) hA (by kernel_rfl) (by kernel_rfl) (by kernel_rfl) hW.cls (Rd.pure fun _ => by kernel_rfl) ?_; clear hA ac; intro ac hA
  refine wpList_nil ?_
  refine thenN ?_
  refine wp_seq ?_
  refine wp_region_lit ?_
  refine st_rd (v := Value.slice A_c c.length c_c) hA (by kernel_rfl) (by kernel_rfl) (by kernel_rfl) hW.cls (Rd.pure fun _ => by kernel_rfl) ?_; clear hA ac; intro ac hA
  refine st hA (by kernel_rfl) (by kernel_rfl) (by kernel_rfl) (Runs.callN (v := Value.agg #[Value.slice A_c c.length c_c]) (fun _ => by kernel_rfl) hW (e_vof A_c c_c c w ((hW).getG 0 rfl) (by first | assumption | omega | (simp; omega) | simp)) ?_); clear hA ac hW; intro w1 hW hfw1 ac hA
  refine st_rd (v := Value.slice A_c c.length c_c) hA (by kernel_rfl) (by kernel_rfl) (by kernel_rfl) hW.cls (Rd.pure fun _ => by kernel_rfl) ?_; clear hA ac; intro ac hA
  refine st_rd (v := Value.int .i64 id) hA (by kernel_rfl) (by kernel_rfl) (by kernel_rfl) hW.cls (Rd.pure fun _ => by kernel_rfl) ?_; clear hA ac; intro ac hA
  refine st hA (by kernel_rfl) (by kernel_rfl) (by kernel_rfl) (Runs.callN (v := Value.int .u64 (getC c (id))) (fun _ => by kernel_rfl) hW (e_vat A_c c_c c (id) w1 ((hW).getG 0 rfl) (by first | assumption | omega | (simp; omega) | simp) (by first | omega | (simp; done))) ?_); clear hA ac hW; intro w2 hW hfw2 ac hA
  refine st_rd (v := Value.int .u64 (getC c (id))) hA (by kernel_rfl) (by kernel_rfl) (by kernel_rfl) hW.cls (Rd.pure fun _ => by kernel_rfl) ?_; clear hA ac; intro ac hA
  refine wpList_nil ?_
  refine thenN ?_
  refine wp_ret ?_
  refine ret1 (v := Value.int .u64 (getC c (id))) (by rfl) hA (Got.tmp hA (by kernel_rfl) (by kernel_rfl)) ?_
  clear hA
  exact ⟨retv (by rfl), hW.fr⟩

set_option maxRecDepth 100000 in
theorem e_of (p : Nat) (b : Nat) (V : List (Int × Nat × List (Int × Mark))) (h : Int) (w : World) (ho_p : (PoolR p b V).p w) (hl_p : ∀ x_ ∈ (PoolR p b V).fp, x_ < w.heap.size) : Calls Try.prog 29 #[Value.pointer (some ⟨p, 0, none⟩), Value.int .i64 h] w (fun e w' => e = .returned (Value.map (look (outs V) h)) ∧ Fr No w w') := by
  have _hu := ho_p; have _hv := hl_p; clear _hu _hv
  refine enter_E 13 Try.func29 rfl rfl (by kernel_rfl) (L := [(0, Value.pointer (some ⟨p, 0, none⟩)), (1, Value.int .i64 h)]) (by kernel_rfl) ?_
  intro ac hA
  have hW := Ws.start w No
  have hW := hW.objG (L := [Cel p #[Value.map (some b)] 62, mapR b (fun a : Int => Value.int .i64 a) (fun x_ : Nat => Value.map (some x_)) (outs V), SubR (fun (c_ : List (Int × Mark)) (b_ : Nat) => mapR b_ (fun a : Int => Value.int .i64 a) Mark.v c_) V]) ho_p hl_p
  clear ho_p hl_p
  refine wp_seq ?_
  refine wp_region_lit ?_
  refine st_rd (v := Value.map none) hA (by kernel_rfl) (by kernel_rfl) (by kernel_rfl) hW.cls (Rd.pure fun _ => by kernel_rfl) ?_; clear hA ac; intro ac hA
  refine wpList_nil ?_
  refine thenN ?_
  refine wp_seq ?_
  refine wp_seq ?_
  refine wp_region_lit ?_
  refine st_rd (v := Value.pointer (some ⟨p, 0, none⟩)) hA (by kernel_rfl) (by kernel_rfl) (by kernel_rfl) hW.cls (Rd.pure fun _ => by kernel_rfl) ?_; clear hA ac; intro ac hA
  refine st hA (by kernel_rfl) (by kernel_rfl) (by kernel_rfl) (Runs.callS (v := Value.bool false) (fun _ => by kernel_rfl) (e_none p b w (show _ = _ from (hW).getG 0 rfl)) ?_); clear hA ac; intro  ac hA
  refine wpList_nil ?_
  refine thenN ?_
  refine wp_cond_false (hA.eval (by kernel_rfl)) ?_
  refine wp_skip ?_
  refine thenN ?_
  refine wp_seq ?_
  refine wp_region_lit ?_
  refine st_rd (v := Value.pointer (some ⟨p, 0, none⟩)) hA (by kernel_rfl) (by kernel_rfl) (by kernel_rfl) hW.cls (Rd.pure fun _ => by kernel_rfl) ?_; clear hA ac; intro ac hA
  refine st_rd (v := Value.pointer (some ⟨p, 0, none⟩)) hA (by kernel_rfl) (by kernel_rfl) (by kernel_rfl) hW.cls (Rd.pure fun _ => by kernel_rfl) ?_; clear hA ac; intro ac hA
  refine st_rd (v := Value.pointer (some ⟨p, 0, none⟩)) hA (by kernel_rfl) (by kernel_rfl) (by kernel_rfl) hW.cls (Rd.pure fun _ => by kernel_rfl) ?_; clear hA ac; intro ac hA
  refine st_rd (v := Value.map (some b)) hA (by kernel_rfl) (by kernel_rfl) (by kernel_rfl) hW.cls (Rd.load (b := p) (i := 0) (by kernel_rfl) (fun _ hw => show _ = _ from (hw.1).getG 0 rfl) (by kernel_rfl)) ?_; clear hA ac; intro ac hA
  refine st_rd (v := Value.int .i64 h) hA (by kernel_rfl) (by kernel_rfl) (by kernel_rfl) hW.cls (Rd.pure fun _ => by kernel_rfl) ?_; clear hA ac; intro ac hA
  rcases hk1 : look (outs V) (h : Int) with _ | bk2
  · skip
    first
    | (exfalso; clear hA hW; omega)
    | (
        refine st_rd (v := Value.map none) hA (by kernel_rfl) (by kernel_rfl) (by kernel_rfl) hW.cls ((Rd.lookup (k := 3) (e := 69) (ek := (fun a : Int => Value.int .i64 a)) (ev := (fun x_ : Nat => Value.map (some x_))) (m := (outs V)) (z := Value.map none) (h : Int) false (by kernel_rfl) (by kernel_rfl) (KeyE.int (by kernel_rfl)) (by kernel_rfl) (fun _ => by kernel_rfl) (fun _ hw => (hw.1).getG 1 rfl)).cast (by rw [hk1]; rfl)) ?_; clear hA ac; intro ac hA
        refine st_rd (v := Value.map none) hA (by kernel_rfl) (by kernel_rfl) (by kernel_rfl) hW.cls (Rd.pure fun _ => by kernel_rfl) ?_; clear hA ac; intro ac hA
        refine wpList_nil ?_
        refine thenN ?_
        refine wp_ret ?_
        refine ret1 (v := Value.map none) (by rfl) hA (Got.tmp hA (by kernel_rfl) (by kernel_rfl)) ?_
        clear hA
        exact ⟨retv (by first | rfl | (rw [hk1])), hW.fr⟩)
  · skip
    first
    | (exfalso; clear hA hW; omega)
    | (
        obtain ⟨i3, c4, hi5, hv6⟩ := outs_at hk1
        have hW := hW.subG 2 rfl hi5
        replace hW : Ws w No [] [mapR bk2 (fun a : Int => Value.int .i64 a) Mark.v c4, Cel p #[Value.map (some b)] 62, mapR b (fun a : Int => Value.int .i64 a) (fun x_ : Nat => Value.map (some x_)) (outs V), SubR (fun (c_ : List (Int × Mark)) (b_ : Nat) => mapR b_ (fun a : Int => Value.int .i64 a) Mark.v c_) V] w := hW
        refine st_rd (v := Value.map (some bk2)) hA (by kernel_rfl) (by kernel_rfl) (by kernel_rfl) hW.cls ((Rd.lookup (k := 3) (e := 69) (ek := (fun a : Int => Value.int .i64 a)) (ev := (fun x_ : Nat => Value.map (some x_))) (m := (outs V)) (z := Value.map none) (h : Int) false (by kernel_rfl) (by kernel_rfl) (KeyE.int (by kernel_rfl)) (by kernel_rfl) (fun _ => by kernel_rfl) (fun _ hw => (hw.1).getG 2 rfl)).cast (by rw [hk1]; rfl)) ?_; clear hA ac; intro ac hA
        refine st_rd (v := Value.map (some bk2)) hA (by kernel_rfl) (by kernel_rfl) (by kernel_rfl) hW.cls (Rd.pure fun _ => by kernel_rfl) ?_; clear hA ac; intro ac hA
        refine wpList_nil ?_
        refine thenN ?_
        refine wp_ret ?_
        refine ret1 (v := Value.map (some bk2)) (by rfl) hA (Got.tmp hA (by kernel_rfl) (by kernel_rfl)) ?_
        clear hA
        exact ⟨retv (by first | rfl | (rw [hk1])), hW.fr⟩)

set_option maxRecDepth 100000 in
theorem e_get (p : Nat) (b : Nat) (V : List (Int × Nat × List (Int × Mark))) (h : Int) (id : Int) (w : World) (ho_p : (PoolR p b V).p w) (hl_p : ∀ x_ ∈ (PoolR p b V).fp, x_ < w.heap.size) : Calls Try.prog 21 #[Value.pointer (some ⟨p, 0, none⟩), Value.int .i64 h, Value.int .i64 id] w (fun e w' => e = .returned (Value.tuple #[((getP (vals V) h id).getD (⟨0, ⟨0, 0⟩⟩ : Mark)).v, Value.bool (getP (vals V) h id).isSome]) ∧ Fr No w w') := by
  have _hu := ho_p; have _hv := hl_p; clear _hu _hv
  refine enter_E 20 Try.func21 rfl rfl (by kernel_rfl) (L := [(0, Value.pointer (some ⟨p, 0, none⟩)), (1, Value.int .i64 h), (2, Value.int .i64 id)]) (by kernel_rfl) ?_
  intro ac hA
  have hW := Ws.start w No
  have hW := hW.addG (PoolR p b V) ho_p hl_p (by simp)
  have hW := hW.objG (L := [Cel p #[Value.map (some b)] 62, mapR b (fun a : Int => Value.int .i64 a) (fun x_ : Nat => Value.map (some x_)) (outs V), SubR (fun (c_ : List (Int × Mark)) (b_ : Nat) => mapR b_ (fun a : Int => Value.int .i64 a) Mark.v c_) V]) ho_p hl_p
  clear ho_p hl_p
  refine wp_seq ?_
  refine wp_region_lit ?_
  refine st hA (by kernel_rfl) (by kernel_rfl) (by kernel_rfl) (Runs.cells (fun b => Value.pointer (some ⟨b, 0, none⟩)) #[Value.int .u64 0, Value.int .i64 0, Value.int .i64 0] 32 (fun _ => by kernel_rfl) hW ?_); clear hA ac hW; intro b1 w2 hW hb1 hfw2 ac hA
  refine st_rd (v := Value.bool false) hA (by kernel_rfl) (by kernel_rfl) (by kernel_rfl) hW.cls (Rd.pure fun _ => by kernel_rfl) ?_; clear hA ac; intro ac hA
  refine wpList_nil ?_
  refine thenN ?_
  refine wp_seq ?_
  rcases hk3 : look (outs V) (h : Int) with _ | bk4
  · skip
    first
    | (exfalso; clear hA hW; omega)
    | (
        refine wp_region_lit ?_
        refine st_rd (v := Value.pointer (some ⟨p, 0, none⟩)) hA (by kernel_rfl) (by kernel_rfl) (by kernel_rfl) hW.cls (Rd.pure fun _ => by kernel_rfl) ?_; clear hA ac; intro ac hA
        refine st_rd (v := Value.int .i64 h) hA (by kernel_rfl) (by kernel_rfl) (by kernel_rfl) hW.cls (Rd.pure fun _ => by kernel_rfl) ?_; clear hA ac; intro ac hA
        refine st hA (by kernel_rfl) (by kernel_rfl) (by kernel_rfl) (Runs.callN (v := Value.map none) (fun _ => by kernel_rfl) hW ((by have h_ := e_of p b V (h) w2 ((hW).getG 3 rfl) ((hW).glt _ (List.mem_of_getElem? (i := 3) rfl)); rw [hk3] at h_; exact h_)) ?_); clear hA ac hW; intro w5 hW hfw5 ac hA
        refine st_rd (v := Value.int .i64 id) hA (by kernel_rfl) (by kernel_rfl) (by kernel_rfl) hW.cls (Rd.pure fun _ => by kernel_rfl) ?_; clear hA ac; intro ac hA
        refine st_rd (v := Value.tuple #[(⟨0, ⟨0, 0⟩⟩ : Mark).v, Value.bool false]) hA (by kernel_rfl) (by kernel_rfl) (by kernel_rfl) hW.cls (Rd.lookupNil (k := 3) (e := 32) (ek := (fun a : Int => Value.int .i64 a)) (z := (⟨0, ⟨0, 0⟩⟩ : Mark).v) (id : Int) true (by kernel_rfl) (by kernel_rfl) (KeyE.int (by kernel_rfl)) (by kernel_rfl) (fun _ => by kernel_rfl)) ?_; clear hA ac; intro ac hA
        refine st_rd (v := Value.tuple #[(⟨0, ⟨0, 0⟩⟩ : Mark).v, Value.bool false]) hA (by kernel_rfl) (by kernel_rfl) (by kernel_rfl) hW.cls (Rd.pure fun _ => by kernel_rfl) ?_; clear hA ac; intro ac hA
        refine st_rd (v := (⟨0, ⟨0, 0⟩⟩ : Mark).v) hA (by kernel_rfl) (by kernel_rfl) (by kernel_rfl) hW.cls (Rd.pure fun _ => by kernel_rfl) ?_; clear hA ac; intro ac hA
        refine st_rd (v := Value.bool false) hA (by kernel_rfl) (by kernel_rfl) (by kernel_rfl) hW.cls (Rd.pure fun _ => by kernel_rfl) ?_; clear hA ac; intro ac hA
        refine st hA (by kernel_rfl) (by kernel_rfl) (by kernel_rfl) (Runs.cells (fun b => Value.pointer (some ⟨b, 0, none⟩)) #[Value.int .u64 0, Value.int .i64 0, Value.int .i64 0] 32 (fun _ => by kernel_rfl) hW ?_); clear hA ac hW; intro b6 w7 hW hb6 hfw7 ac hA
        refine st hA (by kernel_rfl) (by kernel_rfl) (by kernel_rfl) (Runs.store (v := (⟨0, ⟨0, 0⟩⟩ : Mark).v) (b := b6) (j := 0) (n := 3) (cs' := #[Value.int .u64 (⟨0, ⟨0, 0⟩⟩ : Mark).clock, Value.int .i64 (⟨0, ⟨0, 0⟩⟩ : Mark).site.f, Value.int .i64 (⟨0, ⟨0, 0⟩⟩ : Mark).site.pc]) (H' := [Cel b6 #[Value.int .u64 (⟨0, ⟨0, 0⟩⟩ : Mark).clock, Value.int .i64 (⟨0, ⟨0, 0⟩⟩ : Mark).site.f, Value.int .i64 (⟨0, ⟨0, 0⟩⟩ : Mark).site.pc] 32, Cel b1 #[Value.int .u64 0, Value.int .i64 0, Value.int .i64 0] 32]) (by kernel_rfl) (by kernel_rfl) (by kernel_rfl) (by kernel_rfl) (by kernel_rfl) hW 0 (by rfl) (Nat.le_of_ble_eq_true (by kernel_rfl)) (by kernel_rfl) (by rfl) ?_); clear hA ac hW; intro w8 hW ac hA
        refine st_rd (v := Value.bool false) hA (by kernel_rfl) (by kernel_rfl) (by kernel_rfl) hW.cls (Rd.pure fun _ => by kernel_rfl) ?_; clear hA ac; intro ac hA
        refine wpList_nil ?_
        refine thenN ?_
        refine wp_seq ?_
        refine wp_region_lit ?_
        refine st_rd (v := Value.agg #[Value.int .u64 (⟨0, ⟨0, 0⟩⟩ : Mark).clock, Value.int .i64 (⟨0, ⟨0, 0⟩⟩ : Mark).site.f, Value.int .i64 (⟨0, ⟨0, 0⟩⟩ : Mark).site.pc]) hA (by kernel_rfl) (by kernel_rfl) (by kernel_rfl) hW.cls (Rd.load (b := b6) (i := 0) (by kernel_rfl) (fun _ hw => (hw.1).cel 0 rfl) (by kernel_rfl)) ?_; clear hA ac; intro ac hA
        refine st_rd (v := Value.bool false) hA (by kernel_rfl) (by kernel_rfl) (by kernel_rfl) hW.cls (Rd.pure fun _ => by kernel_rfl) ?_; clear hA ac; intro ac hA
        refine st hA (by kernel_rfl) (by kernel_rfl) (by kernel_rfl) (Runs.store (v := Value.agg #[Value.int .u64 (⟨0, ⟨0, 0⟩⟩ : Mark).clock, Value.int .i64 (⟨0, ⟨0, 0⟩⟩ : Mark).site.f, Value.int .i64 (⟨0, ⟨0, 0⟩⟩ : Mark).site.pc]) (b := b1) (j := 0) (n := 3) (cs' := #[Value.int .u64 (⟨0, ⟨0, 0⟩⟩ : Mark).clock, Value.int .i64 (⟨0, ⟨0, 0⟩⟩ : Mark).site.f, Value.int .i64 (⟨0, ⟨0, 0⟩⟩ : Mark).site.pc]) (H' := [Cel b6 #[Value.int .u64 (⟨0, ⟨0, 0⟩⟩ : Mark).clock, Value.int .i64 (⟨0, ⟨0, 0⟩⟩ : Mark).site.f, Value.int .i64 (⟨0, ⟨0, 0⟩⟩ : Mark).site.pc] 32, Cel b1 #[Value.int .u64 (⟨0, ⟨0, 0⟩⟩ : Mark).clock, Value.int .i64 (⟨0, ⟨0, 0⟩⟩ : Mark).site.f, Value.int .i64 (⟨0, ⟨0, 0⟩⟩ : Mark).site.pc] 32]) (by kernel_rfl) (by kernel_rfl) (by kernel_rfl) (by kernel_rfl) (by kernel_rfl) hW 1 (by rfl) (Nat.le_of_ble_eq_true (by kernel_rfl)) (by kernel_rfl) (by rfl) ?_); clear hA ac hW; intro w9 hW ac hA
        refine st_rd (v := Value.bool false) hA (by kernel_rfl) (by kernel_rfl) (by kernel_rfl) hW.cls (Rd.pure fun _ => by kernel_rfl) ?_; clear hA ac; intro ac hA
        refine wpList_nil ?_
        refine thenN ?_
        refine wp_ret ?_
        refine ret2 (v1 := Value.agg #[Value.int .u64 (⟨0, ⟨0, 0⟩⟩ : Mark).clock, Value.int .i64 (⟨0, ⟨0, 0⟩⟩ : Mark).site.f, Value.int .i64 (⟨0, ⟨0, 0⟩⟩ : Mark).site.pc]) (v2 := Value.bool false) (by rfl) hA (Got.cell (b := b1) (i := 0) hA (by kernel_rfl) (by kernel_rfl) (hW.cel 1 rfl) (by kernel_rfl)) (Got.tmp hA (by kernel_rfl) (by kernel_rfl)) ?_
        clear hA
        exact ⟨retv (by unfold getP; rw [outs_none.1 hk3]; rfl), hW.fr⟩)
  · skip
    first
    | (exfalso; clear hA hW; omega)
    | (
        obtain ⟨i10, c11, hi12, hv13⟩ := outs_at hk3
        have hW := hW.subG 2 rfl hi12
        replace hW : Ws w No [Cel b1 #[Value.int .u64 0, Value.int .i64 0, Value.int .i64 0] 32] [mapR bk4 (fun a : Int => Value.int .i64 a) Mark.v c11, Cel p #[Value.map (some b)] 62, mapR b (fun a : Int => Value.int .i64 a) (fun x_ : Nat => Value.map (some x_)) (outs V), SubR (fun (c_ : List (Int × Mark)) (b_ : Nat) => mapR b_ (fun a : Int => Value.int .i64 a) Mark.v c_) V, PoolR p b V] w2 := hW
        refine wp_region_lit ?_
        refine st_rd (v := Value.pointer (some ⟨p, 0, none⟩)) hA (by kernel_rfl) (by kernel_rfl) (by kernel_rfl) hW.cls (Rd.pure fun _ => by kernel_rfl) ?_; clear hA ac; intro ac hA
        refine st_rd (v := Value.int .i64 h) hA (by kernel_rfl) (by kernel_rfl) (by kernel_rfl) hW.cls (Rd.pure fun _ => by kernel_rfl) ?_; clear hA ac; intro ac hA
        refine st hA (by kernel_rfl) (by kernel_rfl) (by kernel_rfl) (Runs.callN (v := Value.map (some bk4)) (fun _ => by kernel_rfl) hW ((by have h_ := e_of p b V (h) w2 ((hW).getG 4 rfl) ((hW).glt _ (List.mem_of_getElem? (i := 4) rfl)); rw [hk3] at h_; exact h_)) ?_); clear hA ac hW; intro w14 hW hfw14 ac hA
        refine st_rd (v := Value.int .i64 id) hA (by kernel_rfl) (by kernel_rfl) (by kernel_rfl) hW.cls (Rd.pure fun _ => by kernel_rfl) ?_; clear hA ac; intro ac hA
        refine st_rd (v := Value.tuple #[((look c11 (id : Int)).getD (⟨0, ⟨0, 0⟩⟩ : Mark)).v, Value.bool (look c11 (id : Int)).isSome]) hA (by kernel_rfl) (by kernel_rfl) (by kernel_rfl) hW.cls ((Rd.lookup (k := 3) (e := 32) (ek := (fun a : Int => Value.int .i64 a)) (ev := Mark.v) (m := c11) (z := (⟨0, ⟨0, 0⟩⟩ : Mark).v) (id : Int) true (by kernel_rfl) (by kernel_rfl) (KeyE.int (by kernel_rfl)) (by kernel_rfl) (fun _ => by kernel_rfl) (fun _ hw => (hw.1).getG 0 rfl)).cast (by generalize look c11 (id : Int) = o_; cases o_ <;> rfl)) ?_; clear hA ac; intro ac hA
        refine st_rd (v := Value.tuple #[((look c11 (id : Int)).getD (⟨0, ⟨0, 0⟩⟩ : Mark)).v, Value.bool (look c11 (id : Int)).isSome]) hA (by kernel_rfl) (by kernel_rfl) (by kernel_rfl) hW.cls (Rd.pure fun _ => by kernel_rfl) ?_; clear hA ac; intro ac hA
        refine st_rd (v := ((look c11 (id : Int)).getD (⟨0, ⟨0, 0⟩⟩ : Mark)).v) hA (by kernel_rfl) (by kernel_rfl) (by kernel_rfl) hW.cls (Rd.pure fun _ => by kernel_rfl) ?_; clear hA ac; intro ac hA
        refine st_rd (v := Value.bool (look c11 (id : Int)).isSome) hA (by kernel_rfl) (by kernel_rfl) (by kernel_rfl) hW.cls (Rd.pure fun _ => by kernel_rfl) ?_; clear hA ac; intro ac hA
        refine st hA (by kernel_rfl) (by kernel_rfl) (by kernel_rfl) (Runs.cells (fun b => Value.pointer (some ⟨b, 0, none⟩)) #[Value.int .u64 0, Value.int .i64 0, Value.int .i64 0] 32 (fun _ => by kernel_rfl) hW ?_); clear hA ac hW; intro b15 w16 hW hb15 hfw16 ac hA
        refine st hA (by kernel_rfl) (by kernel_rfl) (by kernel_rfl) (Runs.store (v := ((look c11 (id : Int)).getD (⟨0, ⟨0, 0⟩⟩ : Mark)).v) (b := b15) (j := 0) (n := 3) (cs' := #[Value.int .u64 ((look c11 (id : Int)).getD (⟨0, ⟨0, 0⟩⟩ : Mark)).clock, Value.int .i64 ((look c11 (id : Int)).getD (⟨0, ⟨0, 0⟩⟩ : Mark)).site.f, Value.int .i64 ((look c11 (id : Int)).getD (⟨0, ⟨0, 0⟩⟩ : Mark)).site.pc]) (H' := [Cel b15 #[Value.int .u64 ((look c11 (id : Int)).getD (⟨0, ⟨0, 0⟩⟩ : Mark)).clock, Value.int .i64 ((look c11 (id : Int)).getD (⟨0, ⟨0, 0⟩⟩ : Mark)).site.f, Value.int .i64 ((look c11 (id : Int)).getD (⟨0, ⟨0, 0⟩⟩ : Mark)).site.pc] 32, Cel b1 #[Value.int .u64 0, Value.int .i64 0, Value.int .i64 0] 32]) (by kernel_rfl) (by kernel_rfl) (by kernel_rfl) (by kernel_rfl) (by kernel_rfl) hW 0 (by rfl) (Nat.le_of_ble_eq_true (by kernel_rfl)) (by kernel_rfl) (by rfl) ?_); clear hA ac hW; intro w17 hW ac hA
        refine st_rd (v := Value.bool (look c11 (id : Int)).isSome) hA (by kernel_rfl) (by kernel_rfl) (by kernel_rfl) hW.cls (Rd.pure fun _ => by kernel_rfl) ?_; clear hA ac; intro ac hA
        refine wpList_nil ?_
        refine thenN ?_
        refine wp_seq ?_
        refine wp_region_lit ?_
        refine st_rd (v := Value.agg #[Value.int .u64 ((look c11 (id : Int)).getD (⟨0, ⟨0, 0⟩⟩ : Mark)).clock, Value.int .i64 ((look c11 (id : Int)).getD (⟨0, ⟨0, 0⟩⟩ : Mark)).site.f, Value.int .i64 ((look c11 (id : Int)).getD (⟨0, ⟨0, 0⟩⟩ : Mark)).site.pc]) hA (by kernel_rfl) (by kernel_rfl) (by kernel_rfl) hW.cls (Rd.load (b := b15) (i := 0) (by kernel_rfl) (fun _ hw => (hw.1).cel 0 rfl) (by kernel_rfl)) ?_; clear hA ac; intro ac hA
        refine st_rd (v := Value.bool (look c11 (id : Int)).isSome) hA (by kernel_rfl) (by kernel_rfl) (by kernel_rfl) hW.cls (Rd.pure fun _ => by kernel_rfl) ?_; clear hA ac; intro ac hA
        refine st hA (by kernel_rfl) (by kernel_rfl) (by kernel_rfl) (Runs.store (v := Value.agg #[Value.int .u64 ((look c11 (id : Int)).getD (⟨0, ⟨0, 0⟩⟩ : Mark)).clock, Value.int .i64 ((look c11 (id : Int)).getD (⟨0, ⟨0, 0⟩⟩ : Mark)).site.f, Value.int .i64 ((look c11 (id : Int)).getD (⟨0, ⟨0, 0⟩⟩ : Mark)).site.pc]) (b := b1) (j := 0) (n := 3) (cs' := #[Value.int .u64 ((look c11 (id : Int)).getD (⟨0, ⟨0, 0⟩⟩ : Mark)).clock, Value.int .i64 ((look c11 (id : Int)).getD (⟨0, ⟨0, 0⟩⟩ : Mark)).site.f, Value.int .i64 ((look c11 (id : Int)).getD (⟨0, ⟨0, 0⟩⟩ : Mark)).site.pc]) (H' := [Cel b15 #[Value.int .u64 ((look c11 (id : Int)).getD (⟨0, ⟨0, 0⟩⟩ : Mark)).clock, Value.int .i64 ((look c11 (id : Int)).getD (⟨0, ⟨0, 0⟩⟩ : Mark)).site.f, Value.int .i64 ((look c11 (id : Int)).getD (⟨0, ⟨0, 0⟩⟩ : Mark)).site.pc] 32, Cel b1 #[Value.int .u64 ((look c11 (id : Int)).getD (⟨0, ⟨0, 0⟩⟩ : Mark)).clock, Value.int .i64 ((look c11 (id : Int)).getD (⟨0, ⟨0, 0⟩⟩ : Mark)).site.f, Value.int .i64 ((look c11 (id : Int)).getD (⟨0, ⟨0, 0⟩⟩ : Mark)).site.pc] 32]) (by kernel_rfl) (by kernel_rfl) (by kernel_rfl) (by kernel_rfl) (by kernel_rfl) hW 1 (by rfl) (Nat.le_of_ble_eq_true (by kernel_rfl)) (by kernel_rfl) (by rfl) ?_); clear hA ac hW; intro w18 hW ac hA
        refine st_rd (v := Value.bool (look c11 (id : Int)).isSome) hA (by kernel_rfl) (by kernel_rfl) (by kernel_rfl) hW.cls (Rd.pure fun _ => by kernel_rfl) ?_; clear hA ac; intro ac hA
        refine wpList_nil ?_
        refine thenN ?_
        refine wp_ret ?_
        refine ret2 (v1 := Value.agg #[Value.int .u64 ((look c11 (id : Int)).getD (⟨0, ⟨0, 0⟩⟩ : Mark)).clock, Value.int .i64 ((look c11 (id : Int)).getD (⟨0, ⟨0, 0⟩⟩ : Mark)).site.f, Value.int .i64 ((look c11 (id : Int)).getD (⟨0, ⟨0, 0⟩⟩ : Mark)).site.pc]) (v2 := Value.bool (look c11 (id : Int)).isSome) (by rfl) hA (Got.cell (b := b1) (i := 0) hA (by kernel_rfl) (by kernel_rfl) (hW.cel 1 rfl) (by kernel_rfl)) (Got.tmp hA (by kernel_rfl) (by kernel_rfl)) ?_
        clear hA
        exact ⟨retv (by unfold getP; rw [hv13]; rfl), hW.fr⟩)

set_option maxRecDepth 100000 in
theorem e_rising_marks (b : Nat) (h : List (Int × Nat)) (w : World) (ho_x : (mapR b (fun a : Int => Value.int .i64 a) (fun x_ : Nat => Value.map (some x_)) h).p w) (hl : h.length ≤ 100000) (hb : ∀ x ∈ h, 0 ≤ x.1 ∧ x.1 ≤ 65536) : Calls Try.prog 24 #[Value.map (some b)] w (fun e w' => ∃ ks : List Int, ∃ (A_o : Option Addr) (c_o : Nat), e = .returned (Value.slice A_o (ks).length c_o) ∧ (ks.Perm (keys h)) ∧ (ks.Pairwise fun x y => x ≤ y) ∧ (ks).length ≤ c_o ∧ Made (rowR 3 1 enI (.slice A_o (ks).length c_o) ks) w w') := by
  have _hu := ho_x; clear _hu
  have _hu := hl; clear _hu
  have _hu := hb; clear _hu
  refine enter_E 7 Try.func24 rfl rfl (by kernel_rfl) (L := [(0, Value.map (some b))]) (by kernel_rfl) ?_
  intro ac hA
  have hW := Ws.start w No
  have hW := hW.mapG ho_x
  refine wp_seq ?_
  refine wp_region_lit ?_
  refine st_rd (v := Value.slice none 0 0) hA (by kernel_rfl) (by kernel_rfl) (by kernel_rfl) hW.cls (Rd.pure fun _ => by kernel_rfl) ?_; clear hA ac; intro ac hA
  refine wpList_nil ?_
  refine thenN ?_
  refine wp_seq ?_
  refine wp_region_lit ?_
  refine st_rd (v := Value.map (some b)) hA (by kernel_rfl) (by kernel_rfl) (by kernel_rfl) hW.cls (Rd.pure fun _ => by kernel_rfl) ?_; clear hA ac; intro ac hA
  refine st hA (by kernel_rfl) (by kernel_rfl) (by kernel_rfl) ((Runs.call (fun _ => by kernel_rfl) (e_keys_48 b h w ((hW).getG 0 rfl)) ?_))
  rintro _ w1 ⟨lb2, g3, rfl, hIg3, hfg3, hfw1⟩; refine ⟨_, rfl, ?_⟩; have hW0 := hW; have hW := hW0.call hfw1; have hW := hW0.addFromAt hW hfg3 (in_cons (in_at 0 rfl) in_nil); clear hW0 hA ac; intro ac hA
  refine st hA (by kernel_rfl) (by kernel_rfl) (by kernel_rfl) (Runs.call (fun _ => by kernel_rfl) (e_col_47_62 lb2 g3 (fun l_ => l_.Perm (keys h)) w1 hIg3 ((hW).getG 0 rfl) ((hW).glt _ (List.mem_of_getElem? (i := 0) rfl)) (fun l_ h_ => by have h2_ := h_.length_eq; simp only [keys, List.length_map] at h2_; omega)) ?_)
  rintro _ w4 ⟨g5, Ao6, co7, rfl, hw4_hS, hcco7, hu_⟩; refine ⟨_, rfl, ?_⟩; replace hW := hW.made hu_; clear hA ac; intro ac hA
  refine st hA (by kernel_rfl) (by kernel_rfl) (by kernel_rfl) (Runs.call (fun _ => by kernel_rfl) (e_sorted0 (A := Ao6) (c := co7) (l := g5) w4 (hW.get 0 rfl) (by have h_ := hw4_hS.length_eq; simp only [keys, List.length_map] at h_; omega) (fun x hx => by have h_ := (hw4_hS.mem_iff (a := x)).1 hx; simp only [keys, List.mem_map] at h_; obtain ⟨q_, hq_, rfl⟩ := h_; exact hb q_ hq_)) ?_)
  rintro _ w9 ⟨rfl, l10, hperm_, hsort_, hu_⟩; refine ⟨_, rfl, ?_⟩; have hlen_ := hperm_.length_eq; replace hW := hW.upd 0 rfl hu_ rfl; rw [← hlen_] at hW ⊢; clear hA ac; intro ac hA
  refine st_rd (v := Value.slice Ao6 l10.length co7) hA (by kernel_rfl) (by kernel_rfl) (by kernel_rfl) hW.cls (Rd.pure fun _ => by kernel_rfl) ?_; clear hA ac; intro ac hA
  refine wpList_nil ?_
  refine thenN ?_
  refine wp_ret ?_
  refine ret1 (v := Value.slice Ao6 l10.length co7) (by rfl) hA (Got.tmp hA (by kernel_rfl) (by kernel_rfl)) ?_
  clear hA
  exact ⟨l10, Ao6, co7, by first | rfl | (simp; done), by exact hperm_.trans hw4_hS, by exact hsort_, (own_cap ((hW).get 0 rfl)), hW.madeRow 0 rfl⟩

set_option maxRecDepth 100000 in
theorem e_rising_mark (b : Nat) (h : List (Int × Mark)) (w : World) (ho_x : (mapR b (fun a : Int => Value.int .i64 a) Mark.v h).p w) (hl : h.length ≤ 100000) (hb : ∀ x ∈ h, 0 ≤ x.1 ∧ x.1 ≤ 65536) : Calls Try.prog 30 #[Value.map (some b)] w (fun e w' => ∃ ks : List Int, ∃ (A_o : Option Addr) (c_o : Nat), e = .returned (Value.slice A_o (ks).length c_o) ∧ (ks.Perm (keys h)) ∧ (ks.Pairwise fun x y => x ≤ y) ∧ (ks).length ≤ c_o ∧ Made (rowR 3 1 enI (.slice A_o (ks).length c_o) ks) w w') := by
  have _hu := ho_x; clear _hu
  have _hu := hl; clear _hu
  have _hu := hb; clear _hu
  refine enter_E 7 Try.func30 rfl rfl (by kernel_rfl) (L := [(0, Value.map (some b))]) (by kernel_rfl) ?_
  intro ac hA
  have hW := Ws.start w No
  have hW := hW.mapG ho_x
  refine wp_seq ?_
  refine wp_region_lit ?_
  refine st_rd (v := Value.slice none 0 0) hA (by kernel_rfl) (by kernel_rfl) (by kernel_rfl) hW.cls (Rd.pure fun _ => by kernel_rfl) ?_; clear hA ac; intro ac hA
  refine wpList_nil ?_
  refine thenN ?_
  refine wp_seq ?_
  refine wp_region_lit ?_
  refine st_rd (v := Value.map (some b)) hA (by kernel_rfl) (by kernel_rfl) (by kernel_rfl) hW.cls (Rd.pure fun _ => by kernel_rfl) ?_; clear hA ac; intro ac hA
  refine st hA (by kernel_rfl) (by kernel_rfl) (by kernel_rfl) ((Runs.call (fun _ => by kernel_rfl) (e_keys_52 b h w ((hW).getG 0 rfl)) ?_))
  rintro _ w1 ⟨lb2, g3, rfl, hIg3, hfg3, hfw1⟩; refine ⟨_, rfl, ?_⟩; have hW0 := hW; have hW := hW0.call hfw1; have hW := hW0.addFromAt hW hfg3 (in_cons (in_at 0 rfl) in_nil); clear hW0 hA ac; intro ac hA
  refine st hA (by kernel_rfl) (by kernel_rfl) (by kernel_rfl) (Runs.call (fun _ => by kernel_rfl) (e_col_47_64 lb2 g3 (fun l_ => l_.Perm (keys h)) w1 hIg3 ((hW).getG 0 rfl) ((hW).glt _ (List.mem_of_getElem? (i := 0) rfl)) (fun l_ h_ => by have h2_ := h_.length_eq; simp only [keys, List.length_map] at h2_; omega)) ?_)
  rintro _ w4 ⟨g5, Ao6, co7, rfl, hw4_hS, hcco7, hu_⟩; refine ⟨_, rfl, ?_⟩; replace hW := hW.made hu_; clear hA ac; intro ac hA
  refine st hA (by kernel_rfl) (by kernel_rfl) (by kernel_rfl) (Runs.call (fun _ => by kernel_rfl) (e_sorted1 (A := Ao6) (c := co7) (l := g5) w4 (hW.get 0 rfl) (by have h_ := hw4_hS.length_eq; simp only [keys, List.length_map] at h_; omega) (fun x hx => by have h_ := (hw4_hS.mem_iff (a := x)).1 hx; simp only [keys, List.mem_map] at h_; obtain ⟨q_, hq_, rfl⟩ := h_; exact hb q_ hq_)) ?_)
  rintro _ w9 ⟨rfl, l10, hperm_, hsort_, hu_⟩; refine ⟨_, rfl, ?_⟩; have hlen_ := hperm_.length_eq; replace hW := hW.upd 0 rfl hu_ rfl; rw [← hlen_] at hW ⊢; clear hA ac; intro ac hA
  refine st_rd (v := Value.slice Ao6 l10.length co7) hA (by kernel_rfl) (by kernel_rfl) (by kernel_rfl) hW.cls (Rd.pure fun _ => by kernel_rfl) ?_; clear hA ac; intro ac hA
  refine wpList_nil ?_
  refine thenN ?_
  refine wp_ret ?_
  refine ret1 (v := Value.slice Ao6 l10.length co7) (by rfl) hA (Got.tmp hA (by kernel_rfl) (by kernel_rfl)) ?_
  clear hA
  exact ⟨l10, Ao6, co7, by first | rfl | (simp; done), by exact hperm_.trans hw4_hS, by exact hsort_, (own_cap ((hW).get 0 rfl)), hW.madeRow 0 rfl⟩

end Go.Proofs.Ytobbocpacacnhaa.L
