/- Contracts, walked by program over the engine's laws. -/
import Derived.Test.YtobbocpacacnhaaProg
import Derived.Test.YtobbocpacacnhaaT15
namespace Go.Proofs.Ytobbocpacacnhaa.L
open Go.RowKit

/-- Two maps of marks say the same. -/
def mEqM (h g : MarkM) : Prop := h.length = g.length ∧ ∀ x ∈ h, look g x.1 = some x.2
instance (h g : MarkM) : Decidable (mEqM h g) := by unfold mEqM; exact inferInstance
theorem eq_fact {α : Type} {o : Option α} {v z : α} (h1 : o.isSome = true) (h2 : v = o.getD z) : o = some v := by
  cases o with
  | none => cases h1
  | some a => rw [h2]; rfl
theorem ne_fact {α : Type} {o : Option α} {v z : α} (h2 : ¬ v = o.getD z) : ¬ o = some v := by
  intro e; rw [e] at h2; exact h2 rfl
/-- Two pools' maps say the same. -/
def vEq1 (B : List (Int × MarkM)) (x : Int × MarkM) : Bool := match look B x.1 with
  | some c => decide (mEqM x.2 c)
  | none => false
def vEq (A B : List (Int × MarkM)) : Bool := decide (A.length = B.length) && A.all (vEq1 B)
theorem vEq_len {V W : VT23} (h : V.length ≠ W.length) : vEq (vals V) (vals W) = false := by unfold vEq; rw [vals_len, vals_len, decide_eq_false h]; rfl
theorem vEq_no {V W : VT23} {e : Int × Nat × MarkM} (he : e ∈ V) (h : vEq1 (vals W) (e.1, e.2.2) = false) : vEq (vals V) (vals W) = false := by
  unfold vEq
  rw [Bool.and_eq_false_iff]
  exact .inr (List.all_eq_false.2 ⟨(e.1, e.2.2), List.mem_map.2 ⟨e, he, rfl⟩, by rw [h]; simp⟩)
theorem vEq_yes {V W : VT23} (hl : V.length = W.length) (h : ∀ e ∈ V, vEq1 (vals W) (e.1, e.2.2) = true) : vEq (vals V) (vals W) = true := by
  unfold vEq
  rw [vals_len, vals_len, decide_eq_true hl, Bool.true_and, List.all_eq_true]
  intro x hx
  obtain ⟨e, he, rfl⟩ := List.mem_map.1 hx
  exact h e he
set_option maxRecDepth 100000 in
theorem e_mapsEqual (b : Nat) (h : List (Int × Mark)) (b2 : Nat) (g : List (Int × Mark)) (w : World) (ho_x : (mapR b (fun a : Int => Value.int .i64 a) Mark.v h).p w) (ho_y : (mapR b2 (fun a : Int => Value.int .i64 a) Mark.v g).p w) (hl : h.length ≤ 100000 ∧ g.length ≤ 100000) : Calls Try.prog 45 #[Value.map (some b), Value.map (some b2)] w (fun e w' => e = .returned (Value.bool (decide (mEqM h g))) ∧ Fr No w w') := by
 have _hu := ho_x; clear _hu
 have _hu := ho_y; clear _hu
 have _hu := hl; clear _hu
 refine enter_E 34 Try.func45 rfl rfl (by kernel_rfl) (L := [(0, Value.map (some b)), (1, Value.map (some b2))]) (by kernel_rfl) ?_
 intro ac hA
 have hW := Ws.start w No
 have hW := hW.mapG ho_x
 have hW := hW.mapG ho_y
 refine wp_seq ?_
 refine wp_region_lit ?_
 refine st_rd (v := Value.bool false) hA (by kernel_rfl) (by kernel_rfl) (by kernel_rfl) hW.cls (Rd.pure fun _ => by kernel_rfl) ?_; clear hA ac; intro ac hA
 refine wpList_nil ?_
 refine thenN ?_
 refine wp_seq ?_
 refine wp_seq ?_
 refine wp_region_lit ?_
 refine st_rd (v := Value.map (some b)) hA (by kernel_rfl) (by kernel_rfl) (by kernel_rfl) hW.cls (Rd.pure fun _ => by kernel_rfl) ?_; clear hA ac; intro ac hA
 refine st_rd (v := Value.int .i64 (((h).length : Nat) : Int)) hA (by kernel_rfl) (by kernel_rfl) (by kernel_rfl) hW.cls (Rd.mapLen (k := 3) (e := 32) (ek := (fun a : Int => Value.int .i64 a)) (ev := Mark.v) (m := h) (by kernel_rfl) (by kernel_rfl) (fun _ hw => (hw.1).getG 1 rfl)) ?_; clear hA ac; intro ac hA
 refine st_rd (v := Value.map (some b2)) hA (by kernel_rfl) (by kernel_rfl) (by kernel_rfl) hW.cls (Rd.pure fun _ => by kernel_rfl) ?_; clear hA ac; intro ac hA
 refine st_rd (v := Value.int .i64 (((g).length : Nat) : Int)) hA (by kernel_rfl) (by kernel_rfl) (by kernel_rfl) hW.cls (Rd.mapLen (k := 3) (e := 32) (ek := (fun a : Int => Value.int .i64 a)) (ev := Mark.v) (m := g) (by kernel_rfl) (by kernel_rfl) (fun _ hw => (hw.1).getG 0 rfl)) ?_; clear hA ac; intro ac hA
 refine st_rd (v := Value.bool (((((h).length : Nat) : Int) : Int) != ((((g).length : Nat) : Int) : Int))) hA (by kernel_rfl) (by kernel_rfl) (by kernel_rfl) hW.cls (Rd.pure fun _ => by kernel_rfl) ?_; clear hA ac; intro ac hA
 refine wpList_nil ?_
 refine thenN ?_
 refine wp_cond_split (t := ((((h).length : Nat) : Int) : Int) != ((((g).length : Nat) : Int) : Int)) (hA.eval (by kernel_rfl)) (fun h1 => ?_) (fun h1 => ?_)
 · skip
   have h1 := bne_iff_ne.1 h1
   first
   | (exfalso; clear hA hW; omega)
   | (
     refine wp_seq ?_
     refine wp_region_lit ?_
     refine st_rd (v := Value.bool false) hA (by kernel_rfl) (by kernel_rfl) (by kernel_rfl) hW.cls (Rd.pure fun _ => by kernel_rfl) ?_; clear hA ac; intro ac hA
     refine wpList_nil ?_
     refine thenN ?_
     refine wp_ret ?_
     refine thenR ?_
     refine ret1 (v := Value.bool false) (by rfl) hA (Got.tmp hA (by kernel_rfl) (by kernel_rfl)) ?_
     clear hA
     refine ⟨retv (congrArg Value.bool (decide_eq_false ?_).symm), hW.fr⟩; intro hq; have := hq.1; omega)
 · skip
   have h1 := of_bne_f h1
   first
   | (exfalso; clear hA hW; omega)
   | (
     refine wp_skip ?_
     refine thenN ?_
     refine wp_seq ?_
     refine wp_seq ?_
     refine wp_region_lit ?_
     refine st_rd (v := Value.map (some b)) hA (by kernel_rfl) (by kernel_rfl) (by kernel_rfl) hW.cls (Rd.pure fun _ => by kernel_rfl) ?_; clear hA ac; intro ac hA
     refine st hA (by kernel_rfl) (by kernel_rfl) (by kernel_rfl) (Runs.range (k := 3) (e := 32) (ek := (fun a : Int => Value.int .i64 a)) (ev := Mark.v) (m := h) (by kernel_rfl) (by kernel_rfl) hW 1 rfl ?_); clear hA ac hW; intro r2 es3 ck4 w5 hnr2 hW hfw5 ac hA
     refine wpList_nil ?_
     refine thenN ?_
     refine wp_block ?_
     refine wp_loop_m (fun m_ ac_ wl_ => ∃ left : List (Int × Mark), ∃ cur : Option (Int × Mark), m_ = left.length ∧ (∀ x ∈ left, x ∈ h) ∧ (∀ x ∈ h, x ∈ left ∨ look g x.1 = some x.2) ∧ Fm 34 [] [(0, Value.map (some b)), (1, Value.map (some b2)), (15, Value.pointer (some ⟨r2, 0, none⟩))] ac_ ∧ Ws w No [IterX r2 b es3 ck4 (fun a : Int => Value.int .i64 a) Mark.v left cur] [MapX b es3 ck4, mapR b2 (fun a : Int => Value.int .i64 a) Mark.v g, mapR b (fun a : Int => Value.int .i64 a) Mark.v h] wl_) _ ⟨h, none, rfl, by exact fun _ hx => hx, by exact fun _ hx => .inl hx, hA.sub ⟨⟨by kernel_rfl, by kernel_rfl⟩, ⟨by kernel_rfl, by kernel_rfl⟩, ⟨by kernel_rfl, by kernel_rfl⟩, trivial⟩, (hW.pick [0] (by decide) rfl).pickG [0, 1, 2] rfl⟩ ?_
     clear hA ac hW; rintro m_ ac w6 ⟨left, cur, rfl, hsub, hdn, hA, hW⟩
     refine wp_seq ?_
     refine wp_region_lit ?_
     refine st hA (by kernel_rfl) (by kernel_rfl) (by kernel_rfl) ((Runs.next (ek := (fun a : Int => Value.int .i64 a)) (ev := Mark.v) (r := r2) (b := b) (es := es3) (clock := ck4) (left := left) (cur := cur) (by kernel_rfl) hnr2 hW 0 0 rfl rfl ?_ ?_))
     · skip
       intro hdoner2 ac hA
       refine st_rd (v := Value.bool false) hA (by kernel_rfl) (by kernel_rfl) (by kernel_rfl) hW.cls (Rd.pure fun _ => by kernel_rfl) ?_; clear hA ac; intro ac hA
       refine wpList_nil ?_
       refine thenN ?_
       refine wp_seq ?_
       refine wp_cond_false (hA.eval (by kernel_rfl)) ?_
       refine wp_exit ?_
       refine thenX ?_
       refine thenX ?_
       refine blkX ?_
       refine thenN ?_
       refine wp_seq ?_
       refine wp_region_lit ?_
       refine st_rd (v := Value.bool true) hA (by kernel_rfl) (by kernel_rfl) (by kernel_rfl) hW.cls (Rd.pure fun _ => by kernel_rfl) ?_; clear hA ac; intro ac hA
       refine wpList_nil ?_
       refine thenN ?_
       refine wp_ret ?_
       refine ret1 (v := Value.bool true) (by rfl) hA (Got.tmp hA (by kernel_rfl) (by kernel_rfl)) ?_
       clear hA
       refine ⟨retv (congrArg Value.bool (decide_eq_true ?_).symm), hW.fr⟩; exact ⟨by omega, fun x hx => (hdn x hx).resolve_left (by rw [hdoner2]; simp)⟩
     · skip
       clear hA ac; intro k7 y8 w9 hkk7 hW ac hA
       refine st_rd (v := Value.bool true) hA (by kernel_rfl) (by kernel_rfl) (by kernel_rfl) hW.cls (Rd.pure fun _ => by kernel_rfl) ?_; clear hA ac; intro ac hA
       refine wpList_nil ?_
       refine thenN ?_
       refine wp_seq ?_
       refine wp_cond_true (hA.eval (by kernel_rfl)) ?_
       refine wp_skip ?_
       refine thenN ?_
       refine wp_block ?_
       refine wp_seq ?_
       refine wp_region_lit ?_
       refine st_rd (v := Value.tuple #[Value.int .i64 y8.1, y8.2.v]) hA (by kernel_rfl) (by kernel_rfl) (by kernel_rfl) hW.cls (Rd.entry (ek := (fun a : Int => Value.int .i64 a)) (ev := Mark.v) (r := r2) (b := b) (es := es3) (clock := ck4) (left := (List.eraseIdx left k7)) (y := y8) (by kernel_rfl) hnr2 (fun _ hw => show _ = _ from (hw.1).getG 0 rfl) (fun _ hw => (hw.1).get 0 rfl)) ?_; clear hA ac; intro ac hA
       refine st_rd (v := Value.int .i64 y8.1) hA (by kernel_rfl) (by kernel_rfl) (by kernel_rfl) hW.cls (Rd.pure fun _ => by kernel_rfl) ?_; clear hA ac; intro ac hA
       refine st_rd (v := y8.2.v) hA (by kernel_rfl) (by kernel_rfl) (by kernel_rfl) hW.cls (Rd.pure fun _ => by kernel_rfl) ?_; clear hA ac; intro ac hA
       refine st hA (by kernel_rfl) (by kernel_rfl) (by kernel_rfl) (Runs.cells (fun b => Value.pointer (some ⟨b, 0, none⟩)) #[Value.int .u64 0, Value.int .i64 0, Value.int .i64 0] 32 (fun _ => by kernel_rfl) hW ?_); clear hA ac hW; intro b10 w11 hW hb10 hfw11 ac hA
       refine st_rd (v := Value.int .i64 y8.1) hA (by kernel_rfl) (by kernel_rfl) (by kernel_rfl) hW.cls (Rd.pure fun _ => by kernel_rfl) ?_; clear hA ac; intro ac hA
       refine st hA (by kernel_rfl) (by kernel_rfl) (by kernel_rfl) (Runs.store (v := y8.2.v) (b := b10) (j := 0) (n := 3) (cs' := #[Value.int .u64 y8.2.clock, Value.int .i64 y8.2.site.f, Value.int .i64 y8.2.site.pc]) (H' := [Cel b10 #[Value.int .u64 y8.2.clock, Value.int .i64 y8.2.site.f, Value.int .i64 y8.2.site.pc] 32, IterX r2 b es3 ck4 (fun a : Int => Value.int .i64 a) Mark.v (List.eraseIdx left k7) (some y8)]) (by kernel_rfl) (by kernel_rfl) (by kernel_rfl) (by kernel_rfl) (by kernel_rfl) hW 0 (by rfl) (Nat.le_of_ble_eq_true (by kernel_rfl)) (by kernel_rfl) (by rfl) ?_); clear hA ac hW; intro w12 hW ac hA
       refine wpList_nil ?_
       refine thenN ?_
       refine wp_seq ?_
       refine wp_region_lit ?_
       refine st_rd (v := Value.map (some b2)) hA (by kernel_rfl) (by kernel_rfl) (by kernel_rfl) hW.cls (Rd.pure fun _ => by kernel_rfl) ?_; clear hA ac; intro ac hA
       refine st_rd (v := Value.int .i64 y8.1) hA (by kernel_rfl) (by kernel_rfl) (by kernel_rfl) hW.cls (Rd.pure fun _ => by kernel_rfl) ?_; clear hA ac; intro ac hA
       refine st_rd (v := Value.tuple #[((look g (y8.1 : Int)).getD (⟨0, ⟨0, 0⟩⟩ : Mark)).v, Value.bool (look g (y8.1 : Int)).isSome]) hA (by kernel_rfl) (by kernel_rfl) (by kernel_rfl) hW.cls ((Rd.lookup (k := 3) (e := 32) (ek := (fun a : Int => Value.int .i64 a)) (ev := Mark.v) (m := g) (z := (⟨0, ⟨0, 0⟩⟩ : Mark).v) (y8.1 : Int) true (by kernel_rfl) (by kernel_rfl) (KeyE.int (by kernel_rfl)) (by kernel_rfl) (fun _ => by kernel_rfl) (fun _ hw => (hw.1).getG 1 rfl)).cast (by generalize look g (y8.1 : Int) = o_; cases o_ <;> rfl)) ?_; clear hA ac; intro ac hA
       refine st_rd (v := Value.tuple #[((look g (y8.1 : Int)).getD (⟨0, ⟨0, 0⟩⟩ : Mark)).v, Value.bool (look g (y8.1 : Int)).isSome]) hA (by kernel_rfl) (by kernel_rfl) (by kernel_rfl) hW.cls (Rd.pure fun _ => by kernel_rfl) ?_; clear hA ac; intro ac hA
       refine st_rd (v := ((look g (y8.1 : Int)).getD (⟨0, ⟨0, 0⟩⟩ : Mark)).v) hA (by kernel_rfl) (by kernel_rfl) (by kernel_rfl) hW.cls (Rd.pure fun _ => by kernel_rfl) ?_; clear hA ac; intro ac hA
       refine st_rd (v := Value.bool (look g (y8.1 : Int)).isSome) hA (by kernel_rfl) (by kernel_rfl) (by kernel_rfl) hW.cls (Rd.pure fun _ => by kernel_rfl) ?_; clear hA ac; intro ac hA
       refine st hA (by kernel_rfl) (by kernel_rfl) (by kernel_rfl) (Runs.cells (fun b => Value.pointer (some ⟨b, 0, none⟩)) #[Value.int .u64 0, Value.int .i64 0, Value.int .i64 0] 32 (fun _ => by kernel_rfl) hW ?_); clear hA ac hW; intro b13 w14 hW hb13 hfw14 ac hA
       refine st hA (by kernel_rfl) (by kernel_rfl) (by kernel_rfl) (Runs.store (v := ((look g (y8.1 : Int)).getD (⟨0, ⟨0, 0⟩⟩ : Mark)).v) (b := b13) (j := 0) (n := 3) (cs' := #[Value.int .u64 ((look g (y8.1 : Int)).getD (⟨0, ⟨0, 0⟩⟩ : Mark)).clock, Value.int .i64 ((look g (y8.1 : Int)).getD (⟨0, ⟨0, 0⟩⟩ : Mark)).site.f, Value.int .i64 ((look g (y8.1 : Int)).getD (⟨0, ⟨0, 0⟩⟩ : Mark)).site.pc]) (H' := [Cel b13 #[Value.int .u64 ((look g (y8.1 : Int)).getD (⟨0, ⟨0, 0⟩⟩ : Mark)).clock, Value.int .i64 ((look g (y8.1 : Int)).getD (⟨0, ⟨0, 0⟩⟩ : Mark)).site.f, Value.int .i64 ((look g (y8.1 : Int)).getD (⟨0, ⟨0, 0⟩⟩ : Mark)).site.pc] 32, Cel b10 #[Value.int .u64 y8.2.clock, Value.int .i64 y8.2.site.f, Value.int .i64 y8.2.site.pc] 32, IterX r2 b es3 ck4 (fun a : Int => Value.int .i64 a) Mark.v (List.eraseIdx left k7) (some y8)]) (by kernel_rfl) (by kernel_rfl) (by kernel_rfl) (by kernel_rfl) (by kernel_rfl) hW 0 (by rfl) (Nat.le_of_ble_eq_true (by kernel_rfl)) (by kernel_rfl) (by rfl) ?_); clear hA ac hW; intro w15 hW ac hA
       refine st_rd (v := Value.bool (look g (y8.1 : Int)).isSome) hA (by kernel_rfl) (by kernel_rfl) (by kernel_rfl) hW.cls (Rd.pure fun _ => by kernel_rfl) ?_; clear hA ac; intro ac hA
       refine wpList_nil ?_
       refine thenN ?_
       refine wp_seq ?_
       refine wp_region_lit ?_
       refine st_rd (v := Value.bool (look g (y8.1 : Int)).isSome) hA (by kernel_rfl) (by kernel_rfl) (by kernel_rfl) hW.cls (Rd.pure fun _ => by kernel_rfl) ?_; clear hA ac; intro ac hA
       refine st_rd (v := Value.bool (!(look g (y8.1 : Int)).isSome)) hA (by kernel_rfl) (by kernel_rfl) (by kernel_rfl) hW.cls (Rd.pure fun _ => by kernel_rfl) ?_; clear hA ac; intro ac hA
       refine st_rd (v := Value.bool (!(look g (y8.1 : Int)).isSome)) hA (by kernel_rfl) (by kernel_rfl) (by kernel_rfl) hW.cls (Rd.pure fun _ => by kernel_rfl) ?_; clear hA ac; intro ac hA
       rcases Bool.eq_false_or_eq_true (!(look g (y8.1 : Int)).isSome) with h16 | h16
       · skip
         rw [h16] at hA
         have h16 := not_t h16
         first
         | (exfalso; clear hA hW; omega)
         | (
           refine st_skip hA (by kernel_rfl) (by kernel_rfl) ?_; clear hA ac; intro ac hA
           refine st_skip hA (by kernel_rfl) (by kernel_rfl) ?_; clear hA ac; intro ac hA
           refine st_skip hA (by kernel_rfl) (by kernel_rfl) ?_; clear hA ac; intro ac hA
           refine st_rd (v := Value.bool true) hA (by kernel_rfl) (by kernel_rfl) (by kernel_rfl) hW.cls (Rd.pure fun _ => by kernel_rfl) ?_; clear hA ac; intro ac hA
           refine wpList_nil ?_
           refine thenN ?_
           refine wp_cond_true (hA.eval (by kernel_rfl)) ?_
           refine wp_seq ?_
           refine wp_region_lit ?_
           refine st_rd (v := Value.bool false) hA (by kernel_rfl) (by kernel_rfl) (by kernel_rfl) hW.cls (Rd.pure fun _ => by kernel_rfl) ?_; clear hA ac; intro ac hA
           refine wpList_nil ?_
           refine thenN ?_
           refine wp_ret ?_
           refine blkR ?_
           refine thenR ?_
           refine blkR ?_
           refine thenR ?_
           refine ret1 (v := Value.bool false) (by rfl) hA (Got.tmp hA (by kernel_rfl) (by kernel_rfl)) ?_
           clear hA
           refine ⟨retv (congrArg Value.bool (decide_eq_false ?_).symm), hW.fr⟩; intro hq; have hq2 := hq.2 y8 (hsub _ (List.mem_of_getElem? hkk7)); first | exact ne_fact h16 hq2 | (rw [hq2] at h16; cases h16))
       · skip
         rw [h16] at hA
         have h16 := not_f h16
         first
         | (exfalso; clear hA hW; omega)
         | (
           refine st_rd (v := Value.agg #[Value.int .u64 y8.2.clock, Value.int .i64 y8.2.site.f, Value.int .i64 y8.2.site.pc]) hA (by kernel_rfl) (by kernel_rfl) (by kernel_rfl) hW.cls (Rd.load (b := b10) (i := 0) (by kernel_rfl) (fun _ hw => (hw.1).cel 1 rfl) (by kernel_rfl)) ?_; clear hA ac; intro ac hA
           refine st_rd (v := Value.agg #[Value.int .u64 ((look g (y8.1 : Int)).getD (⟨0, ⟨0, 0⟩⟩ : Mark)).clock, Value.int .i64 ((look g (y8.1 : Int)).getD (⟨0, ⟨0, 0⟩⟩ : Mark)).site.f, Value.int .i64 ((look g (y8.1 : Int)).getD (⟨0, ⟨0, 0⟩⟩ : Mark)).site.pc]) hA (by kernel_rfl) (by kernel_rfl) (by kernel_rfl) hW.cls (Rd.load (b := b13) (i := 0) (by kernel_rfl) (fun _ hw => (hw.1).cel 0 rfl) (by kernel_rfl)) ?_; clear hA ac; intro ac hA
           refine st_rd (v := Value.bool (!decide (y8.2 = ((look g (y8.1 : Int)).getD (⟨0, ⟨0, 0⟩⟩ : Mark))))) hA (by kernel_rfl) (by kernel_rfl) (by kernel_rfl) hW.cls (Rd.neS (u := y8.2.v) (v := ((look g (y8.1 : Int)).getD (⟨0, ⟨0, 0⟩⟩ : Mark)).v) (by kernel_rfl) (by kernel_rfl) rfl rfl (by kernel_rfl) (fun w => eq_Mark w y8.2 ((look g (y8.1 : Int)).getD (⟨0, ⟨0, 0⟩⟩ : Mark)))) ?_; clear hA ac; intro ac hA
           refine st_rd (v := Value.bool (!decide (y8.2 = ((look g (y8.1 : Int)).getD (⟨0, ⟨0, 0⟩⟩ : Mark))))) hA (by kernel_rfl) (by kernel_rfl) (by kernel_rfl) hW.cls (Rd.pure fun _ => by kernel_rfl) ?_; clear hA ac; intro ac hA
           refine wpList_nil ?_
           refine thenN ?_
           refine wp_cond_split (t := !decide (y8.2 = ((look g (y8.1 : Int)).getD (⟨0, ⟨0, 0⟩⟩ : Mark)))) (hA.eval (by kernel_rfl)) (fun h17 => ?_) (fun h17 => ?_)
           · skip
             have h17 := not_t h17
             have h17 := of_decide_eq_false h17
             have h17e := fun e => h17 ((Mark.eqi _ _).2 e)
             first
             | (exfalso; clear hA hW; omega)
             | (
               refine wp_seq ?_
               refine wp_region_lit ?_
               refine st_rd (v := Value.bool false) hA (by kernel_rfl) (by kernel_rfl) (by kernel_rfl) hW.cls (Rd.pure fun _ => by kernel_rfl) ?_; clear hA ac; intro ac hA
               refine wpList_nil ?_
               refine thenN ?_
               refine wp_ret ?_
               refine blkR ?_
               refine thenR ?_
               refine blkR ?_
               refine thenR ?_
               refine ret1 (v := Value.bool false) (by rfl) hA (Got.tmp hA (by kernel_rfl) (by kernel_rfl)) ?_
               clear hA
               refine ⟨retv (congrArg Value.bool (decide_eq_false ?_).symm), hW.fr⟩; intro hq; have hq2 := hq.2 y8 (hsub _ (List.mem_of_getElem? hkk7)); first | exact ne_fact h17 hq2 | (rw [hq2] at h17; cases h17))
           · skip
             have h17 := not_f h17
             have h17 := of_decide_eq_true h17
             have h17e := (Mark.eqi _ _).1 h17
             first
             | (exfalso; clear hA hW; omega)
             | (
               refine wp_skip ?_
               refine blkN ?_
               refine thenN ?_
               have hlt_ := er_len_ hkk7
               exact ⟨(List.eraseIdx left k7).length, by omega, List.eraseIdx left k7, (some y8), rfl, by intro x hx; exact hsub x (List.eraseIdx_subset hx), by intro x hx; rcases hdn x hx with h_ | h_; (rcases mem_er hkk7 h_ with h_ | h_; (subst h_; exact .inr (eq_fact ‹_› ‹_›)); exact .inl h_); exact .inr h_, hA.sub ⟨⟨by kernel_rfl, by kernel_rfl⟩, ⟨by kernel_rfl, by kernel_rfl⟩, ⟨by kernel_rfl, by kernel_rfl⟩, trivial⟩, (hW.pick [2] (by decide) rfl).pickG [0, 1, 2] rfl⟩)))

set_option maxRecDepth 100000 in
theorem e_same1 (b : Nat) (h : List (Int × Mark)) (b2 : Nat) (g : List (Int × Mark)) (w : World) (ho_x : (mapR b (fun a : Int => Value.int .i64 a) Mark.v h).p w) (ho_y : (mapR b2 (fun a : Int => Value.int .i64 a) Mark.v g).p w) (hl : h.length ≤ 100000 ∧ g.length ≤ 100000) : Calls Try.prog 44 #[Value.map (some b), Value.map (some b2)] w (fun e w' => e = .returned (Value.bool (decide (mEqM h g))) ∧ Fr No w w') := by
 have _hu := ho_x; clear _hu
 have _hu := ho_y; clear _hu
 have _hu := hl; clear _hu
 refine enter_E 8 Try.func44 rfl rfl (by kernel_rfl) (L := [(0, Value.map (some b)), (1, Value.map (some b2))]) (by kernel_rfl) ?_
 intro ac hA
 have hW := Ws.start w No
 have hW := hW.mapG ho_x
 have hW := hW.mapG ho_y
 refine wp_seq ?_
 refine wp_region_lit ?_
 refine st_rd (v := Value.bool false) hA (by kernel_rfl) (by kernel_rfl) (by kernel_rfl) hW.cls (Rd.pure fun _ => by kernel_rfl) ?_; clear hA ac; intro ac hA
 refine wpList_nil ?_
 refine thenN ?_
 refine wp_seq ?_
 refine wp_region_lit ?_
 refine st_rd (v := Value.map (some b)) hA (by kernel_rfl) (by kernel_rfl) (by kernel_rfl) hW.cls (Rd.pure fun _ => by kernel_rfl) ?_; clear hA ac; intro ac hA
 refine st_rd (v := Value.map (some b2)) hA (by kernel_rfl) (by kernel_rfl) (by kernel_rfl) hW.cls (Rd.pure fun _ => by kernel_rfl) ?_; clear hA ac; intro ac hA
 refine st hA (by kernel_rfl) (by kernel_rfl) (by kernel_rfl) (Runs.callN (v := Value.bool (decide (mEqM h g))) (fun _ => by kernel_rfl) hW (e_mapsEqual b h b2 g w ((hW).getG 1 rfl) ((hW).getG 0 rfl) (by first | omega | (simp; done))) ?_); clear hA ac hW; intro w1 hW hfw1 ac hA
 refine st_rd (v := Value.bool (decide (mEqM h g))) hA (by kernel_rfl) (by kernel_rfl) (by kernel_rfl) hW.cls (Rd.pure fun _ => by kernel_rfl) ?_; clear hA ac; intro ac hA
 refine wpList_nil ?_
 refine thenN ?_
 refine wp_ret ?_
 refine ret1 (v := Value.bool (decide (mEqM h g))) (by rfl) hA (Got.tmp hA (by kernel_rfl) (by kernel_rfl)) ?_
 clear hA
 exact ⟨retv (by rfl), hW.fr⟩

set_option maxRecDepth 100000 in
theorem e_equalFunc (b : Nat) (V : VT23) (b2 : Nat) (W : VT23) (w : World) (ho_x : (mapR b (fun a : Int => Value.int .i64 a) (fun x_ : Nat => Value.map (some x_)) (outs V)).p w) (hs_x : (SubR (fun (c_ : List (Int × Mark)) (b_ : Nat) => mapR b_ (fun a : Int => Value.int .i64 a) Mark.v c_) V).p w) (hl_x : ∀ x_ ∈ (SubR (fun (c_ : List (Int × Mark)) (b_ : Nat) => mapR b_ (fun a : Int => Value.int .i64 a) Mark.v c_) V).fp, x_ < w.heap.size) (ho_y : (mapR b2 (fun a : Int => Value.int .i64 a) (fun x_ : Nat => Value.map (some x_)) (outs W)).p w) (hs_y : (SubR (fun (c_ : List (Int × Mark)) (b_ : Nat) => mapR b_ (fun a : Int => Value.int .i64 a) Mark.v c_) W).p w) (hl_y : ∀ x_ ∈ (SubR (fun (c_ : List (Int × Mark)) (b_ : Nat) => mapR b_ (fun a : Int => Value.int .i64 a) Mark.v c_) W).fp, x_ < w.heap.size) (hl : V.length ≤ 100000 ∧ W.length ≤ 100000) (hV : ∀ e ∈ V, e.2.2.length ≤ 100000) (hWl : ∀ e ∈ W, e.2.2.length ≤ 100000) : Calls Try.prog 43 #[Value.map (some b), Value.map (some b2), Value.func (.func 44) #[] #[]] w (fun e w' => e = .returned (Value.bool (vEq (vals V) (vals W))) ∧ Fr No w w') := by
 have _hu := ho_x; clear _hu
 have _hu := ho_y; clear _hu
 have _hu := hl; clear _hu
 have _hu := hV; clear _hu
 have _hu := hWl; clear _hu
 refine enter_E 38 Try.func43 rfl rfl (by kernel_rfl) (L := [(0, Value.map (some b)), (1, Value.map (some b2)), (2, Value.func (.func 44) #[] #[])]) (by kernel_rfl) ?_
 intro ac hA
 have hW := Ws.start w No
 have hW := hW.mapG ho_x
 have hW := hW.addG (SubR (fun (c_ : List (Int × Mark)) (b_ : Nat) => mapR b_ (fun a : Int => Value.int .i64 a) Mark.v c_) V) hs_x hl_x (by simp)
 have hW := hW.mapG ho_y
 have hW := hW.addG (SubR (fun (c_ : List (Int × Mark)) (b_ : Nat) => mapR b_ (fun a : Int => Value.int .i64 a) Mark.v c_) W) hs_y hl_y (by simp)
 refine wp_seq ?_
 refine wp_region_lit ?_
 refine st_rd (v := Value.bool false) hA (by kernel_rfl) (by kernel_rfl) (by kernel_rfl) hW.cls (Rd.pure fun _ => by kernel_rfl) ?_; clear hA ac; intro ac hA
 refine wpList_nil ?_
 refine thenN ?_
 refine wp_seq ?_
 refine wp_seq ?_
 have hoV := outs_len (V := V); have hoW := outs_len (V := W)
 refine wp_region_lit ?_
 refine st_rd (v := Value.map (some b)) hA (by kernel_rfl) (by kernel_rfl) (by kernel_rfl) hW.cls (Rd.pure fun _ => by kernel_rfl) ?_; clear hA ac; intro ac hA
 refine st_rd (v := Value.int .i64 (((outs V).length : Nat) : Int)) hA (by kernel_rfl) (by kernel_rfl) (by kernel_rfl) hW.cls (Rd.mapLen (k := 3) (e := 69) (ek := (fun a : Int => Value.int .i64 a)) (ev := (fun x_ : Nat => Value.map (some x_))) (m := (outs V)) (by kernel_rfl) (by kernel_rfl) (fun _ hw => (hw.1).getG 3 rfl)) ?_; clear hA ac; intro ac hA
 refine st_rd (v := Value.map (some b2)) hA (by kernel_rfl) (by kernel_rfl) (by kernel_rfl) hW.cls (Rd.pure fun _ => by kernel_rfl) ?_; clear hA ac; intro ac hA
 refine st_rd (v := Value.int .i64 (((outs W).length : Nat) : Int)) hA (by kernel_rfl) (by kernel_rfl) (by kernel_rfl) hW.cls (Rd.mapLen (k := 3) (e := 69) (ek := (fun a : Int => Value.int .i64 a)) (ev := (fun x_ : Nat => Value.map (some x_))) (m := (outs W)) (by kernel_rfl) (by kernel_rfl) (fun _ hw => (hw.1).getG 1 rfl)) ?_; clear hA ac; intro ac hA
 refine st_rd (v := Value.bool (((((outs V).length : Nat) : Int) : Int) != ((((outs W).length : Nat) : Int) : Int))) hA (by kernel_rfl) (by kernel_rfl) (by kernel_rfl) hW.cls (Rd.pure fun _ => by kernel_rfl) ?_; clear hA ac; intro ac hA
 refine wpList_nil ?_
 refine thenN ?_
 refine wp_cond_split (t := ((((outs V).length : Nat) : Int) : Int) != ((((outs W).length : Nat) : Int) : Int)) (hA.eval (by kernel_rfl)) (fun h1 => ?_) (fun h1 => ?_)
 · skip
   have h1 := bne_iff_ne.1 h1
   first
   | (exfalso; clear hA hW; omega)
   | (
     refine wp_seq ?_
     refine wp_region_lit ?_
     refine st_rd (v := Value.bool false) hA (by kernel_rfl) (by kernel_rfl) (by kernel_rfl) hW.cls (Rd.pure fun _ => by kernel_rfl) ?_; clear hA ac; intro ac hA
     refine wpList_nil ?_
     refine thenN ?_
     refine wp_ret ?_
     refine thenR ?_
     refine ret1 (v := Value.bool false) (by rfl) hA (Got.tmp hA (by kernel_rfl) (by kernel_rfl)) ?_
     clear hA
     exact ⟨retv (congrArg Value.bool (vEq_len (by omega)).symm), hW.fr⟩)
 · skip
   have h1 := of_bne_f h1
   first
   | (exfalso; clear hA hW; omega)
   | (
     refine wp_skip ?_
     refine thenN ?_
     refine wp_seq ?_
     refine wp_seq ?_
     refine wp_region_lit ?_
     refine st_rd (v := Value.map (some b)) hA (by kernel_rfl) (by kernel_rfl) (by kernel_rfl) hW.cls (Rd.pure fun _ => by kernel_rfl) ?_; clear hA ac; intro ac hA
     refine st hA (by kernel_rfl) (by kernel_rfl) (by kernel_rfl) (Runs.range (k := 3) (e := 69) (ek := (fun a : Int => Value.int .i64 a)) (ev := (fun x_ : Nat => Value.map (some x_))) (m := (outs V)) (by kernel_rfl) (by kernel_rfl) hW 3 rfl ?_); clear hA ac hW; intro r2 es3 ck4 w5 hnr2 hW hfw5 ac hA
     refine wpList_nil ?_
     refine thenN ?_
     refine wp_block ?_
     refine wp_loop_m (fun m_ ac_ wl_ => ∃ Vl : VT23, ∃ cur : Option (Int × Nat), m_ = Vl.length ∧ (∀ e ∈ Vl, e ∈ V) ∧ (∀ e ∈ V, e ∈ Vl ∨ vEq1 (vals W) (e.1, e.2.2) = true) ∧ Fm 38 [] [(0, Value.map (some b)), (1, Value.map (some b2)), (2, Value.func (.func 44) #[] #[]), (17, Value.pointer (some ⟨r2, 0, none⟩))] ac_ ∧ Ws w No [IterX r2 b es3 ck4 (fun a : Int => Value.int .i64 a) (fun x_ : Nat => Value.map (some x_)) (outs Vl) cur] [MapX b es3 ck4, SubR (fun (c_ : List (Int × Mark)) (b_ : Nat) => mapR b_ (fun a : Int => Value.int .i64 a) Mark.v c_) W, mapR b2 (fun a : Int => Value.int .i64 a) (fun x_ : Nat => Value.map (some x_)) (outs W), SubR (fun (c_ : List (Int × Mark)) (b_ : Nat) => mapR b_ (fun a : Int => Value.int .i64 a) Mark.v c_) V, mapR b (fun a : Int => Value.int .i64 a) (fun x_ : Nat => Value.map (some x_)) (outs V)] wl_) _ ⟨V, none, rfl, by exact fun _ hx => hx, by exact fun _ hx => .inl hx, hA.sub ⟨⟨by kernel_rfl, by kernel_rfl⟩, ⟨by kernel_rfl, by kernel_rfl⟩, ⟨by kernel_rfl, by kernel_rfl⟩, ⟨by kernel_rfl, by kernel_rfl⟩, trivial⟩, (hW.pick [0] (by decide) rfl).pickG [0, 1, 2, 3, 4] rfl⟩ ?_
     clear hA ac hW; rintro m_ ac w6 ⟨Vl, cur, rfl, hsub, hdn, hA, hW⟩
     refine wp_seq ?_
     refine wp_region_lit ?_
     refine st hA (by kernel_rfl) (by kernel_rfl) (by kernel_rfl) ((Runs.next (ek := (fun a : Int => Value.int .i64 a)) (ev := (fun x_ : Nat => Value.map (some x_))) (r := r2) (b := b) (es := es3) (clock := ck4) (left := (outs Vl)) (cur := cur) (by kernel_rfl) hnr2 hW 0 0 rfl rfl ?_ ?_))
     · skip
       intro hdoner2 ac hA
       refine st_rd (v := Value.bool false) hA (by kernel_rfl) (by kernel_rfl) (by kernel_rfl) hW.cls (Rd.pure fun _ => by kernel_rfl) ?_; clear hA ac; intro ac hA
       refine wpList_nil ?_
       refine thenN ?_
       refine wp_seq ?_
       refine wp_cond_false (hA.eval (by kernel_rfl)) ?_
       refine wp_exit ?_
       refine thenX ?_
       refine thenX ?_
       refine blkX ?_
       refine thenN ?_
       refine wp_seq ?_
       refine wp_region_lit ?_
       refine st_rd (v := Value.bool true) hA (by kernel_rfl) (by kernel_rfl) (by kernel_rfl) hW.cls (Rd.pure fun _ => by kernel_rfl) ?_; clear hA ac; intro ac hA
       refine wpList_nil ?_
       refine thenN ?_
       refine wp_ret ?_
       refine ret1 (v := Value.bool true) (by rfl) hA (Got.tmp hA (by kernel_rfl) (by kernel_rfl)) ?_
       clear hA
       refine ⟨retv (congrArg Value.bool (vEq_yes (by omega) ?_).symm), hW.fr⟩; have hVl := outs_nil hdoner2; subst hVl; exact fun e he => (hdn e he).resolve_left (by simp)
     · skip
       clear hA ac; intro k7 y8 w9 hkk7 hW ac hA
       refine st_rd (v := Value.bool true) hA (by kernel_rfl) (by kernel_rfl) (by kernel_rfl) hW.cls (Rd.pure fun _ => by kernel_rfl) ?_; clear hA ac; intro ac hA
       refine wpList_nil ?_
       refine thenN ?_
       refine wp_seq ?_
       refine wp_cond_true (hA.eval (by kernel_rfl)) ?_
       refine wp_skip ?_
       refine thenN ?_
       refine wp_block ?_
       refine wp_seq ?_
       refine wp_region_lit ?_
       refine st_rd (v := Value.tuple #[Value.int .i64 y8.1, Value.map (some y8.2)]) hA (by kernel_rfl) (by kernel_rfl) (by kernel_rfl) hW.cls (Rd.entry (ek := (fun a : Int => Value.int .i64 a)) (ev := (fun x_ : Nat => Value.map (some x_))) (r := r2) (b := b) (es := es3) (clock := ck4) (left := (List.eraseIdx (outs Vl) k7)) (y := y8) (by kernel_rfl) hnr2 (fun _ hw => show _ = _ from (hw.1).getG 0 rfl) (fun _ hw => (hw.1).get 0 rfl)) ?_; clear hA ac; intro ac hA
       refine st_rd (v := Value.int .i64 y8.1) hA (by kernel_rfl) (by kernel_rfl) (by kernel_rfl) hW.cls (Rd.pure fun _ => by kernel_rfl) ?_; clear hA ac; intro ac hA
       refine st_rd (v := Value.map (some y8.2)) hA (by kernel_rfl) (by kernel_rfl) (by kernel_rfl) hW.cls (Rd.pure fun _ => by kernel_rfl) ?_; clear hA ac; intro ac hA
       refine st_rd (v := Value.int .i64 y8.1) hA (by kernel_rfl) (by kernel_rfl) (by kernel_rfl) hW.cls (Rd.pure fun _ => by kernel_rfl) ?_; clear hA ac; intro ac hA
       refine st_rd (v := Value.map (some y8.2)) hA (by kernel_rfl) (by kernel_rfl) (by kernel_rfl) hW.cls (Rd.pure fun _ => by kernel_rfl) ?_; clear hA ac; intro ac hA
       refine wpList_nil ?_
       refine thenN ?_
       refine wp_seq ?_
       obtain ⟨c10, hcc10⟩ := outs_get hkk7
       obtain ⟨iv_c10, hvc10⟩ := List.getElem?_of_mem (hsub _ (List.mem_of_getElem? hcc10))
       have hW := hW.subG 3 rfl hvc10
       replace hW : Ws w No [IterX r2 b es3 ck4 (fun a : Int => Value.int .i64 a) (fun x_ : Nat => Value.map (some x_)) (List.eraseIdx (outs Vl) k7) (some y8)] [mapR y8.2 (fun a : Int => Value.int .i64 a) Mark.v c10, MapX b es3 ck4, SubR (fun (c_ : List (Int × Mark)) (b_ : Nat) => mapR b_ (fun a : Int => Value.int .i64 a) Mark.v c_) W, mapR b2 (fun a : Int => Value.int .i64 a) (fun x_ : Nat => Value.map (some x_)) (outs W), SubR (fun (c_ : List (Int × Mark)) (b_ : Nat) => mapR b_ (fun a : Int => Value.int .i64 a) Mark.v c_) V, mapR b (fun a : Int => Value.int .i64 a) (fun x_ : Nat => Value.map (some x_)) (outs V)] w9 := hW
       refine wp_region_lit ?_
       refine st_rd (v := Value.map (some b2)) hA (by kernel_rfl) (by kernel_rfl) (by kernel_rfl) hW.cls (Rd.pure fun _ => by kernel_rfl) ?_; clear hA ac; intro ac hA
       refine st_rd (v := Value.int .i64 y8.1) hA (by kernel_rfl) (by kernel_rfl) (by kernel_rfl) hW.cls (Rd.pure fun _ => by kernel_rfl) ?_; clear hA ac; intro ac hA
       rcases hk11 : look (outs W) (y8.1 : Int) with _ | bk12
       · skip
         first
         | (exfalso; clear hA hW; omega)
         | (
           refine st_rd (v := Value.tuple #[Value.map none, Value.bool false]) hA (by kernel_rfl) (by kernel_rfl) (by kernel_rfl) hW.cls ((Rd.lookup (k := 3) (e := 69) (ek := (fun a : Int => Value.int .i64 a)) (ev := (fun x_ : Nat => Value.map (some x_))) (m := (outs W)) (z := Value.map none) (y8.1 : Int) true (by kernel_rfl) (by kernel_rfl) (KeyE.int (by kernel_rfl)) (by kernel_rfl) (fun _ => by kernel_rfl) (fun _ hw => (hw.1).getG 3 rfl)).cast (by rw [hk11]; rfl)) ?_; clear hA ac; intro ac hA
           refine st_rd (v := Value.tuple #[Value.map none, Value.bool false]) hA (by kernel_rfl) (by kernel_rfl) (by kernel_rfl) hW.cls (Rd.pure fun _ => by kernel_rfl) ?_; clear hA ac; intro ac hA
           refine st_rd (v := Value.map none) hA (by kernel_rfl) (by kernel_rfl) (by kernel_rfl) hW.cls (Rd.pure fun _ => by kernel_rfl) ?_; clear hA ac; intro ac hA
           refine st_rd (v := Value.bool false) hA (by kernel_rfl) (by kernel_rfl) (by kernel_rfl) hW.cls (Rd.pure fun _ => by kernel_rfl) ?_; clear hA ac; intro ac hA
           refine st_rd (v := Value.map none) hA (by kernel_rfl) (by kernel_rfl) (by kernel_rfl) hW.cls (Rd.pure fun _ => by kernel_rfl) ?_; clear hA ac; intro ac hA
           refine st_rd (v := Value.bool false) hA (by kernel_rfl) (by kernel_rfl) (by kernel_rfl) hW.cls (Rd.pure fun _ => by kernel_rfl) ?_; clear hA ac; intro ac hA
           refine wpList_nil ?_
           refine thenN ?_
           refine wp_seq ?_
           refine wp_region_lit ?_
           refine st_rd (v := Value.bool false) hA (by kernel_rfl) (by kernel_rfl) (by kernel_rfl) hW.cls (Rd.pure fun _ => by kernel_rfl) ?_; clear hA ac; intro ac hA
           refine st_rd (v := Value.bool true) hA (by kernel_rfl) (by kernel_rfl) (by kernel_rfl) hW.cls (Rd.pure fun _ => by kernel_rfl) ?_; clear hA ac; intro ac hA
           refine st_rd (v := Value.bool true) hA (by kernel_rfl) (by kernel_rfl) (by kernel_rfl) hW.cls (Rd.pure fun _ => by kernel_rfl) ?_; clear hA ac; intro ac hA
           refine st_skip hA (by kernel_rfl) (by kernel_rfl) ?_; clear hA ac; intro ac hA
           refine st_skip hA (by kernel_rfl) (by kernel_rfl) ?_; clear hA ac; intro ac hA
           refine st_skip hA (by kernel_rfl) (by kernel_rfl) ?_; clear hA ac; intro ac hA
           refine st_skip hA (by kernel_rfl) (by kernel_rfl) ?_; clear hA ac; intro ac hA
           refine st_skip hA (by kernel_rfl) (by kernel_rfl) ?_; clear hA ac; intro ac hA
           refine st_rd (v := Value.bool true) hA (by kernel_rfl) (by kernel_rfl) (by kernel_rfl) hW.cls (Rd.pure fun _ => by kernel_rfl) ?_; clear hA ac; intro ac hA
           refine wpList_nil ?_
           refine thenN ?_
           refine wp_cond_true (hA.eval (by kernel_rfl)) ?_
           refine wp_seq ?_
           refine wp_region_lit ?_
           refine st_rd (v := Value.bool false) hA (by kernel_rfl) (by kernel_rfl) (by kernel_rfl) hW.cls (Rd.pure fun _ => by kernel_rfl) ?_; clear hA ac; intro ac hA
           refine wpList_nil ?_
           refine thenN ?_
           refine wp_ret ?_
           refine blkR ?_
           refine thenR ?_
           refine blkR ?_
           refine thenR ?_
           refine ret1 (v := Value.bool false) (by rfl) hA (Got.tmp hA (by kernel_rfl) (by kernel_rfl)) ?_
           clear hA
           exact ⟨retv (congrArg Value.bool (vEq_no (hsub _ (List.mem_of_getElem? hcc10)) (by unfold vEq1; rw [outs_none.1 hk11])).symm), hW.fr⟩)
       · skip
         first
         | (exfalso; clear hA hW; omega)
         | (
           obtain ⟨i13, c14, hi15, hv16⟩ := outs_at hk11
           have hW := hW.subG 2 rfl hi15
           replace hW : Ws w No [IterX r2 b es3 ck4 (fun a : Int => Value.int .i64 a) (fun x_ : Nat => Value.map (some x_)) (List.eraseIdx (outs Vl) k7) (some y8)] [mapR bk12 (fun a : Int => Value.int .i64 a) Mark.v c14, mapR y8.2 (fun a : Int => Value.int .i64 a) Mark.v c10, MapX b es3 ck4, SubR (fun (c_ : List (Int × Mark)) (b_ : Nat) => mapR b_ (fun a : Int => Value.int .i64 a) Mark.v c_) W, mapR b2 (fun a : Int => Value.int .i64 a) (fun x_ : Nat => Value.map (some x_)) (outs W), SubR (fun (c_ : List (Int × Mark)) (b_ : Nat) => mapR b_ (fun a : Int => Value.int .i64 a) Mark.v c_) V, mapR b (fun a : Int => Value.int .i64 a) (fun x_ : Nat => Value.map (some x_)) (outs V)] w9 := hW
           refine st_rd (v := Value.tuple #[Value.map (some bk12), Value.bool true]) hA (by kernel_rfl) (by kernel_rfl) (by kernel_rfl) hW.cls ((Rd.lookup (k := 3) (e := 69) (ek := (fun a : Int => Value.int .i64 a)) (ev := (fun x_ : Nat => Value.map (some x_))) (m := (outs W)) (z := Value.map none) (y8.1 : Int) true (by kernel_rfl) (by kernel_rfl) (KeyE.int (by kernel_rfl)) (by kernel_rfl) (fun _ => by kernel_rfl) (fun _ hw => (hw.1).getG 4 rfl)).cast (by rw [hk11]; rfl)) ?_; clear hA ac; intro ac hA
           refine st_rd (v := Value.tuple #[Value.map (some bk12), Value.bool true]) hA (by kernel_rfl) (by kernel_rfl) (by kernel_rfl) hW.cls (Rd.pure fun _ => by kernel_rfl) ?_; clear hA ac; intro ac hA
           refine st_rd (v := Value.map (some bk12)) hA (by kernel_rfl) (by kernel_rfl) (by kernel_rfl) hW.cls (Rd.pure fun _ => by kernel_rfl) ?_; clear hA ac; intro ac hA
           refine st_rd (v := Value.bool true) hA (by kernel_rfl) (by kernel_rfl) (by kernel_rfl) hW.cls (Rd.pure fun _ => by kernel_rfl) ?_; clear hA ac; intro ac hA
           refine st_rd (v := Value.map (some bk12)) hA (by kernel_rfl) (by kernel_rfl) (by kernel_rfl) hW.cls (Rd.pure fun _ => by kernel_rfl) ?_; clear hA ac; intro ac hA
           refine st_rd (v := Value.bool true) hA (by kernel_rfl) (by kernel_rfl) (by kernel_rfl) hW.cls (Rd.pure fun _ => by kernel_rfl) ?_; clear hA ac; intro ac hA
           refine wpList_nil ?_
           refine thenN ?_
           refine wp_seq ?_
           refine wp_region_lit ?_
           refine st_rd (v := Value.bool true) hA (by kernel_rfl) (by kernel_rfl) (by kernel_rfl) hW.cls (Rd.pure fun _ => by kernel_rfl) ?_; clear hA ac; intro ac hA
           refine st_rd (v := Value.bool false) hA (by kernel_rfl) (by kernel_rfl) (by kernel_rfl) hW.cls (Rd.pure fun _ => by kernel_rfl) ?_; clear hA ac; intro ac hA
           refine st_rd (v := Value.bool false) hA (by kernel_rfl) (by kernel_rfl) (by kernel_rfl) hW.cls (Rd.pure fun _ => by kernel_rfl) ?_; clear hA ac; intro ac hA
           refine st_rd (v := Value.func (.func 44) #[] #[]) hA (by kernel_rfl) (by kernel_rfl) (by kernel_rfl) hW.cls (Rd.pure fun _ => by kernel_rfl) ?_; clear hA ac; intro ac hA
           refine st_rd (v := Value.map (some y8.2)) hA (by kernel_rfl) (by kernel_rfl) (by kernel_rfl) hW.cls (Rd.pure fun _ => by kernel_rfl) ?_; clear hA ac; intro ac hA
           refine st_rd (v := Value.map (some bk12)) hA (by kernel_rfl) (by kernel_rfl) (by kernel_rfl) hW.cls (Rd.pure fun _ => by kernel_rfl) ?_; clear hA ac; intro ac hA
           refine st hA (by kernel_rfl) (by kernel_rfl) (by kernel_rfl) (Runs.callN (v := Value.bool (decide (mEqM c10 c14))) (fun _ => by kernel_rfl) hW (e_same1 y8.2 c10 bk12 c14 w9 ((hW).getG 1 rfl) ((hW).getG 0 rfl) (by first | omega | exact ⟨hV _ (hsub _ (List.mem_of_getElem? ‹_›)), hWl _ (List.mem_of_getElem? ‹_›)⟩)) ?_); clear hA ac hW; intro w17 hW hfw17 ac hA
           refine st_rd (v := Value.bool (!(decide (mEqM c10 c14)))) hA (by kernel_rfl) (by kernel_rfl) (by kernel_rfl) hW.cls (Rd.pure fun _ => by kernel_rfl) ?_; clear hA ac; intro ac hA
           refine st_rd (v := Value.bool (!(decide (mEqM c10 c14)))) hA (by kernel_rfl) (by kernel_rfl) (by kernel_rfl) hW.cls (Rd.pure fun _ => by kernel_rfl) ?_; clear hA ac; intro ac hA
           refine wpList_nil ?_
           refine thenN ?_
           refine wp_cond_split (t := !(decide (mEqM c10 c14))) (hA.eval (by kernel_rfl)) (fun h18 => ?_) (fun h18 => ?_)
           · skip
             have h18 := not_t h18
             first
             | (exfalso; clear hA hW; omega)
             | (
               refine wp_seq ?_
               refine wp_region_lit ?_
               refine st_rd (v := Value.bool false) hA (by kernel_rfl) (by kernel_rfl) (by kernel_rfl) hW.cls (Rd.pure fun _ => by kernel_rfl) ?_; clear hA ac; intro ac hA
               refine wpList_nil ?_
               refine thenN ?_
               refine wp_ret ?_
               refine blkR ?_
               refine thenR ?_
               refine blkR ?_
               refine thenR ?_
               refine ret1 (v := Value.bool false) (by rfl) hA (Got.tmp hA (by kernel_rfl) (by kernel_rfl)) ?_
               clear hA
               exact ⟨retv (congrArg Value.bool (vEq_no (hsub _ (List.mem_of_getElem? hcc10)) (by unfold vEq1; rw [hv16]; exact h18)).symm), hW.fr⟩)
           · skip
             have h18 := not_f h18
             first
             | (exfalso; clear hA hW; omega)
             | (
               refine wp_skip ?_
               refine blkN ?_
               refine thenN ?_
               have hlt_ := er_len_ hcc10; rw [← outs_erase] at hW
               exact ⟨(List.eraseIdx Vl k7).length, by omega, List.eraseIdx Vl k7, (some y8), rfl, by exact fun e he => hsub e (List.eraseIdx_subset he), by intro e he; rcases hdn e he with h_ | h_; (rcases mem_er hcc10 h_ with h_ | h_; (subst h_; exact .inr (by unfold vEq1; rw [hv16]; exact h18)); exact .inl h_); exact .inr h_, hA.sub ⟨⟨by kernel_rfl, by kernel_rfl⟩, ⟨by kernel_rfl, by kernel_rfl⟩, ⟨by kernel_rfl, by kernel_rfl⟩, ⟨by kernel_rfl, by kernel_rfl⟩, trivial⟩, (hW.pick [0] (by decide) rfl).pickG [2, 3, 4, 5, 6] rfl⟩)))

end Go.Proofs.Ytobbocpacacnhaa.L
