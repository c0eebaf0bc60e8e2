/- Contracts, walked by program over the engine's laws. -/
import Derived.Test.YtgeikokmhkfkgaaProg
import Derived.Test.YtgeikokmhkfkgaaT3
namespace Go.Proofs.Ytgeikokmhkfkgaa.L
open Go.RowKit

theorem mem_er {α : Type} {l : List α} {k : Nat} {y x : α} (h : l[k]? = some y) (hx : x ∈ l) : x = y ∨ x ∈ l.eraseIdx k := by
  induction l generalizing k with
  | nil => cases hx
  | cons z l ih =>
    cases k with
    | zero => cases h; rcases List.mem_cons.1 hx with rfl | hx
              · exact .inl rfl
              · exact .inr hx
    | succ k =>
      rcases List.mem_cons.1 hx with rfl | hx
      · exact .inr (.head _)
      · rcases ih (by simpa using h) hx with h' | h'
        · exact .inl h'
        · exact .inr (.tail _ h')
theorem er_len {α : Type} {l : List α} {k : Nat} {y : α} (h : l[k]? = some y) : (l.eraseIdx k).length < l.length := by
  have := (List.getElem?_eq_some_iff.1 h).1
  rw [List.length_eraseIdx]; split <;> omega
/-- Two maps say the same. -/
def mEq (h g : List (Int × Int)) : Prop := h.length = g.length ∧ ∀ x ∈ h, look g x.1 = some x.2
instance (h g : List (Int × Int)) : Decidable (mEq h g) := by unfold mEq; exact inferInstance
theorem eq_fact {o : Option Int} {v : Int} (h1 : o.isSome = true) (h2 : v = o.getD 0) : o = some v := by
  cases o with
  | none => cases h1
  | some a => rw [h2]; rfl
set_option maxRecDepth 100000 in
theorem e_mapsEqual (b : Nat) (h : List (Int × Int)) (b2 : Nat) (g : List (Int × Int)) (w : World) (ho_x : (mapR b (fun a : Int => Value.int .i64 a) (fun a : Int => Value.int .i64 a) h).p w) (ho_y : (mapR b2 (fun a : Int => Value.int .i64 a) (fun a : Int => Value.int .i64 a) g).p w) (hl : h.length ≤ 1000 ∧ g.length ≤ 1000) : Calls Try.prog 29 #[Value.map (some b), Value.map (some b2)] w (fun e w' => e = .returned (Value.bool (decide (mEq h g))) ∧ Fr No w w') := by
  have _hu := ho_x; clear _hu
  have _hu := ho_y; clear _hu
  have _hu := hl; clear _hu
  refine enter_E 34 Try.func29 rfl rfl (by kernel_rfl) (L := [(0, Value.map (some b)), (1, Value.map (some b2))]) (by kernel_rfl) ?_
  intro ac hA
  have hW := Ws.start w No
  have hW := hW.mapG ho_x
  have hW := hW.mapG ho_y
  refine wp_seq ?_
  refine wp_region_lit ?_
  refine st_rd (v := Value.bool false) hA (by kernel_rfl) (by kernel_rfl) (by kernel_rfl) hW.cls (Rd.pure fun _ => by kernel_rfl) ?_; clear hA ac; intro ac hA
  refine wpList_nil ?_
  refine thenN ?_
  refine wp_seq ?_
  refine wp_seq ?_
  refine wp_region_lit ?_
  refine st_rd (v := Value.map (some b)) hA (by kernel_rfl) (by kernel_rfl) (by kernel_rfl) hW.cls (Rd.pure fun _ => by kernel_rfl) ?_; clear hA ac; intro ac hA
  refine st_rd (v := Value.int .i64 (((h).length : Nat) : Int)) hA (by kernel_rfl) (by kernel_rfl) (by kernel_rfl) hW.cls (Rd.mapLen (k := 3) (e := 3) (ek := (fun a : Int => Value.int .i64 a)) (ev := (fun a : Int => Value.int .i64 a)) (m := h) (by kernel_rfl) (by kernel_rfl) (fun _ hw => (hw.1).getG 1 rfl)) ?_; clear hA ac; intro ac hA
  refine st_rd (v := Value.map (some b2)) hA (by kernel_rfl) (by kernel_rfl) (by kernel_rfl) hW.cls (Rd.pure fun _ => by kernel_rfl) ?_; clear hA ac; intro ac hA
  refine st_rd (v := Value.int .i64 (((g).length : Nat) : Int)) hA (by kernel_rfl) (by kernel_rfl) (by kernel_rfl) hW.cls (Rd.mapLen (k := 3) (e := 3) (ek := (fun a : Int => Value.int .i64 a)) (ev := (fun a : Int => Value.int .i64 a)) (m := g) (by kernel_rfl) (by kernel_rfl) (fun _ hw => (hw.1).getG 0 rfl)) ?_; clear hA ac; intro ac hA
  refine st_rd (v := Value.bool (((((h).length : Nat) : Int) : Int) != ((((g).length : Nat) : Int) : Int))) hA (by kernel_rfl) (by kernel_rfl) (by kernel_rfl) hW.cls (Rd.pure fun _ => by kernel_rfl) ?_; clear hA ac; intro ac hA
  refine wpList_nil ?_
  refine thenN ?_
  refine wp_cond_split (t := ((((h).length : Nat) : Int) : Int) != ((((g).length : Nat) : Int) : Int)) (hA.eval (by kernel_rfl)) (fun h1 => ?_) (fun h1 => ?_)
  · skip
    have h1 := bne_iff_ne.1 h1
    first
    | (exfalso; clear hA hW; omega)
    | (
        refine wp_seq ?_
        refine wp_region_lit ?_
        refine st_rd (v := Value.bool false) hA (by kernel_rfl) (by kernel_rfl) (by kernel_rfl) hW.cls (Rd.pure fun _ => by kernel_rfl) ?_; clear hA ac; intro ac hA
        refine wpList_nil ?_
        refine thenN ?_
        refine wp_ret ?_
        refine thenR ?_
        refine ret1 (v := Value.bool false) (by rfl) hA (Got.tmp hA (by kernel_rfl) (by kernel_rfl)) ?_
        clear hA
        refine ⟨retv (congrArg Value.bool (decide_eq_false ?_).symm), hW.fr⟩; intro hq; have := hq.1; omega)
  · skip
    have h1 := of_bne_f h1
    first
    | (exfalso; clear hA hW; omega)
    | (
        refine wp_skip ?_
        refine thenN ?_
        refine wp_seq ?_
        refine wp_seq ?_
        refine wp_region_lit ?_
        refine st_rd (v := Value.map (some b)) hA (by kernel_rfl) (by kernel_rfl) (by kernel_rfl) hW.cls (Rd.pure fun _ => by kernel_rfl) ?_; clear hA ac; intro ac hA
        refine st hA (by kernel_rfl) (by kernel_rfl) (by kernel_rfl) (Runs.range (k := 3) (e := 3) (ek := (fun a : Int => Value.int .i64 a)) (ev := (fun a : Int => Value.int .i64 a)) (m := h) (by kernel_rfl) (by kernel_rfl) hW 1 rfl ?_); clear hA ac hW; intro r2 es3 ck4 w5 hnr2 hW hfw5 ac hA
        refine wpList_nil ?_
        refine thenN ?_
        refine wp_block ?_
        refine wp_loop_m (fun m_ ac_ wl_ => ∃ left : List (Int × Int), ∃ cur : Option (Int × Int), m_ = left.length ∧ (∀ x ∈ left, x ∈ h) ∧ (∀ x ∈ h, x ∈ left ∨ look g x.1 = some x.2) ∧ Fm 34 [] [(0, Value.map (some b)), (1, Value.map (some b2)), (15, Value.pointer (some ⟨r2, 0, none⟩))] ac_ ∧ Ws w No [IterX r2 b es3 ck4 (fun a : Int => Value.int .i64 a) (fun a : Int => Value.int .i64 a) left cur] [MapX b es3 ck4, mapR b2 (fun a : Int => Value.int .i64 a) (fun a : Int => Value.int .i64 a) g, mapR b (fun a : Int => Value.int .i64 a) (fun a : Int => Value.int .i64 a) h] wl_) _ ⟨h, none, rfl, by exact fun _ hx => hx, by exact fun _ hx => .inl hx, hA.sub ⟨⟨by kernel_rfl, by kernel_rfl⟩, ⟨by kernel_rfl, by kernel_rfl⟩, ⟨by kernel_rfl, by kernel_rfl⟩, trivial⟩, (hW.pick [0] (by decide) rfl).pickG [0, 1, 2] rfl⟩ ?_
        clear hA ac hW; rintro m_ ac w6 ⟨left, cur, rfl, hsub, hdn, hA, hW⟩
        refine wp_seq ?_
        refine wp_region_lit ?_
        refine st hA (by kernel_rfl) (by kernel_rfl) (by kernel_rfl) ((Runs.next (ek := (fun a : Int => Value.int .i64 a)) (ev := (fun a : Int => Value.int .i64 a)) (r := r2) (b := b) (es := es3) (clock := ck4) (left := left) (cur := cur) (by kernel_rfl) hnr2 hW 0 0 rfl rfl ?_ ?_))
        · skip
          intro hdoner2 ac hA
          refine st_rd (v := Value.bool false) hA (by kernel_rfl) (by kernel_rfl) (by kernel_rfl) hW.cls (Rd.pure fun _ => by kernel_rfl) ?_; clear hA ac; intro ac hA
          refine wpList_nil ?_
          refine thenN ?_
          refine wp_seq ?_
          refine wp_cond_false (hA.eval (by kernel_rfl)) ?_
          refine wp_exit ?_
          refine thenX ?_
          refine thenX ?_
          refine blkX ?_
          refine thenN ?_
          refine wp_seq ?_
          refine wp_region_lit ?_
          refine st_rd (v := Value.bool true) hA (by kernel_rfl) (by kernel_rfl) (by kernel_rfl) hW.cls (Rd.pure fun _ => by kernel_rfl) ?_; clear hA ac; intro ac hA
          refine wpList_nil ?_
          refine thenN ?_
          refine wp_ret ?_
          refine ret1 (v := Value.bool true) (by rfl) hA (Got.tmp hA (by kernel_rfl) (by kernel_rfl)) ?_
          clear hA
          refine ⟨retv (congrArg Value.bool (decide_eq_true ?_).symm), hW.fr⟩; exact ⟨by omega, fun x hx => (hdn x hx).resolve_left (by rw [hdoner2]; simp)⟩
        · skip
          clear hA ac; intro k7 y8 w9 hkk7 hW ac hA
          refine st_rd (v := Value.bool true) hA (by kernel_rfl) (by kernel_rfl) (by kernel_rfl) hW.cls (Rd.pure fun _ => by kernel_rfl) ?_; clear hA ac; intro ac hA
          refine wpList_nil ?_
          refine thenN ?_
          refine wp_seq ?_
          refine wp_cond_true (hA.eval (by kernel_rfl)) ?_
          refine wp_skip ?_
          refine thenN ?_
          refine wp_block ?_
          refine wp_seq ?_
          refine wp_region_lit ?_
          refine st_rd (v := Value.tuple #[Value.int .i64 y8.1, Value.int .i64 y8.2]) hA (by kernel_rfl) (by kernel_rfl) (by kernel_rfl) hW.cls (Rd.entry (ek := (fun a : Int => Value.int .i64 a)) (ev := (fun a : Int => Value.int .i64 a)) (r := r2) (b := b) (es := es3) (clock := ck4) (left := (List.eraseIdx left k7)) (y := y8) (by kernel_rfl) hnr2 (fun _ hw => show _ = _ from (hw.1).getG 0 rfl) (fun _ hw => (hw.1).get 0 rfl)) ?_; clear hA ac; intro ac hA
          refine st_rd (v := Value.int .i64 y8.1) hA (by kernel_rfl) (by kernel_rfl) (by kernel_rfl) hW.cls (Rd.pure fun _ => by kernel_rfl) ?_; clear hA ac; intro ac hA
          refine st_rd (v := Value.int .i64 y8.2) hA (by kernel_rfl) (by kernel_rfl) (by kernel_rfl) hW.cls (Rd.pure fun _ => by kernel_rfl) ?_; clear hA ac; intro ac hA
          refine st_rd (v := Value.int .i64 y8.1) hA (by kernel_rfl) (by kernel_rfl) (by kernel_rfl) hW.cls (Rd.pure fun _ => by kernel_rfl) ?_; clear hA ac; intro ac hA
          refine st_rd (v := Value.int .i64 y8.2) hA (by kernel_rfl) (by kernel_rfl) (by kernel_rfl) hW.cls (Rd.pure fun _ => by kernel_rfl) ?_; clear hA ac; intro ac hA
          refine wpList_nil ?_
          refine thenN ?_
          refine wp_seq ?_
          refine wp_region_lit ?_
          refine st_rd (v := Value.map (some b2)) hA (by kernel_rfl) (by kernel_rfl) (by kernel_rfl) hW.cls (Rd.pure fun _ => by kernel_rfl) ?_; clear hA ac; intro ac hA
          refine st_rd (v := Value.int .i64 y8.1) hA (by kernel_rfl) (by kernel_rfl) (by kernel_rfl) hW.cls (Rd.pure fun _ => by kernel_rfl) ?_; clear hA ac; intro ac hA
          refine st_rd (v := Value.tuple #[Value.int .i64 ((look g (y8.1 : Int)).getD 0), Value.bool (look g (y8.1 : Int)).isSome]) hA (by kernel_rfl) (by kernel_rfl) (by kernel_rfl) hW.cls ((Rd.lookup (k := 3) (e := 3) (ek := (fun a : Int => Value.int .i64 a)) (ev := (fun a : Int => Value.int .i64 a)) (m := g) (z := Value.int .i64 0) (y8.1 : Int) true (by kernel_rfl) (by kernel_rfl) (KeyE.int (by kernel_rfl)) (by kernel_rfl) (fun _ => by kernel_rfl) (fun _ hw => (hw.1).getG 1 rfl)).cast (by generalize look g (y8.1 : Int) = o_; cases o_ <;> rfl)) ?_; clear hA ac; intro ac hA
          refine st_rd (v := Value.tuple #[Value.int .i64 ((look g (y8.1 : Int)).getD 0), Value.bool (look g (y8.1 : Int)).isSome]) hA (by kernel_rfl) (by kernel_rfl) (by kernel_rfl) hW.cls (Rd.pure fun _ => by kernel_rfl) ?_; clear hA ac; intro ac hA
          refine st_rd (v := Value.int .i64 ((look g (y8.1 : Int)).getD 0)) hA (by kernel_rfl) (by kernel_rfl) (by kernel_rfl) hW.cls (Rd.pure fun _ => by kernel_rfl) ?_; clear hA ac; intro ac hA
          refine st_rd (v := Value.bool (look g (y8.1 : Int)).isSome) hA (by kernel_rfl) (by kernel_rfl) (by kernel_rfl) hW.cls (Rd.pure fun _ => by kernel_rfl) ?_; clear hA ac; intro ac hA
          refine st_rd (v := Value.int .i64 ((look g (y8.1 : Int)).getD 0)) hA (by kernel_rfl) (by kernel_rfl) (by kernel_rfl) hW.cls (Rd.pure fun _ => by kernel_rfl) ?_; clear hA ac; intro ac hA
          refine st_rd (v := Value.bool (look g (y8.1 : Int)).isSome) hA (by kernel_rfl) (by kernel_rfl) (by kernel_rfl) hW.cls (Rd.pure fun _ => by kernel_rfl) ?_; clear hA ac; intro ac hA
          refine wpList_nil ?_
          refine thenN ?_
          refine wp_seq ?_
          refine wp_region_lit ?_
          refine st_rd (v := Value.bool (look g (y8.1 : Int)).isSome) hA (by kernel_rfl) (by kernel_rfl) (by kernel_rfl) hW.cls (Rd.pure fun _ => by kernel_rfl) ?_; clear hA ac; intro ac hA
          refine st_rd (v := Value.bool (!(look g (y8.1 : Int)).isSome)) hA (by kernel_rfl) (by kernel_rfl) (by kernel_rfl) hW.cls (Rd.pure fun _ => by kernel_rfl) ?_; clear hA ac; intro ac hA
          refine st_rd (v := Value.bool (!(look g (y8.1 : Int)).isSome)) hA (by kernel_rfl) (by kernel_rfl) (by kernel_rfl) hW.cls (Rd.pure fun _ => by kernel_rfl) ?_; clear hA ac; intro ac hA
          rcases Bool.eq_false_or_eq_true (!(look g (y8.1 : Int)).isSome) with h10 | h10
          · skip
            rw [h10] at hA
            have h10 := not_t h10
            first
            | (exfalso; clear hA hW; omega)
            | (
                refine st_skip hA (by kernel_rfl) (by kernel_rfl) ?_; clear hA ac; intro ac hA
                refine st_skip hA (by kernel_rfl) (by kernel_rfl) ?_; clear hA ac; intro ac hA
                refine st_skip hA (by kernel_rfl) (by kernel_rfl) ?_; clear hA ac; intro ac hA
                refine st_rd (v := Value.bool true) hA (by kernel_rfl) (by kernel_rfl) (by kernel_rfl) hW.cls (Rd.pure fun _ => by kernel_rfl) ?_; clear hA ac; intro ac hA
                refine wpList_nil ?_
                refine thenN ?_
                refine wp_cond_true (hA.eval (by kernel_rfl)) ?_
                refine wp_seq ?_
                refine wp_region_lit ?_
                refine st_rd (v := Value.bool false) hA (by kernel_rfl) (by kernel_rfl) (by kernel_rfl) hW.cls (Rd.pure fun _ => by kernel_rfl) ?_; clear hA ac; intro ac hA
                refine wpList_nil ?_
                refine thenN ?_
                refine wp_ret ?_
                refine blkR ?_
                refine thenR ?_
                refine blkR ?_
                refine thenR ?_
                refine ret1 (v := Value.bool false) (by rfl) hA (Got.tmp hA (by kernel_rfl) (by kernel_rfl)) ?_
                clear hA
                refine ⟨retv (congrArg Value.bool (decide_eq_false ?_).symm), hW.fr⟩; intro hq; have hq2 := hq.2 y8 (hsub _ (List.mem_of_getElem? hkk7)); rw [hq2] at h10; first | exact h10 rfl | cases h10)
          · skip
            rw [h10] at hA
            have h10 := not_f h10
            first
            | (exfalso; clear hA hW; omega)
            | (
                refine st_rd (v := Value.int .i64 y8.2) hA (by kernel_rfl) (by kernel_rfl) (by kernel_rfl) hW.cls (Rd.pure fun _ => by kernel_rfl) ?_; clear hA ac; intro ac hA
                refine st_rd (v := Value.int .i64 ((look g (y8.1 : Int)).getD 0)) hA (by kernel_rfl) (by kernel_rfl) (by kernel_rfl) hW.cls (Rd.pure fun _ => by kernel_rfl) ?_; clear hA ac; intro ac hA
                refine st_rd (v := Value.bool ((y8.2 : Int) != (((look g (y8.1 : Int)).getD 0) : Int))) hA (by kernel_rfl) (by kernel_rfl) (by kernel_rfl) hW.cls (Rd.pure fun _ => by kernel_rfl) ?_; clear hA ac; intro ac hA
                refine st_rd (v := Value.bool ((y8.2 : Int) != (((look g (y8.1 : Int)).getD 0) : Int))) hA (by kernel_rfl) (by kernel_rfl) (by kernel_rfl) hW.cls (Rd.pure fun _ => by kernel_rfl) ?_; clear hA ac; intro ac hA
                refine wpList_nil ?_
                refine thenN ?_
                refine wp_cond_split (t := (y8.2 : Int) != (((look g (y8.1 : Int)).getD 0) : Int)) (hA.eval (by kernel_rfl)) (fun h11 => ?_) (fun h11 => ?_)
                · skip
                  have h11 := bne_iff_ne.1 h11
                  first
                  | (exfalso; clear hA hW; omega)
                  | (
                      refine wp_seq ?_
                      refine wp_region_lit ?_
                      refine st_rd (v := Value.bool false) hA (by kernel_rfl) (by kernel_rfl) (by kernel_rfl) hW.cls (Rd.pure fun _ => by kernel_rfl) ?_; clear hA ac; intro ac hA
                      refine wpList_nil ?_
                      refine thenN ?_
                      refine wp_ret ?_
                      refine blkR ?_
                      refine thenR ?_
                      refine blkR ?_
                      refine thenR ?_
                      refine ret1 (v := Value.bool false) (by rfl) hA (Got.tmp hA (by kernel_rfl) (by kernel_rfl)) ?_
                      clear hA
                      refine ⟨retv (congrArg Value.bool (decide_eq_false ?_).symm), hW.fr⟩; intro hq; have hq2 := hq.2 y8 (hsub _ (List.mem_of_getElem? hkk7)); rw [hq2] at h11; first | exact h11 rfl | cases h11)
                · skip
                  have h11 := of_bne_f h11
                  first
                  | (exfalso; clear hA hW; omega)
                  | (
                      refine wp_skip ?_
                      refine blkN ?_
                      refine thenN ?_
                      have hlt_ := er_len hkk7
                      exact ⟨(List.eraseIdx left k7).length, by omega, List.eraseIdx left k7, (some y8), rfl, by intro x hx; exact hsub x (List.eraseIdx_subset hx), by intro x hx; rcases hdn x hx with h_ | h_; (rcases mem_er hkk7 h_ with h_ | h_; (subst h_; exact .inr (by exact eq_fact ‹_› ‹_›)); exact .inl h_); exact .inr h_, hA.sub ⟨⟨by kernel_rfl, by kernel_rfl⟩, ⟨by kernel_rfl, by kernel_rfl⟩, ⟨by kernel_rfl, by kernel_rfl⟩, trivial⟩, (hW.pick [0] (by decide) rfl).pickG [0, 1, 2] rfl⟩)))

end Go.Proofs.Ytgeikokmhkfkgaa.L
