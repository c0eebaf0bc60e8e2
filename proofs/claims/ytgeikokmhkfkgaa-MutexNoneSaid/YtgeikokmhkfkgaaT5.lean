/- Contracts, walked by program over the engine's laws. -/
import Derived.Test.YtgeikokmhkfkgaaProg
import Derived.Test.YtgeikokmhkfkgaaT4
import Derived.Test.YtgeikokmhkfkgaaSort13
namespace Go.Proofs.Ytgeikokmhkfkgaa.L
open Go.RowKit

theorem er_perm {α : Type} {l : List α} {k : Nat} {y : α} (h : l[k]? = some y) : l.Perm (y :: l.eraseIdx k) := by
  induction l generalizing k with
  | nil => cases h
  | cons z l ih =>
    cases k with
    | zero => cases h; exact List.Perm.refl _
    | succ k => exact ((ih (by simpa using h)).cons z).trans (List.Perm.swap _ _ _)
def Two.pair (x : Two) : Int × Int := (x.a, x.b)
/-- The holders, in order. -/
def HeldOf (h : List (Int × Int)) (xs : List Two) : Prop := (xs.map Two.pair).Perm h ∧ xs.Pairwise fun x y => x.a ≤ y.a
set_option maxRecDepth 100000 in
theorem e_held (m : Nat) (b : Nat) (h : List (Int × Int)) (many : Int) (w : World) (ho_m : (MutR m b h many).p w) (hl_m : ∀ x_ ∈ (MutR m b h many).fp, x_ < w.heap.size) (hl : h.length ≤ 100) (hb : ∀ x ∈ h, 0 ≤ x.1 ∧ x.1 ≤ 65535) : Calls Try.prog 19 #[Value.pointer (some ⟨m, 0, none⟩)] w (fun e w' => ∃ (lb : Array Value) (g : Res), e = .returned (Value.func (.func 32) #[] lb) ∧ Iter Try.prog 32 lb (fun x_ : Two => #[Value.int .i64 x_.a, Value.int .i64 x_.b]) (HeldOf h) [g] ∧ g.from_ [] w w' ∧ Fr No w w') := by
  have _hu := ho_m; have _hv := hl_m; clear _hu _hv
  have _hu := hl; clear _hu
  have _hu := hb; clear _hu
  refine enter_E 28 Try.func19 rfl rfl (by kernel_rfl) (L := [(0, Value.pointer (some ⟨m, 0, none⟩))]) (by kernel_rfl) ?_
  intro ac hA
  have hW := Ws.start w No
  have hW := hW.objG (L := [Cel m #[Value.map (some b), Value.int .i64 many] 54, mapR b (fun a : Int => Value.int .i64 a) (fun a : Int => Value.int .i64 a) h]) ho_m hl_m
  clear ho_m hl_m
  refine wp_seq ?_
  refine wp_region_lit ?_
  refine st_rd (v := Value.nilFunc) hA (by kernel_rfl) (by kernel_rfl) (by kernel_rfl) hW.cls (Rd.pure fun _ => by kernel_rfl) ?_; clear hA ac; intro ac hA
  refine wpList_nil ?_
  refine thenN ?_
  refine wp_seq ?_
  refine wp_region_lit ?_
  refine st hA (by kernel_rfl) (by kernel_rfl) (by kernel_rfl) (Runs.cells (fun b => Value.pointer (some ⟨b, 0, none⟩)) #[Value.slice none 0 0] 71 (fun _ => by kernel_rfl) hW ?_); clear hA ac hW; intro b1 w2 hW hb1 hfw2 ac hA
  refine wpList_nil ?_
  refine thenN ?_
  refine wp_seq ?_
  refine wp_seq ?_
  refine wp_region_lit ?_
  refine st_rd (v := Value.pointer (some ⟨m, 0, none⟩)) hA (by kernel_rfl) (by kernel_rfl) (by kernel_rfl) hW.cls (Rd.pure fun _ => by kernel_rfl) ?_; clear hA ac; intro ac hA
  refine st hA (by kernel_rfl) (by kernel_rfl) (by kernel_rfl) (Runs.callS (v := Value.bool false) (fun _ => by kernel_rfl) (e_none m b (many : Int) w2 (show _ = _ from (hW).getG 0 rfl)) ?_); clear hA ac; intro  ac hA
  refine st_rd (v := Value.bool true) hA (by kernel_rfl) (by kernel_rfl) (by kernel_rfl) hW.cls (Rd.pure fun _ => by kernel_rfl) ?_; clear hA ac; intro ac hA
  refine wpList_nil ?_
  refine thenN ?_
  refine wp_cond_true (hA.eval (by kernel_rfl)) ?_
  refine wp_seq ?_
  refine wp_region_lit ?_
  refine st_rd (v := Value.pointer (some ⟨m, 0, none⟩)) hA (by kernel_rfl) (by kernel_rfl) (by kernel_rfl) hW.cls (Rd.pure fun _ => by kernel_rfl) ?_; clear hA ac; intro ac hA
  refine st_rd (v := Value.pointer (some ⟨m, 0, none⟩)) hA (by kernel_rfl) (by kernel_rfl) (by kernel_rfl) hW.cls (Rd.pure fun _ => by kernel_rfl) ?_; clear hA ac; intro ac hA
  refine st_rd (v := Value.pointer (some ⟨m, 0, none⟩)) hA (by kernel_rfl) (by kernel_rfl) (by kernel_rfl) hW.cls (Rd.pure fun _ => by kernel_rfl) ?_; clear hA ac; intro ac hA
  refine st_rd (v := Value.map (some b)) hA (by kernel_rfl) (by kernel_rfl) (by kernel_rfl) hW.cls (Rd.load (b := m) (i := 0) (by kernel_rfl) (fun _ hw => show _ = _ from (hw.1).getG 0 rfl) (by kernel_rfl)) ?_; clear hA ac; intro ac hA
  refine st hA (by kernel_rfl) (by kernel_rfl) (by kernel_rfl) (Runs.range (k := 3) (e := 3) (ek := (fun a : Int => Value.int .i64 a)) (ev := (fun a : Int => Value.int .i64 a)) (m := h) (by kernel_rfl) (by kernel_rfl) hW 1 rfl ?_); clear hA ac hW; intro r3 es4 ck5 w6 hnr3 hW hfw6 ac hA
  refine wpList_nil ?_
  refine thenN ?_
  refine wp_block ?_
  have hW := hW.addNil 72 2 enTwo
  refine wp_loop_m (fun m_ ac_ wl_ => ∃ left : List (Int × Int), ∃ cur : Option (Int × Int), ∃ acc : List Two, ∃ A : Option Addr, ∃ c : Nat, m_ = left.length ∧ ((acc.map Two.pair ++ left).Perm h) ∧ Fm 28 [] [(3, Value.pointer (some ⟨b1, 0, none⟩)), (13, Value.pointer (some ⟨r3, 0, none⟩))] ac_ ∧ Ws w No [rowR 72 2 enTwo (Value.slice A acc.length c) acc, IterX r3 b es4 ck5 (fun a : Int => Value.int .i64 a) (fun a : Int => Value.int .i64 a) left cur, Cel b1 #[Value.slice A acc.length c] 71] [MapX b es4 ck5, Cel m #[Value.map (some b), Value.int .i64 many] 54, mapR b (fun a : Int => Value.int .i64 a) (fun a : Int => Value.int .i64 a) h] wl_) _ ⟨h, none, [], none, 0, rfl, by exact List.Perm.refl _, hA.sub ⟨⟨by kernel_rfl, by kernel_rfl⟩, ⟨by kernel_rfl, by kernel_rfl⟩, trivial⟩, (hW.pick [0, 1, 2] (by decide) rfl).pickG [0, 1, 2] rfl⟩ ?_
  clear hA ac hW; rintro m_ ac w7 ⟨left, cur, acc, A, c, rfl, hp, hA, hW⟩
  have hpl_ := hp.length_eq; simp only [List.length_append, List.length_map] at hpl_
  refine wp_seq ?_
  refine wp_region_lit ?_
  refine st hA (by kernel_rfl) (by kernel_rfl) (by kernel_rfl) ((Runs.next (ek := (fun a : Int => Value.int .i64 a)) (ev := (fun a : Int => Value.int .i64 a)) (r := r3) (b := b) (es := es4) (clock := ck5) (left := left) (cur := cur) (by kernel_rfl) hnr3 hW 1 0 rfl rfl ?_ ?_))
  · skip
    intro hdoner3 ac hA
    refine st_rd (v := Value.bool false) hA (by kernel_rfl) (by kernel_rfl) (by kernel_rfl) hW.cls (Rd.pure fun _ => by kernel_rfl) ?_; clear hA ac; intro ac hA
    refine wpList_nil ?_
    refine thenN ?_
    refine wp_seq ?_
    refine wp_cond_false (hA.eval (by kernel_rfl)) ?_
    refine wp_exit ?_
    refine thenX ?_
    refine thenX ?_
    refine blkX ?_
    refine thenN ?_
    refine wp_seq ?_
    have hp_ := hp; rw [hdoner3, List.append_nil] at hp_
    refine wp_region_lit ?_
    refine st_rd (v := Value.slice A acc.length c) hA (by kernel_rfl) (by kernel_rfl) (by kernel_rfl) hW.cls (Rd.load (b := b1) (i := 0) (by kernel_rfl) (fun _ hw => (hw.1).cel 2 rfl) (by kernel_rfl)) ?_; clear hA ac; intro ac hA
    refine st hA (by kernel_rfl) (by kernel_rfl) (by kernel_rfl) (Runs.call (fun _ => by kernel_rfl) (e_sorted (A := A) (c := c) (l := acc) w7 (hW.get 0 rfl) (by have := hp_.length_eq; simp at this; first | omega | simp) (fun x hx => hb _ ((hp_.mem_iff (a := x.pair)).1 (List.mem_map.2 ⟨x, hx, rfl⟩)))) ?_)
    rintro _ w11 ⟨rfl, l12, hperm_, hsort_, hu_⟩; refine ⟨_, rfl, ?_⟩; have hlen_ := hperm_.length_eq; replace hW := hW.upd 0 rfl hu_ rfl; rw [← hlen_] at hW ⊢; clear hA ac; intro ac hA
    refine st hA (by kernel_rfl) (by kernel_rfl) (by kernel_rfl) (Runs.store (v := Value.slice A l12.length c) (b := b1) (j := 0) (n := 1) (cs' := #[Value.slice A l12.length c]) (H' := [rowR 72 2 enTwo (Value.slice A l12.length c) l12, IterX r3 b es4 ck5 (fun a : Int => Value.int .i64 a) (fun a : Int => Value.int .i64 a) left cur, Cel b1 #[Value.slice A l12.length c] 71]) (by kernel_rfl) (by kernel_rfl) (by kernel_rfl) (by kernel_rfl) (by kernel_rfl) hW 2 (by rfl) (Nat.le_of_ble_eq_true (by kernel_rfl)) (by kernel_rfl) (by rfl) ?_); clear hA ac hW; intro w13 hW ac hA
    refine wpList_nil ?_
    refine thenN ?_
    refine wp_seq ?_
    refine wp_region_lit ?_
    refine st_rd (v := Value.func (.func 32) #[] #[Value.pointer (some ⟨b1, 0, none⟩)]) hA (by kernel_rfl) (by kernel_rfl) (by kernel_rfl) hW.cls (Rd.pure fun _ => by kernel_rfl) ?_; clear hA ac; intro ac hA
    refine st_rd (v := Value.func (.func 32) #[] #[Value.pointer (some ⟨b1, 0, none⟩)]) hA (by kernel_rfl) (by kernel_rfl) (by kernel_rfl) hW.cls (Rd.pure fun _ => by kernel_rfl) ?_; clear hA ac; intro ac hA
    refine wpList_nil ?_
    refine thenN ?_
    refine wp_ret ?_
    refine ret1 (v := Value.func (.func 32) #[] #[Value.pointer (some ⟨b1, 0, none⟩)]) (by rfl) hA (Got.tmp hA (by kernel_rfl) (by kernel_rfl)) ?_
    clear hA
    exact ⟨_, _, rfl, iter_weak (iter_many (it_32 b1 _ _ l12 (own_cap (hW.get 0 rfl)) (by first | (have := hp_.length_eq; simp at this; omega) | (have h2_ := hperm_.length_eq; simp only [List.length_nil] at h2_; omega)))) ⟨(hperm_.map _).trans hp_, hsort_⟩, from_many (froms_cons (hW.outOwn 2 rfl (fun _ h => h)) (froms_cons (hW.outRow 0 rfl elt_Two.len (fun _ h => h)) froms_nil)), hW.fr⟩
  · skip
    clear hA ac; intro k8 y9 w10 hkk8 hW ac hA
    refine st_rd (v := Value.bool true) hA (by kernel_rfl) (by kernel_rfl) (by kernel_rfl) hW.cls (Rd.pure fun _ => by kernel_rfl) ?_; clear hA ac; intro ac hA
    refine wpList_nil ?_
    refine thenN ?_
    refine wp_seq ?_
    refine wp_cond_true (hA.eval (by kernel_rfl)) ?_
    refine wp_skip ?_
    refine thenN ?_
    refine wp_block ?_
    refine wp_seq ?_
    refine wp_region_lit ?_
    refine st_rd (v := Value.tuple #[Value.int .i64 y9.1, Value.int .i64 y9.2]) hA (by kernel_rfl) (by kernel_rfl) (by kernel_rfl) hW.cls (Rd.entry (ek := (fun a : Int => Value.int .i64 a)) (ev := (fun a : Int => Value.int .i64 a)) (r := r3) (b := b) (es := es4) (clock := ck5) (left := (List.eraseIdx left k8)) (y := y9) (by kernel_rfl) hnr3 (fun _ hw => show _ = _ from (hw.1).getG 0 rfl) (fun _ hw => (hw.1).get 1 rfl)) ?_; clear hA ac; intro ac hA
    refine st_rd (v := Value.int .i64 y9.1) hA (by kernel_rfl) (by kernel_rfl) (by kernel_rfl) hW.cls (Rd.pure fun _ => by kernel_rfl) ?_; clear hA ac; intro ac hA
    refine st_rd (v := Value.int .i64 y9.2) hA (by kernel_rfl) (by kernel_rfl) (by kernel_rfl) hW.cls (Rd.pure fun _ => by kernel_rfl) ?_; clear hA ac; intro ac hA
    refine st_rd (v := Value.int .i64 y9.1) hA (by kernel_rfl) (by kernel_rfl) (by kernel_rfl) hW.cls (Rd.pure fun _ => by kernel_rfl) ?_; clear hA ac; intro ac hA
    refine st_rd (v := Value.int .i64 y9.2) hA (by kernel_rfl) (by kernel_rfl) (by kernel_rfl) hW.cls (Rd.pure fun _ => by kernel_rfl) ?_; clear hA ac; intro ac hA
    refine wpList_nil ?_
    refine thenN ?_
    refine wp_region_lit ?_
    refine st_rd (v := Value.slice A acc.length c) hA (by kernel_rfl) (by kernel_rfl) (by kernel_rfl) hW.cls (Rd.load (b := b1) (i := 0) (by kernel_rfl) (fun _ hw => (hw.1).cel 2 rfl) (by kernel_rfl)) ?_; clear hA ac; intro ac hA
    refine st_rd (v := Value.int .i64 y9.1) hA (by kernel_rfl) (by kernel_rfl) (by kernel_rfl) hW.cls (Rd.pure fun _ => by kernel_rfl) ?_; clear hA ac; intro ac hA
    refine st_rd (v := Value.int .i64 y9.2) hA (by kernel_rfl) (by kernel_rfl) (by kernel_rfl) hW.cls (Rd.pure fun _ => by kernel_rfl) ?_; clear hA ac; intro ac hA
    refine st_rd (v := Value.agg #[Value.int .i64 y9.1, Value.int .i64 y9.2]) hA (by kernel_rfl) (by kernel_rfl) (by kernel_rfl) hW.cls (Rd.pure fun _ => by kernel_rfl) ?_; clear hA ac; intro ac hA
    refine st hA (by kernel_rfl) (by kernel_rfl) (by kernel_rfl) (Runs.cells (fun b => Value.slice (some ⟨b, 0, none⟩) 1 1) #[Value.int .i64 y9.1, Value.int .i64 y9.2] 72 (fun _ => by kernel_rfl) hW ?_); clear hA ac hW; intro b14 w15 hW hb14 hfw15 ac hA
    refine st hA (by kernel_rfl) (by kernel_rfl) (by kernel_rfl) (Runs.appOwn (B := (some ⟨b14, 0, none⟩)) (k := 1) (E := 72) (sz := 2) (en := enTwo) (l := acc) (m := ([(⟨y9.1, y9.2⟩ : Two)] : List Two)) (i := 1) (by kernel_rfl) (by kernel_rfl) elt_Two (by kernel_rfl) hW rfl (rowAt_cel ((hW).cel 0 rfl) ([(⟨y9.1, y9.2⟩ : Two)] : List Two) (by rfl) elt_Two.len) (by first | omega | (simp; done) | (simp; omega)) (by first | omega | (simp; done) | (simp; omega)) ?_); clear hA ac hW; intro A16 c17 w18 hW hcc17 ac hA
    refine st hA (by kernel_rfl) (by kernel_rfl) (by kernel_rfl) (Runs.store (v := Value.slice A16 (acc ++ ([(⟨y9.1, y9.2⟩ : Two)] : List Two)).length c17) (b := b1) (j := 0) (n := 1) (cs' := #[Value.slice A16 (acc ++ ([(⟨y9.1, y9.2⟩ : Two)] : List Two)).length c17]) (H' := [Cel b14 #[Value.int .i64 y9.1, Value.int .i64 y9.2] 72, rowR 72 2 enTwo (Value.slice A16 (acc ++ ([(⟨y9.1, y9.2⟩ : Two)] : List Two)).length c17) (acc ++ ([(⟨y9.1, y9.2⟩ : Two)] : List Two)), IterX r3 b es4 ck5 (fun a : Int => Value.int .i64 a) (fun a : Int => Value.int .i64 a) (List.eraseIdx left k8) (some y9), Cel b1 #[Value.slice A16 (acc ++ ([(⟨y9.1, y9.2⟩ : Two)] : List Two)).length c17] 71]) (by kernel_rfl) (by kernel_rfl) (by kernel_rfl) (by kernel_rfl) (by kernel_rfl) hW 3 (by rfl) (Nat.le_of_ble_eq_true (by kernel_rfl)) (by kernel_rfl) (by rfl) ?_); clear hA ac hW; intro w19 hW ac hA
    refine wpList_nil ?_
    refine blkN ?_
    refine thenN ?_
    have hlt_ := er_len hkk8
    exact ⟨(List.eraseIdx left k8).length, by omega, List.eraseIdx left k8, (some y9), acc ++ ([(⟨y9.1, y9.2⟩ : Two)] : List Two), A16, c17, rfl, by rw [List.map_append, List.append_assoc]; exact ((er_perm hkk8).symm.append_left _).trans hp, hA.sub ⟨⟨by kernel_rfl, by kernel_rfl⟩, ⟨by kernel_rfl, by kernel_rfl⟩, trivial⟩, (hW.pick [1, 2, 3] (by decide) rfl).pickG [0, 1, 2] rfl⟩

end Go.Proofs.Ytgeikokmhkfkgaa.L
