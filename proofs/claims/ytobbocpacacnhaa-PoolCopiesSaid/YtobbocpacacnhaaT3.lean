/- Contracts, walked by program over the engine's laws. -/
import Derived.Test.YtobbocpacacnhaaProg
import Derived.Test.YtobbocpacacnhaaT2
namespace Go.Proofs.Ytobbocpacacnhaa.L
open Go.RowKit

theorem outs_some {κ γ : Type} [DecidableEq κ] {V : List (κ × Nat × γ)} {k : κ} : (look (outs V) k).isSome = (look (vals V) k).isSome := by
  cases h : look (outs V) k with
  | none => rw [outs_none.1 h]; rfl
  | some b => obtain ⟨i, c, -, hv⟩ := outs_at h; rw [hv]; rfl
theorem isSome_no {α : Type} {o : Option α} (h : o.isSome = false) : o = none := by cases o with
  | none => rfl
  | some a => cases h
/-- Numbers from 1 on that are all keys. -/
theorem firsts_le {α : Type} {m : List (Int × α)} {h : Int} (h1 : 1 ≤ h) (hF : ∀ j, 1 ≤ j → j < h → (look m j).isSome = true) : h ≤ m.length + 1 := by
  have hs : ((List.range (h - 1).toNat).map fun i : Nat => (i : Int) + 1) ⊆ keys m := fun a ha => by
    obtain ⟨i, hi, rfl⟩ := List.mem_map.1 ha
    have := hF ((i : Int) + 1) (by omega) (by rw [List.mem_range] at hi; omega)
    obtain ⟨v, hv⟩ := Option.isSome_iff_exists.1 this
    exact List.mem_map.2 ⟨_, look_mem hv, rfl⟩
  have hn : ((List.range (h - 1).toNat).map fun i : Nat => (i : Int) + 1).Nodup := by
    refine (List.pairwise_map.2 ((List.nodup_range).imp fun {a b} hab e => hab (by omega)))
  have := hn.length_le_of_subset hs
  simp [keys] at this
  omega
theorem vals_len {κ γ : Type} {V : List (κ × Nat × γ)} : (vals V).length = V.length := by simp [vals]
theorem outs_len {κ γ : Type} {V : List (κ × Nat × γ)} : (outs V).length = V.length := by simp [outs]
abbrev VT23 : Type := List (Int × Nat × List (Int × Mark))
def MakeR (V : VT23) (h : Int) (V' : VT23) : Prop := 1 ≤ h ∧ h ≤ V.length + 1 ∧ look (vals V) h = none ∧ (∀ j, 1 ≤ j → j < h → (look (vals V) j).isSome = true) ∧ ∃ b, V' = V ++ [(h, b, [])]
def FreeR (V : VT23) (h : Int) (V' : VT23) (er : Int) : Prop := if (look (vals V) h).isSome = true then V' = delV V h ∧ er = 0 else V' = V ∧ er = 5
def MarkR (V : VT23) (h id : Int) (m : Mark) (V' : VT23) (er : Int) : Prop :=
  if fineM id m = false then V' = V ∧ er = 2 else
  match look (vals V) h with
  | none => V' = V ∧ er = 5
  | some c => ∃ i b, V[i]? = some (h, b, c) ∧ V' = V.set i (h, b, put c id m) ∧ er = 0
/-- A mark of a handle. -/
def getP (M : List (Int × List (Int × Mark))) (h id : Int) : Option Mark := (look M h).bind fun m => look m id
theorem e_first2 (x : Bool) (A : Option Addr) (c : Nat) (w : World) (hr : RowAt w A 2 enAsk [⟨false, 1⟩, ⟨!x, 2⟩]) (hc : 2 ≤ c) : Calls Try.prog 26 #[.slice A 2 c] w fun e w' => e = .returned (.int .i64 (argErr x)) ∧ Fr No w w' := by
  have h := e_first A c [⟨false, 1⟩, ⟨!x, 2⟩] w hr hc (by simp)
  have e : firstAsk [⟨false, 1⟩, ⟨!x, 2⟩] = argErr x := by cases x <;> rfl
  rw [e] at h
  exact h
set_option maxRecDepth 100000 in
theorem e_make (p : Nat) (b : Nat) (V : List (Int × Nat × List (Int × Mark))) (w : World) (ho_p : (PoolR p b V).p w) (hl_p : ∀ x_ ∈ (PoolR p b V).fp, x_ < w.heap.size) (hl : V.length ≤ 1000) : Calls Try.prog 10 #[Value.pointer (some ⟨p, 0, none⟩)] w (fun e w' => ∃ h' : Int, ∃ V' : VT23, e = .returned (Value.tuple #[Value.int .i64 h', Value.int .i64 0]) ∧ (MakeR V h' V') ∧ Upd (PoolR p b V) (PoolR p b V') w w') := by
  have _hu := ho_p; have _hv := hl_p; clear _hu _hv
  have _hu := hl; clear _hu
  refine enter_E 28 Try.func10 rfl rfl (by kernel_rfl) (L := [(0, Value.pointer (some ⟨p, 0, none⟩))]) (by kernel_rfl) ?_
  intro ac hA
  have hW : Ws w (· ∈ (PoolR p b V).fp) [Cel p #[Value.map (some b)] 62, mapR b (fun a : Int => Value.int .i64 a) (fun x_ : Nat => Value.map (some x_)) (outs V), SubR (fun (c_ : List (Int × Mark)) (b_ : Nat) => mapR b_ (fun a : Int => Value.int .i64 a) Mark.v c_) V] [] w := Ws.unpack (K := []) (objW ho_p hl_p)
  clear ho_p hl_p
  refine wp_seq ?_
  refine wp_region_lit ?_
  refine st_rd (v := Value.int .i64 0) hA (by kernel_rfl) (by kernel_rfl) (by kernel_rfl) hW.cls (Rd.pure fun _ => by kernel_rfl) ?_; clear hA ac; intro ac hA
  refine st_rd (v := Value.int .i64 0) hA (by kernel_rfl) (by kernel_rfl) (by kernel_rfl) hW.cls (Rd.pure fun _ => by kernel_rfl) ?_; clear hA ac; intro ac hA
  refine wpList_nil ?_
  refine thenN ?_
  refine wp_fwd (l := 0) rfl ?_
  refine wp_seq ?_
  refine wp_seq ?_
  refine wp_region_lit ?_
  refine st_rd (v := Value.int .i64 1) hA (by kernel_rfl) (by kernel_rfl) (by kernel_rfl) hW.cls (Rd.pure fun _ => by kernel_rfl) ?_; clear hA ac; intro ac hA
  refine wpList_nil ?_
  refine thenN ?_
  refine wp_seq ?_
  refine wp_region_lit ?_
  refine st_rd (v := Value.pointer (some ⟨p, 0, none⟩)) hA (by kernel_rfl) (by kernel_rfl) (by kernel_rfl) hW.cls (Rd.pure fun _ => by kernel_rfl) ?_; clear hA ac; intro ac hA
  refine st hA (by kernel_rfl) (by kernel_rfl) (by kernel_rfl) (Runs.callS (v := Value.bool false) (fun _ => by kernel_rfl) (e_none p b w ((hW).cel 0 rfl)) ?_); clear hA ac; intro  ac hA
  refine wpList_nil ?_
  refine thenN ?_
  refine wp_cond_false (hA.eval (by kernel_rfl)) ?_
  refine wp_skip ?_
  refine thenN ?_
  refine wp_seq ?_
  refine wp_seq ?_
  refine wp_region_lit ?_
  refine st_rd (v := Value.int .i64 3) hA (by kernel_rfl) (by kernel_rfl) (by kernel_rfl) hW.cls (Rd.pure fun _ => by kernel_rfl) ?_; clear hA ac; intro ac hA
  refine wpList_nil ?_
  refine thenN ?_
  refine wp_seq ?_
  refine wp_region_lit ?_
  refine st_rd (v := Value.pointer (some ⟨p, 0, none⟩)) hA (by kernel_rfl) (by kernel_rfl) (by kernel_rfl) hW.cls (Rd.pure fun _ => by kernel_rfl) ?_; clear hA ac; intro ac hA
  refine st_rd (v := Value.pointer (some ⟨p, 0, none⟩)) hA (by kernel_rfl) (by kernel_rfl) (by kernel_rfl) hW.cls (Rd.pure fun _ => by kernel_rfl) ?_; clear hA ac; intro ac hA
  refine st_rd (v := Value.pointer (some ⟨p, 0, none⟩)) hA (by kernel_rfl) (by kernel_rfl) (by kernel_rfl) hW.cls (Rd.pure fun _ => by kernel_rfl) ?_; clear hA ac; intro ac hA
  refine st_rd (v := Value.map (some b)) hA (by kernel_rfl) (by kernel_rfl) (by kernel_rfl) hW.cls (Rd.load (b := p) (i := 0) (by kernel_rfl) (fun _ hw => (hw.1).cel 0 rfl) (by kernel_rfl)) ?_; clear hA ac; intro ac hA
  refine st_rd (v := Value.int .i64 (((outs V).length : Nat) : Int)) hA (by kernel_rfl) (by kernel_rfl) (by kernel_rfl) hW.cls (Rd.mapLen (k := 3) (e := 69) (ek := (fun a : Int => Value.int .i64 a)) (ev := (fun x_ : Nat => Value.map (some x_))) (m := (outs V)) (by kernel_rfl) (by kernel_rfl) (fun _ hw => (hw.1).get 1 rfl)) ?_; clear hA ac; intro ac hA
  refine st_rd (v := Value.bool (decide (((((outs V).length : Nat) : Int) : Int) ≥ (65536 : Int)))) hA (by kernel_rfl) (by kernel_rfl) (by kernel_rfl) hW.cls (Rd.pure fun _ => by kernel_rfl) ?_; clear hA ac; intro ac hA
  refine wpList_nil ?_
  refine thenN ?_
  refine wp_cond_split (t := decide (((((outs V).length : Nat) : Int) : Int) ≥ (65536 : Int))) (hA.eval (by kernel_rfl)) (fun h1 => ?_) (fun h1 => ?_)
  · skip
    have h1 := of_decide_eq_true h1
    first
    | (exfalso; clear hA hW; omega)
    | (exfalso; clear hA hW; rw [outs_len] at *; omega; done)
    | (
        fail)
  · skip
    have h1 := of_decide_eq_false h1
    first
    | (exfalso; clear hA hW; omega)
    | (exfalso; clear hA hW; rw [outs_len] at *; omega; done)
    | (
        refine wp_skip ?_
        refine thenN ?_
        refine wp_seq ?_
        refine wp_seq ?_
        refine wp_region_lit ?_
        refine st_rd (v := Value.int .i64 1) hA (by kernel_rfl) (by kernel_rfl) (by kernel_rfl) hW.cls (Rd.pure fun _ => by kernel_rfl) ?_; clear hA ac; intro ac hA
        refine wpList_nil ?_
        refine thenN ?_
        refine wp_block ?_
        refine wp_loop_m (fun m_ ac_ wl_ => ∃ h : Int, m_ = V.length + 2 - Int.toNat h ∧ (1 ≤ h) ∧ (∀ j, 1 ≤ j → j < h → (look (vals V) j).isSome = true) ∧ Fm 28 [] [(0, Value.pointer (some ⟨p, 0, none⟩)), (2, Value.int .i64 h)] ac_ ∧ Ws w (· ∈ (PoolR p b V).fp) [Cel p #[Value.map (some b)] 62, mapR b (fun a : Int => Value.int .i64 a) (fun x_ : Nat => Value.map (some x_)) (outs V), SubR (fun (c_ : List (Int × Mark)) (b_ : Nat) => mapR b_ (fun a : Int => Value.int .i64 a) Mark.v c_) V] [] wl_) _ ⟨1, rfl, by omega, by intro j h1 h2; omega, hA.sub ⟨⟨by kernel_rfl, by kernel_rfl⟩, ⟨by kernel_rfl, by kernel_rfl⟩, trivial⟩, (hW.pick [0, 1, 2] (by decide) rfl).pickG [] rfl⟩ ?_
        clear hA ac hW; rintro m_ ac w2 ⟨h, rfl, h1, hF, hA, hW⟩
        have hfl := firsts_le h1 hF; rw [vals_len] at hfl
        refine wp_seq ?_
        refine wp_seq ?_
        refine wp_region_lit ?_
        refine st_rd (v := Value.pointer (some ⟨p, 0, none⟩)) hA (by kernel_rfl) (by kernel_rfl) (by kernel_rfl) hW.cls (Rd.pure fun _ => by kernel_rfl) ?_; clear hA ac; intro ac hA
        refine st_rd (v := Value.pointer (some ⟨p, 0, none⟩)) hA (by kernel_rfl) (by kernel_rfl) (by kernel_rfl) hW.cls (Rd.pure fun _ => by kernel_rfl) ?_; clear hA ac; intro ac hA
        refine st_rd (v := Value.pointer (some ⟨p, 0, none⟩)) hA (by kernel_rfl) (by kernel_rfl) (by kernel_rfl) hW.cls (Rd.pure fun _ => by kernel_rfl) ?_; clear hA ac; intro ac hA
        refine st_rd (v := Value.map (some b)) hA (by kernel_rfl) (by kernel_rfl) (by kernel_rfl) hW.cls (Rd.load (b := p) (i := 0) (by kernel_rfl) (fun _ hw => (hw.1).cel 0 rfl) (by kernel_rfl)) ?_; clear hA ac; intro ac hA
        refine st_rd (v := Value.int .i64 h) hA (by kernel_rfl) (by kernel_rfl) (by kernel_rfl) hW.cls (Rd.pure fun _ => by kernel_rfl) ?_; clear hA ac; intro ac hA
        refine st hA (by kernel_rfl) (by kernel_rfl) (by kernel_rfl) (Runs.callN (v := Value.bool (look (outs V) (h)).isSome) (fun _ => by kernel_rfl) hW (e_there b (outs V) (h) w2 ((hW).get 1 rfl)) ?_); clear hA ac hW; intro w3 hW hfw3 ac hA
        refine wpList_nil ?_
        refine thenN ?_
        refine wp_cond_split (t := (look (outs V) (h)).isSome) (hA.eval (by kernel_rfl)) (fun h4 => ?_) (fun h4 => ?_)
        · skip
          first
          | (exfalso; clear hA hW; omega)
          | (exfalso; clear hA hW; rw [outs_len] at *; omega; done)
          | (
              refine wp_skip ?_
              refine thenN ?_
              refine wp_seq ?_
              refine wp_block ?_
              refine wp_skip ?_
              refine blkN ?_
              refine thenN ?_
              refine wp_region_lit ?_
              refine st_rd (v := Value.int .i64 h) hA (by kernel_rfl) (by kernel_rfl) (by kernel_rfl) hW.cls (Rd.pure fun _ => by kernel_rfl) ?_; clear hA ac; intro ac hA
              refine st_rd (v := Value.int .i64 ((h : Int) + 1)) hA (by kernel_rfl) (by kernel_rfl) (by kernel_rfl) hW.cls (Rd.pureE (v0 := Value.int .i64 (IntKind.i64.wrap ((h : Int) + 1))) (fun _ => by kernel_rfl) (congrArg (Value.int .i64) ((w_i64 (x := (h : Int) + 1) (by omega) (by omega)).trans (by omega)))) ?_; clear hA ac; intro ac hA
              refine st_rd (v := Value.int .i64 ((h : Int) + 1)) hA (by kernel_rfl) (by kernel_rfl) (by kernel_rfl) hW.cls (Rd.pure fun _ => by kernel_rfl) ?_; clear hA ac; intro ac hA
              refine wpList_nil ?_
              refine thenN ?_
              have hfl2 := firsts_le (h := h + 1) (m := vals V) (by omega) (fun j hj1 hj2 => by by_cases q_ : j = h; (subst q_; rw [← outs_some]; exact h4); exact hF j hj1 (by omega)); rw [vals_len] at hfl2
              exact ⟨V.length + 2 - Int.toNat (h + 1), by omega, h + 1, rfl, by omega, by intro j hj1 hj2; by_cases q_ : j = h; (subst q_; rw [← outs_some]; exact h4); exact hF j hj1 (by omega), hA.sub ⟨⟨by kernel_rfl, by kernel_rfl⟩, ⟨by kernel_rfl, by kernel_rfl⟩, trivial⟩, (hW.pick [0, 1, 2] (by decide) rfl).pickG [] rfl⟩)
        · skip
          first
          | (exfalso; clear hA hW; omega)
          | (exfalso; clear hA hW; rw [outs_len] at *; omega; done)
          | (
              refine wp_exit ?_
              refine thenX ?_
              refine thenX ?_
              refine blkX ?_
              refine thenN ?_
              refine wp_seq ?_
              refine wp_region_lit ?_
              refine st_rd (v := Value.pointer (some ⟨p, 0, none⟩)) hA (by kernel_rfl) (by kernel_rfl) (by kernel_rfl) hW.cls (Rd.pure fun _ => by kernel_rfl) ?_; clear hA ac; intro ac hA
              refine st_rd (v := Value.pointer (some ⟨p, 0, none⟩)) hA (by kernel_rfl) (by kernel_rfl) (by kernel_rfl) hW.cls (Rd.pure fun _ => by kernel_rfl) ?_; clear hA ac; intro ac hA
              refine st_rd (v := Value.pointer (some ⟨p, 0, none⟩)) hA (by kernel_rfl) (by kernel_rfl) (by kernel_rfl) hW.cls (Rd.pure fun _ => by kernel_rfl) ?_; clear hA ac; intro ac hA
              refine st_rd (v := Value.map (some b)) hA (by kernel_rfl) (by kernel_rfl) (by kernel_rfl) hW.cls (Rd.load (b := p) (i := 0) (by kernel_rfl) (fun _ hw => (hw.1).cel 0 rfl) (by kernel_rfl)) ?_; clear hA ac; intro ac hA
              refine st_rd (v := Value.int .i64 h) hA (by kernel_rfl) (by kernel_rfl) (by kernel_rfl) hW.cls (Rd.pure fun _ => by kernel_rfl) ?_; clear hA ac; intro ac hA
              refine st hA (by kernel_rfl) (by kernel_rfl) (by kernel_rfl) (Runs.makeMap (fun a : Int => Value.int .i64 a) Mark.v hW ?_); clear hA ac hW; intro b5 w6 hW hb5 hfw6 ac hA
              refine st hA (by kernel_rfl) (by kernel_rfl) (by kernel_rfl) (Runs.mapUpdate (k := 3) (e := 69) (ek := (fun a : Int => Value.int .i64 a)) (ev := (fun x_ : Nat => Value.map (some x_))) (m := (outs V)) (h : Int) b5 (by kernel_rfl) (by kernel_rfl) (by kernel_rfl) (KeyE.int (by kernel_rfl)) (by kernel_rfl) hW (i := 2) rfl ?_); clear hA ac hW; intro w7 hW ac hA
              refine wpList_nil ?_
              refine thenN ?_
              refine wp_seq ?_
              refine wp_seq ?_
              refine wp_region_lit ?_
              refine st_rd (v := Value.int .i64 h) hA (by kernel_rfl) (by kernel_rfl) (by kernel_rfl) hW.cls (Rd.pure fun _ => by kernel_rfl) ?_; clear hA ac; intro ac hA
              refine st_rd (v := Value.int .i64 h) hA (by kernel_rfl) (by kernel_rfl) (by kernel_rfl) hW.cls (Rd.pure fun _ => by kernel_rfl) ?_; clear hA ac; intro ac hA
              refine st_rd (v := Value.int .i64 0) hA (by kernel_rfl) (by kernel_rfl) (by kernel_rfl) hW.cls (Rd.pure fun _ => by kernel_rfl) ?_; clear hA ac; intro ac hA
              refine wpList_nil ?_
              refine thenN ?_
              refine wp_ret ?_
              refine thenR ?_
              refine fwdR ?_
              refine ret2 (v1 := Value.int .i64 h) (v2 := Value.int .i64 0) (by rfl) hA (Got.tmp hA (by kernel_rfl) (by kernel_rfl)) (Got.tmp hA (by kernel_rfl) (by kernel_rfl)) ?_
              clear hA
              have hno := isSome_no h4
              rw [put_end hno, ← outs_snoc h b5 ([] : MarkM)] at hW
              have hW := Ws.subAdd (f := (fun (c_ : List (Int × Mark)) (b_ : Nat) => mapR b_ (fun a : Int => Value.int .i64 a) Mark.v c_)) (hW.pick [0, 3, 1, 2] (by decide) rfl) h
              replace hW : Ws w (· ∈ (PoolR p b V).fp) [SubR (fun (c_ : List (Int × Mark)) (b_ : Nat) => mapR b_ (fun a : Int => Value.int .i64 a) Mark.v c_) (V ++ [(h, b5, ([] : MarkM))]), Cel p #[Value.map (some b)] 62, mapR b (fun a : Int => Value.int .i64 a) (fun x_ : Nat => Value.map (some x_)) (outs (V ++ [(h, b5, ([] : MarkM))]))] [] w7 := hW
              exact ⟨h, V ++ [(h, b5, ([] : MarkM))], rfl, by exact ⟨h1, hfl, outs_none.1 hno, hF, _, rfl⟩, (Ws.pack (K := []) (show Ws w (· ∈ (PoolR p b V).fp) ([Cel p #[Value.map (some b)] 62, mapR b (fun a : Int => Value.int .i64 a) (fun x_ : Nat => Value.map (some x_)) (outs (V ++ [(h, b5, ([] : MarkM))])), SubR (fun (c_ : List (Int × Mark)) (b_ : Nat) => mapR b_ (fun a : Int => Value.int .i64 a) Mark.v c_) (V ++ [(h, b5, ([] : MarkM))])] ++ []) [] _ from hW.pick [1, 2, 0] (by decide) rfl)).updDone 0 rfl⟩))

set_option maxRecDepth 100000 in
theorem e_free (p : Nat) (b : Nat) (V : List (Int × Nat × List (Int × Mark))) (h : Int) (w : World) (ho_p : (PoolR p b V).p w) (hl_p : ∀ x_ ∈ (PoolR p b V).fp, x_ < w.heap.size) : Calls Try.prog 12 #[Value.pointer (some ⟨p, 0, none⟩), Value.int .i64 h] w (fun e w' => ∃ V' : VT23, ∃ er : Int, e = .returned (Value.int .i64 er) ∧ (FreeR V h V' er) ∧ Upd (PoolR p b V) (PoolR p b V') w w') := by
  have _hu := ho_p; have _hv := hl_p; clear _hu _hv
  refine enter_E 20 Try.func12 rfl rfl (by kernel_rfl) (L := [(0, Value.pointer (some ⟨p, 0, none⟩)), (1, Value.int .i64 h)]) (by kernel_rfl) ?_
  intro ac hA
  have hW : Ws w (· ∈ (PoolR p b V).fp) [Cel p #[Value.map (some b)] 62, mapR b (fun a : Int => Value.int .i64 a) (fun x_ : Nat => Value.map (some x_)) (outs V), SubR (fun (c_ : List (Int × Mark)) (b_ : Nat) => mapR b_ (fun a : Int => Value.int .i64 a) Mark.v c_) V] [] w := Ws.unpack (K := []) (objW ho_p hl_p)
  clear ho_p hl_p
  refine wp_seq ?_
  refine wp_region_lit ?_
  refine st_rd (v := Value.int .i64 0) hA (by kernel_rfl) (by kernel_rfl) (by kernel_rfl) hW.cls (Rd.pure fun _ => by kernel_rfl) ?_; clear hA ac; intro ac hA
  refine wpList_nil ?_
  refine thenN ?_
  refine wp_fwd (l := 0) rfl ?_
  refine wp_seq ?_
  refine wp_seq ?_
  refine wp_region_lit ?_
  refine st_rd (v := Value.int .i64 1) hA (by kernel_rfl) (by kernel_rfl) (by kernel_rfl) hW.cls (Rd.pure fun _ => by kernel_rfl) ?_; clear hA ac; intro ac hA
  refine wpList_nil ?_
  refine thenN ?_
  refine wp_seq ?_
  refine wp_region_lit ?_
  refine st_rd (v := Value.pointer (some ⟨p, 0, none⟩)) hA (by kernel_rfl) (by kernel_rfl) (by kernel_rfl) hW.cls (Rd.pure fun _ => by kernel_rfl) ?_; clear hA ac; intro ac hA
  refine st hA (by kernel_rfl) (by kernel_rfl) (by kernel_rfl) (Runs.callS (v := Value.bool false) (fun _ => by kernel_rfl) (e_none p b w ((hW).cel 0 rfl)) ?_); clear hA ac; intro  ac hA
  refine wpList_nil ?_
  refine thenN ?_
  refine wp_cond_false (hA.eval (by kernel_rfl)) ?_
  refine wp_skip ?_
  refine thenN ?_
  refine wp_seq ?_
  refine wp_seq ?_
  refine wp_region_lit ?_
  refine st_rd (v := Value.int .i64 5) hA (by kernel_rfl) (by kernel_rfl) (by kernel_rfl) hW.cls (Rd.pure fun _ => by kernel_rfl) ?_; clear hA ac; intro ac hA
  refine wpList_nil ?_
  refine thenN ?_
  refine wp_seq ?_
  refine wp_region_lit ?_
  refine st_rd (v := Value.pointer (some ⟨p, 0, none⟩)) hA (by kernel_rfl) (by kernel_rfl) (by kernel_rfl) hW.cls (Rd.pure fun _ => by kernel_rfl) ?_; clear hA ac; intro ac hA
  refine st_rd (v := Value.pointer (some ⟨p, 0, none⟩)) hA (by kernel_rfl) (by kernel_rfl) (by kernel_rfl) hW.cls (Rd.pure fun _ => by kernel_rfl) ?_; clear hA ac; intro ac hA
  refine st_rd (v := Value.pointer (some ⟨p, 0, none⟩)) hA (by kernel_rfl) (by kernel_rfl) (by kernel_rfl) hW.cls (Rd.pure fun _ => by kernel_rfl) ?_; clear hA ac; intro ac hA
  refine st_rd (v := Value.map (some b)) hA (by kernel_rfl) (by kernel_rfl) (by kernel_rfl) hW.cls (Rd.load (b := p) (i := 0) (by kernel_rfl) (fun _ hw => (hw.1).cel 0 rfl) (by kernel_rfl)) ?_; clear hA ac; intro ac hA
  refine st_rd (v := Value.int .i64 h) hA (by kernel_rfl) (by kernel_rfl) (by kernel_rfl) hW.cls (Rd.pure fun _ => by kernel_rfl) ?_; clear hA ac; intro ac hA
  refine st hA (by kernel_rfl) (by kernel_rfl) (by kernel_rfl) (Runs.callN (v := Value.bool (look (outs V) (h)).isSome) (fun _ => by kernel_rfl) hW (e_there b (outs V) (h) w ((hW).get 1 rfl)) ?_); clear hA ac hW; intro w1 hW hfw1 ac hA
  refine st_rd (v := Value.bool (!(look (outs V) (h)).isSome)) hA (by kernel_rfl) (by kernel_rfl) (by kernel_rfl) hW.cls (Rd.pure fun _ => by kernel_rfl) ?_; clear hA ac; intro ac hA
  refine wpList_nil ?_
  refine thenN ?_
  refine wp_cond_split (t := !(look (outs V) (h)).isSome) (hA.eval (by kernel_rfl)) (fun h2 => ?_) (fun h2 => ?_)
  · skip
    have h2 := not_t h2
    first
    | (exfalso; clear hA hW; omega)
    | (
        refine wp_goto ?_
        refine thenG ?_
        refine fwdG ?_
        refine wp_seq ?_
        refine wp_skip ?_
        refine thenN ?_
        refine wp_seq ?_
        refine wp_region_lit ?_
        refine st_rd (v := Value.int .i64 5) hA (by kernel_rfl) (by kernel_rfl) (by kernel_rfl) hW.cls (Rd.pure fun _ => by kernel_rfl) ?_; clear hA ac; intro ac hA
        refine st_rd (v := Value.int .i64 5) hA (by kernel_rfl) (by kernel_rfl) (by kernel_rfl) hW.cls (Rd.pure fun _ => by kernel_rfl) ?_; clear hA ac; intro ac hA
        refine wpList_nil ?_
        refine thenN ?_
        refine wp_ret ?_
        refine nogR ?_
        refine ret1 (v := Value.int .i64 5) (by rfl) hA (Got.tmp hA (by kernel_rfl) (by kernel_rfl)) ?_
        clear hA
        exact ⟨V, 5, rfl, by unfold FreeR; rw [← outs_some]; simp_all, (Ws.pack (K := []) (show Ws w (· ∈ (PoolR p b V).fp) ([Cel p #[Value.map (some b)] 62, mapR b (fun a : Int => Value.int .i64 a) (fun x_ : Nat => Value.map (some x_)) (outs V), SubR (fun (c_ : List (Int × Mark)) (b_ : Nat) => mapR b_ (fun a : Int => Value.int .i64 a) Mark.v c_) V] ++ []) [] _ from hW.pick [0, 1, 2] (by decide) rfl)).updDone 0 rfl⟩)
  · skip
    have h2 := not_f h2
    first
    | (exfalso; clear hA hW; omega)
    | (
        refine wp_skip ?_
        refine thenN ?_
        refine wp_seq ?_
        refine wp_region_lit ?_
        refine st_rd (v := Value.pointer (some ⟨p, 0, none⟩)) hA (by kernel_rfl) (by kernel_rfl) (by kernel_rfl) hW.cls (Rd.pure fun _ => by kernel_rfl) ?_; clear hA ac; intro ac hA
        refine st_rd (v := Value.pointer (some ⟨p, 0, none⟩)) hA (by kernel_rfl) (by kernel_rfl) (by kernel_rfl) hW.cls (Rd.pure fun _ => by kernel_rfl) ?_; clear hA ac; intro ac hA
        refine st_rd (v := Value.pointer (some ⟨p, 0, none⟩)) hA (by kernel_rfl) (by kernel_rfl) (by kernel_rfl) hW.cls (Rd.pure fun _ => by kernel_rfl) ?_; clear hA ac; intro ac hA
        refine st_rd (v := Value.map (some b)) hA (by kernel_rfl) (by kernel_rfl) (by kernel_rfl) hW.cls (Rd.load (b := p) (i := 0) (by kernel_rfl) (fun _ hw => (hw.1).cel 0 rfl) (by kernel_rfl)) ?_; clear hA ac; intro ac hA
        refine st_rd (v := Value.int .i64 h) hA (by kernel_rfl) (by kernel_rfl) (by kernel_rfl) hW.cls (Rd.pure fun _ => by kernel_rfl) ?_; clear hA ac; intro ac hA
        refine st hA (by kernel_rfl) (by kernel_rfl) (by kernel_rfl) (Runs.delete (k := 3) (e := 69) (ek := (fun a : Int => Value.int .i64 a)) (ev := (fun x_ : Nat => Value.map (some x_))) (m := (outs V)) (h : Int) (by kernel_rfl) (by kernel_rfl) (KeyE.int (by kernel_rfl)) (by kernel_rfl) hW (i := 1) rfl ?_); clear hA ac hW; intro w3 hW ac hA
        refine wpList_nil ?_
        refine thenN ?_
        refine wp_seq ?_
        refine wp_seq ?_
        refine wp_region_lit ?_
        refine st_rd (v := Value.int .i64 0) hA (by kernel_rfl) (by kernel_rfl) (by kernel_rfl) hW.cls (Rd.pure fun _ => by kernel_rfl) ?_; clear hA ac; intro ac hA
        refine wpList_nil ?_
        refine thenN ?_
        refine wp_ret ?_
        refine thenR ?_
        refine fwdR ?_
        refine ret1 (v := Value.int .i64 0) (by rfl) hA (Got.tmp hA (by kernel_rfl) (by kernel_rfl)) ?_
        clear hA
        rw [← outs_delV] at hW
        have hW := Ws.subLess (hW.pick [2, 0, 1] (by decide) rfl) (delV_sub (k := (h : Int)))
        replace hW : Ws w (· ∈ (PoolR p b V).fp) [SubR (fun (c_ : List (Int × Mark)) (b_ : Nat) => mapR b_ (fun a : Int => Value.int .i64 a) Mark.v c_) (delV V (h : Int)), Cel p #[Value.map (some b)] 62, mapR b (fun a : Int => Value.int .i64 a) (fun x_ : Nat => Value.map (some x_)) (outs (delV V (h : Int)))] [] w3 := hW
        exact ⟨delV V h, 0, rfl, by unfold FreeR; rw [← outs_some]; simp_all, (Ws.pack (K := []) (show Ws w (· ∈ (PoolR p b V).fp) ([Cel p #[Value.map (some b)] 62, mapR b (fun a : Int => Value.int .i64 a) (fun x_ : Nat => Value.map (some x_)) (outs (delV V (h : Int))), SubR (fun (c_ : List (Int × Mark)) (b_ : Nat) => mapR b_ (fun a : Int => Value.int .i64 a) Mark.v c_) (delV V (h : Int))] ++ []) [] _ from hW.pick [1, 2, 0] (by decide) rfl)).updDone 0 rfl⟩)

set_option maxRecDepth 100000 in
theorem e_mark (p : Nat) (b : Nat) (V : List (Int × Nat × List (Int × Mark))) (h : Int) (id : Int) (m : Mark) (w : World) (ho_p : (PoolR p b V).p w) (hl_p : ∀ x_ ∈ (PoolR p b V).fp, x_ < w.heap.size) (hid : -9223372036854775808 ≤ id ∧ id ≤ 9223372036854775807) (hcl : 0 ≤ m.clock ∧ m.clock ≤ 18446744073709551615) : Calls Try.prog 13 #[Value.pointer (some ⟨p, 0, none⟩), Value.int .i64 h, Value.int .i64 id, m.v] w (fun e w' => ∃ V' : VT23, ∃ er : Int, e = .returned (Value.int .i64 er) ∧ (MarkR V h id m V' er) ∧ Upd (PoolR p b V) (PoolR p b V') w w') := by
  have _hu := ho_p; have _hv := hl_p; clear _hu _hv
  have _hu := hid; clear _hu
  have _hu := hcl; clear _hu
  refine enter_E 38 Try.func13 rfl rfl (by kernel_rfl) (L := [(0, Value.pointer (some ⟨p, 0, none⟩)), (1, Value.int .i64 h), (2, Value.int .i64 id), (3, m.v)]) (by kernel_rfl) ?_
  intro ac hA
  have hW : Ws w (· ∈ (PoolR p b V).fp) [Cel p #[Value.map (some b)] 62, mapR b (fun a : Int => Value.int .i64 a) (fun x_ : Nat => Value.map (some x_)) (outs V), SubR (fun (c_ : List (Int × Mark)) (b_ : Nat) => mapR b_ (fun a : Int => Value.int .i64 a) Mark.v c_) V] [] w := Ws.unpack (K := []) (objW ho_p hl_p)
  clear ho_p hl_p
  refine wp_seq ?_
  refine wp_region_lit ?_
  refine st hA (by kernel_rfl) (by kernel_rfl) (by kernel_rfl) (Runs.cells (fun b => Value.pointer (some ⟨b, 0, none⟩)) #[Value.int .u64 m.clock, Value.int .i64 m.site.f, Value.int .i64 m.site.pc] 32 (fun _ => by kernel_rfl) hW ?_); clear hA ac hW; intro b1 w2 hW hb1 hfw2 ac hA
  refine st_rd (v := Value.int .i64 0) hA (by kernel_rfl) (by kernel_rfl) (by kernel_rfl) hW.cls (Rd.pure fun _ => by kernel_rfl) ?_; clear hA ac; intro ac hA
  refine wpList_nil ?_
  refine thenN ?_
  refine wp_seq ?_
  refine wp_seq ?_
  refine wp_cut (fun ac_ wl_ => ∃ br1_8 : Nat, Fm 38 [] [(0, Value.pointer (some ⟨p, 0, none⟩)), (1, Value.int .i64 h), (2, Value.int .i64 id), (3, m.v), (7, Value.pointer (some ⟨b1, 0, none⟩)), (8, Value.int .i64 0), (9, Value.int .i64 (argErr (fineM (id) m)))] ac_ ∧ Ws w (· ∈ (PoolR p b V).fp) [Cel br1_8 #[Value.bool false, Value.int .i64 1, Value.bool (!(fineM (id) m)), Value.int .i64 2] 73, Cel b1 #[Value.int .u64 m.clock, Value.int .i64 m.site.f, Value.int .i64 m.site.pc] 32, Cel p #[Value.map (some b)] 62, mapR b (fun a : Int => Value.int .i64 a) (fun x_ : Nat => Value.map (some x_)) (outs V), SubR (fun (c_ : List (Int × Mark)) (b_ : Nat) => mapR b_ (fun a : Int => Value.int .i64 a) Mark.v c_) V] [] wl_) ?_ ?_
  · refine sr_region (m := 11) (C := Ws w (· ∈ (PoolR p b V).fp) [Cel b1 #[Value.int .u64 m.clock, Value.int .i64 m.site.f, Value.int .i64 m.site.pc] 32, Cel p #[Value.map (some b)] 62, mapR b (fun a : Int => Value.int .i64 a) (fun x_ : Nat => Value.map (some x_)) (outs V), SubR (fun (c_ : List (Int × Mark)) (b_ : Nat) => mapR b_ (fun a : Int => Value.int .i64 a) Mark.v c_) V] []) (fun i => [4].contains i) (fun i => [1, 4].contains i) (fun i => [0, 2, 3, 6, 7, 10].contains i) (by kernel_rfl) (by kernel_rfl) (by kernel_rfl) (by kernel_rfl) hW ?_; clear hW; intro w3 hW hfw3 hR; have hC : Ws w (· ∈ (PoolR p b V).fp) [Cel b1 #[Value.int .u64 m.clock, Value.int .i64 m.site.f, Value.int .i64 m.site.pc] 32, Cel p #[Value.map (some b)] 62, mapR b (fun a : Int => Value.int .i64 a) (fun x_ : Nat => Value.map (some x_)) (outs V), SubR (fun (c_ : List (Int × Mark)) (b_ : Nat) => mapR b_ (fun a : Int => Value.int .i64 a) Mark.v c_) V] [] w3 := hW.pick [0, 1, 2, 3] (by decide) rfl
    refine sr_pure (i := 0) (v := Value.pointer (some ⟨p, 0, none⟩)) hR (by kernel_rfl) rfl (by kernel_rfl) (by kernel_rfl) (fun _ _ _ h => h.elim) hA (by kernel_rfl) (by kernel_rfl) (by kernel_rfl) (Rd.pure fun _ => by kernel_rfl) ?_; clear hA ac; intro ac hA
    refine sr_pure (i := 3) (v := Value.int .i64 id) hR (by kernel_rfl) rfl (by kernel_rfl) (by kernel_rfl) (fun _ _ _ h => h.elim) hA (by kernel_rfl) (by kernel_rfl) (by kernel_rfl) (Rd.pure fun _ => by kernel_rfl) ?_; clear hA ac; intro ac hA
    refine sr_take (i := 4) (v := Value.agg #[Value.int .u64 m.clock, Value.int .i64 m.site.f, Value.int .i64 m.site.pc]) hR (by kernel_rfl) rfl (by kernel_rfl) (by kernel_rfl) (by kernel_rfl) (fun _ _ _ h => h.elim) hA (by kernel_rfl) (by kernel_rfl) (by kernel_rfl) hC (Rd.load (b := b1) (i := 0) (by kernel_rfl) (fun _ hw => (hw).cel 0 rfl) (by kernel_rfl)) ?_; clear hA ac; intro ac hA
    refine sr_one (i := 1) (by kernel_rfl) (sr_do rfl hA (by kernel_rfl) (by kernel_rfl) (by kernel_rfl) (Runs.callS (v := Value.bool false) (fun _ => by kernel_rfl) (e_none p b w3 ((hW).cel 1 rfl)) ?_)); clear hA ac; intro  ac hA
    refine ⟨⟨fun _ => (hW.pick [0, 1, 2, 3] (by decide) rfl).pickG [] rfl, fun h => absurd h (by decide)⟩, ?_⟩; have hC : Ws w (· ∈ (PoolR p b V).fp) [Cel b1 #[Value.int .u64 m.clock, Value.int .i64 m.site.f, Value.int .i64 m.site.pc] 32, Cel p #[Value.map (some b)] 62, mapR b (fun a : Int => Value.int .i64 a) (fun x_ : Nat => Value.map (some x_)) (outs V), SubR (fun (c_ : List (Int × Mark)) (b_ : Nat) => mapR b_ (fun a : Int => Value.int .i64 a) Mark.v c_) V] [] w3 := (hW.pick [0, 1, 2, 3] (by decide) rfl).pickG [] rfl
    refine sr_pure (i := 2) (v := Value.agg #[Value.bool false, Value.int .i64 1]) hR (by kernel_rfl) rfl (by kernel_rfl) (by kernel_rfl) (fun _ _ _ h => h.elim) hA (by kernel_rfl) (by kernel_rfl) (by kernel_rfl) (Rd.pure fun _ => by kernel_rfl) ?_; clear hA ac; intro ac hA
    refine sr_one (i := 5) (by kernel_rfl) (sr_do rfl hA (by kernel_rfl) (by kernel_rfl) (by kernel_rfl) (Runs.callN (v := Value.bool (fineM (id) m)) (fun _ => by kernel_rfl) hW (e_fine (id) m w3 (by first | omega | (simp; done)) (by first | omega | (simp; done))) ?_)); clear hA ac hW; intro w4 hW hfw4 ac hA
    refine ⟨⟨fun h => absurd h (by decide), fun h => absurd h (by decide)⟩, ?_⟩
    refine sr_pure (i := 6) (v := Value.bool (!(fineM (id) m))) hR (by kernel_rfl) rfl (by kernel_rfl) (by kernel_rfl) (fun _ _ _ h => h.elim) hA (by kernel_rfl) (by kernel_rfl) (by kernel_rfl) (Rd.pure fun _ => by kernel_rfl) ?_; clear hA ac; intro ac hA
    refine sr_pure (i := 7) (v := Value.agg #[Value.bool (!(fineM (id) m)), Value.int .i64 2]) hR (by kernel_rfl) rfl (by kernel_rfl) (by kernel_rfl) (fun _ _ _ h => h.elim) hA (by kernel_rfl) (by kernel_rfl) (by kernel_rfl) (Rd.pure fun _ => by kernel_rfl) ?_; clear hA ac; intro ac hA
    refine sr_one (i := 8) (by kernel_rfl) (sr_do rfl hA (by kernel_rfl) (by kernel_rfl) (by kernel_rfl) (Runs.cells (fun b => Value.slice (some ⟨b, 0, none⟩) 2 2) #[Value.bool false, Value.int .i64 1, Value.bool (!(fineM (id) m)), Value.int .i64 2] 73 (fun _ => by kernel_rfl) hW ?_)); clear hA ac hW; intro br1_8 w5 hW hbr1_8 hfw5 ac hA
    refine ⟨⟨fun h => absurd h (by decide), fun h => absurd h (by decide)⟩, ?_⟩
    refine sr_one (i := 9) (by kernel_rfl) (sr_do rfl hA (by kernel_rfl) (by kernel_rfl) (by kernel_rfl) (Runs.callN (v := Value.int .i64 (argErr (fineM (id) m))) (fun _ => by kernel_rfl) hW (e_first2 (fineM (id) m) (some ⟨br1_8, 0, none⟩) 2 w5 (rowAt_cel ((hW).cel 0 rfl) ([(⟨false, 1⟩ : Ask), (⟨!(fineM (id) m), 2⟩ : Ask)] : List Ask) (by rfl) elt_Ask.len) (by omega)) ?_)); clear hA ac hW; intro w6 hW hfw6 ac hA
    refine ⟨⟨fun h => absurd h (by decide), fun h => absurd h (by decide)⟩, ?_⟩
    refine sr_pure (i := 10) (v := Value.int .i64 (argErr (fineM (id) m))) hR (by kernel_rfl) rfl (by kernel_rfl) (by kernel_rfl) (fun _ _ _ h => h.elim) hA (by kernel_rfl) (by kernel_rfl) (by kernel_rfl) (Rd.pure fun _ => by kernel_rfl) ?_; clear hA ac; intro ac hA
    refine sr_done (by kernel_rfl) ?_ _
    exact ⟨br1_8, hA.sub ⟨⟨by kernel_rfl, by kernel_rfl⟩, ⟨by kernel_rfl, by kernel_rfl⟩, ⟨by kernel_rfl, by kernel_rfl⟩, ⟨by kernel_rfl, by kernel_rfl⟩, ⟨by kernel_rfl, by kernel_rfl⟩, ⟨by kernel_rfl, by kernel_rfl⟩, ⟨by kernel_rfl, by kernel_rfl⟩, trivial⟩, (hW.pick [0, 1, 2, 3, 4] (by decide) rfl).pickG [] rfl⟩
  clear hA ac hW; rintro ac w7 ⟨br1_8, hA, hW⟩
  refine thenN ?_
  refine wp_seq ?_
  rcases Bool.eq_false_or_eq_true (fineM id m) with h8 | h8
  · skip
    first
    | (exfalso; clear hA hW; omega)
    | (exfalso; clear hA hW; rw [h8] at h8; exact absurd rfl h8; done)
    | (exfalso; clear hA hW; rw [h8] at h8; cases h8; done)
    | (
        refine wp_region_lit ?_
        refine st_rd (v := Value.int .i64 (argErr (fineM (id) m))) hA (by kernel_rfl) (by kernel_rfl) (by kernel_rfl) hW.cls (Rd.pure fun _ => by kernel_rfl) ?_; clear hA ac; intro ac hA
        refine st_rd (v := Value.bool ((argErr (fineM (id) m) : Int) != (0 : Int))) hA (by kernel_rfl) (by kernel_rfl) (by kernel_rfl) hW.cls (Rd.pure fun _ => by kernel_rfl) ?_; clear hA ac; intro ac hA
        refine wpList_nil ?_
        refine thenN ?_
        refine wp_cond_split (t := (argErr (fineM (id) m) : Int) != (0 : Int)) (hA.eval (by kernel_rfl)) (fun h9 => ?_) (fun h9 => ?_)
        · skip
          have h9 := bne_iff_ne.1 h9
          first
          | (exfalso; clear hA hW; omega)
          | (exfalso; clear hA hW; rw [h8] at h9; exact absurd rfl h9; done)
          | (exfalso; clear hA hW; rw [h8] at h9; cases h9; done)
          | (
              refine wp_seq ?_
              refine wp_region_lit ?_
              refine st_rd (v := Value.int .i64 (argErr (fineM (id) m))) hA (by kernel_rfl) (by kernel_rfl) (by kernel_rfl) hW.cls (Rd.pure fun _ => by kernel_rfl) ?_; clear hA ac; intro ac hA
              refine st_rd (v := Value.int .i64 (argErr (fineM (id) m))) hA (by kernel_rfl) (by kernel_rfl) (by kernel_rfl) hW.cls (Rd.pure fun _ => by kernel_rfl) ?_; clear hA ac; intro ac hA
              refine wpList_nil ?_
              refine thenN ?_
              refine wp_ret ?_
              refine thenR ?_
              refine ret1 (v := Value.int .i64 (argErr (fineM (id) m))) (by rfl) hA (Got.tmp hA (by kernel_rfl) (by kernel_rfl)) ?_
              clear hA
              exact ⟨V, argErr (fineM (id) m), rfl, by unfold MarkR; rw [if_pos h8]; exact ⟨rfl, by rw [h8]; rfl⟩, (Ws.pack (K := []) (show Ws w (· ∈ (PoolR p b V).fp) ([Cel p #[Value.map (some b)] 62, mapR b (fun a : Int => Value.int .i64 a) (fun x_ : Nat => Value.map (some x_)) (outs V), SubR (fun (c_ : List (Int × Mark)) (b_ : Nat) => mapR b_ (fun a : Int => Value.int .i64 a) Mark.v c_) V] ++ []) [] _ from hW.pick [2, 3, 4] (by decide) rfl)).updDone 0 rfl⟩)
        · skip
          have h9 := of_bne_f h9
          first
          | (exfalso; clear hA hW; omega)
          | (exfalso; clear hA hW; rw [h8] at h9; exact absurd rfl h9; done)
          | (exfalso; clear hA hW; rw [h8] at h9; cases h9; done)
          | (
              refine wp_skip ?_
              refine thenN ?_
              refine wp_seq ?_
              refine wp_seq ?_
              refine wp_region_lit ?_
              refine st_rd (v := Value.pointer (some ⟨p, 0, none⟩)) hA (by kernel_rfl) (by kernel_rfl) (by kernel_rfl) hW.cls (Rd.pure fun _ => by kernel_rfl) ?_; clear hA ac; intro ac hA
              refine st_rd (v := Value.pointer (some ⟨p, 0, none⟩)) hA (by kernel_rfl) (by kernel_rfl) (by kernel_rfl) hW.cls (Rd.pure fun _ => by kernel_rfl) ?_; clear hA ac; intro ac hA
              refine st_rd (v := Value.pointer (some ⟨p, 0, none⟩)) hA (by kernel_rfl) (by kernel_rfl) (by kernel_rfl) hW.cls (Rd.pure fun _ => by kernel_rfl) ?_; clear hA ac; intro ac hA
              refine st_rd (v := Value.map (some b)) hA (by kernel_rfl) (by kernel_rfl) (by kernel_rfl) hW.cls (Rd.load (b := p) (i := 0) (by kernel_rfl) (fun _ hw => (hw.1).cel 2 rfl) (by kernel_rfl)) ?_; clear hA ac; intro ac hA
              refine st_rd (v := Value.int .i64 h) hA (by kernel_rfl) (by kernel_rfl) (by kernel_rfl) hW.cls (Rd.pure fun _ => by kernel_rfl) ?_; clear hA ac; intro ac hA
              refine st hA (by kernel_rfl) (by kernel_rfl) (by kernel_rfl) (Runs.callN (v := Value.bool (look (outs V) (h)).isSome) (fun _ => by kernel_rfl) hW (e_there b (outs V) (h) w7 ((hW).get 3 rfl)) ?_); clear hA ac hW; intro w10 hW hfw10 ac hA
              refine st_rd (v := Value.bool (!(look (outs V) (h)).isSome)) hA (by kernel_rfl) (by kernel_rfl) (by kernel_rfl) hW.cls (Rd.pure fun _ => by kernel_rfl) ?_; clear hA ac; intro ac hA
              refine wpList_nil ?_
              refine thenN ?_
              refine wp_cond_split (t := !(look (outs V) (h)).isSome) (hA.eval (by kernel_rfl)) (fun h11 => ?_) (fun h11 => ?_)
              · skip
                have h11 := not_t h11
                first
                | (exfalso; clear hA hW; omega)
                | (exfalso; clear hA hW; rw [h8] at h11; exact absurd rfl h11; done)
                | (exfalso; clear hA hW; rw [h8] at h11; cases h11; done)
                | (exfalso; clear hA hW; simp_all; done)
                | (
                    refine wp_seq ?_
                    refine wp_region_lit ?_
                    refine st_rd (v := Value.int .i64 5) hA (by kernel_rfl) (by kernel_rfl) (by kernel_rfl) hW.cls (Rd.pure fun _ => by kernel_rfl) ?_; clear hA ac; intro ac hA
                    refine wpList_nil ?_
                    refine thenN ?_
                    refine wp_ret ?_
                    refine thenR ?_
                    refine ret1 (v := Value.int .i64 5) (by rfl) hA (Got.tmp hA (by kernel_rfl) (by kernel_rfl)) ?_
                    clear hA
                    exact ⟨V, 5, rfl, by unfold MarkR; rw [if_neg (by rw [h8]; simp), isSome_no (o := look (vals V) h) (by rw [← outs_some]; simp_all)]; exact ⟨rfl, rfl⟩, (Ws.pack (K := []) (show Ws w (· ∈ (PoolR p b V).fp) ([Cel p #[Value.map (some b)] 62, mapR b (fun a : Int => Value.int .i64 a) (fun x_ : Nat => Value.map (some x_)) (outs V), SubR (fun (c_ : List (Int × Mark)) (b_ : Nat) => mapR b_ (fun a : Int => Value.int .i64 a) Mark.v c_) V] ++ []) [] _ from hW.pick [2, 3, 4] (by decide) rfl)).updDone 0 rfl⟩)
              · skip
                have h11 := not_f h11
                first
                | (exfalso; clear hA hW; omega)
                | (exfalso; clear hA hW; rw [h8] at h11; exact absurd rfl h11; done)
                | (exfalso; clear hA hW; rw [h8] at h11; cases h11; done)
                | (exfalso; clear hA hW; simp_all; done)
                | (
                    refine wp_skip ?_
                    refine thenN ?_
                    refine wp_seq ?_
                    rcases hk12 : look (outs V) (h : Int) with _ | bk13
                    · skip
                      first
                      | (exfalso; clear hA hW; omega)
                      | (exfalso; clear hA hW; rw [h8] at hk12; exact absurd rfl hk12; done)
                      | (exfalso; clear hA hW; rw [h8] at hk12; cases hk12; done)
                      | (exfalso; clear hA hW; simp_all; done)
                      | (
                            fail)
                    · skip
                      first
                      | (exfalso; clear hA hW; omega)
                      | (exfalso; clear hA hW; rw [h8] at hk12; exact absurd rfl hk12; done)
                      | (exfalso; clear hA hW; rw [h8] at hk12; cases hk12; done)
                      | (exfalso; clear hA hW; simp_all; done)
                      | (
                          obtain ⟨i15, c16, hi17, hv18⟩ := outs_at hk12
                          have hW := Ws.subOpen (hW.pick [4, 0, 1, 2, 3] (by decide) rfl) i15 hi17
                          replace hW : Ws w (· ∈ (PoolR p b V).fp) [mapR bk13 (fun a : Int => Value.int .i64 a) Mark.v c16, SubR (fun (c_ : List (Int × Mark)) (b_ : Nat) => mapR b_ (fun a : Int => Value.int .i64 a) Mark.v c_) (List.eraseIdx V i15), Cel br1_8 #[Value.bool false, Value.int .i64 1, Value.bool (!(fineM (id) m)), Value.int .i64 2] 73, Cel b1 #[Value.int .u64 m.clock, Value.int .i64 m.site.f, Value.int .i64 m.site.pc] 32, Cel p #[Value.map (some b)] 62, mapR b (fun a : Int => Value.int .i64 a) (fun x_ : Nat => Value.map (some x_)) (outs V)] [] w10 := hW
                          refine wp_cut (fun ac_ wl_ => Fm 38 [] [(0, Value.pointer (some ⟨p, 0, none⟩)), (1, Value.int .i64 h), (2, Value.int .i64 id), (3, m.v), (7, Value.pointer (some ⟨b1, 0, none⟩)), (8, Value.int .i64 0), (9, Value.int .i64 (argErr (fineM (id) m))), (20, Value.int .i64 (argErr (fineM (id) m))), (21, Value.bool ((argErr (fineM (id) m) : Int) != (0 : Int))), (23, Value.pointer (some ⟨p, 0, none⟩)), (24, Value.pointer (some ⟨p, 0, none⟩)), (25, Value.pointer (some ⟨p, 0, none⟩)), (26, Value.map (some b)), (27, Value.int .i64 h), (28, Value.bool (look (outs V) (h)).isSome), (29, Value.bool (!(look (outs V) (h)).isSome))] ac_ ∧ Ws w (· ∈ (PoolR p b V).fp) [mapR bk13 (fun a : Int => Value.int .i64 a) Mark.v (put c16 (id : Int) m), SubR (fun (c_ : List (Int × Mark)) (b_ : Nat) => mapR b_ (fun a : Int => Value.int .i64 a) Mark.v c_) (List.eraseIdx V i15), Cel br1_8 #[Value.bool false, Value.int .i64 1, Value.bool (!(fineM (id) m)), Value.int .i64 2] 73, Cel b1 #[Value.int .u64 m.clock, Value.int .i64 m.site.f, Value.int .i64 m.site.pc] 32, Cel p #[Value.map (some b)] 62, mapR b (fun a : Int => Value.int .i64 a) (fun x_ : Nat => Value.map (some x_)) (outs V)] [] wl_) ?_ ?_
                          · refine sr_region (m := 9) (C := Ws w (· ∈ (PoolR p b V).fp) [mapR bk13 (fun a : Int => Value.int .i64 a) Mark.v c16, SubR (fun (c_ : List (Int × Mark)) (b_ : Nat) => mapR b_ (fun a : Int => Value.int .i64 a) Mark.v c_) (List.eraseIdx V i15), Cel br1_8 #[Value.bool false, Value.int .i64 1, Value.bool (!(fineM (id) m)), Value.int .i64 2] 73, Cel b1 #[Value.int .u64 m.clock, Value.int .i64 m.site.f, Value.int .i64 m.site.pc] 32, Cel p #[Value.map (some b)] 62, mapR b (fun a : Int => Value.int .i64 a) (fun x_ : Nat => Value.map (some x_)) (outs V)] []) (fun i => [3, 5, 7].contains i) (fun i => [3, 5, 7].contains i) (fun i => [0, 1, 2, 4, 6].contains i) (by kernel_rfl) (by kernel_rfl) (by kernel_rfl) (by kernel_rfl) hW ?_; clear hW; intro w19 hW hfw19 hR; have hC : Ws w (· ∈ (PoolR p b V).fp) [mapR bk13 (fun a : Int => Value.int .i64 a) Mark.v c16, SubR (fun (c_ : List (Int × Mark)) (b_ : Nat) => mapR b_ (fun a : Int => Value.int .i64 a) Mark.v c_) (List.eraseIdx V i15), Cel br1_8 #[Value.bool false, Value.int .i64 1, Value.bool (!(fineM (id) m)), Value.int .i64 2] 73, Cel b1 #[Value.int .u64 m.clock, Value.int .i64 m.site.f, Value.int .i64 m.site.pc] 32, Cel p #[Value.map (some b)] 62, mapR b (fun a : Int => Value.int .i64 a) (fun x_ : Nat => Value.map (some x_)) (outs V)] [] w19 := hW.pick [0, 1, 2, 3, 4, 5] (by decide) rfl
                            refine sr_pure (i := 0) (v := Value.pointer (some ⟨p, 0, none⟩)) hR (by kernel_rfl) rfl (by kernel_rfl) (by kernel_rfl) (fun _ _ _ h => h.elim) hA (by kernel_rfl) (by kernel_rfl) (by kernel_rfl) (Rd.pure fun _ => by kernel_rfl) ?_; clear hA ac; intro ac hA
                            refine sr_pure (i := 1) (v := Value.pointer (some ⟨p, 0, none⟩)) hR (by kernel_rfl) rfl (by kernel_rfl) (by kernel_rfl) (fun _ _ _ h => h.elim) hA (by kernel_rfl) (by kernel_rfl) (by kernel_rfl) (Rd.pure fun _ => by kernel_rfl) ?_; clear hA ac; intro ac hA
                            refine sr_pure (i := 2) (v := Value.pointer (some ⟨p, 0, none⟩)) hR (by kernel_rfl) rfl (by kernel_rfl) (by kernel_rfl) (fun _ _ _ h => h.elim) hA (by kernel_rfl) (by kernel_rfl) (by kernel_rfl) (Rd.pure fun _ => by kernel_rfl) ?_; clear hA ac; intro ac hA
                            refine sr_take (i := 3) (v := Value.map (some b)) hR (by kernel_rfl) rfl (by kernel_rfl) (by kernel_rfl) (by kernel_rfl) (fun _ _ _ h => h.elim) hA (by kernel_rfl) (by kernel_rfl) (by kernel_rfl) hC (Rd.load (b := p) (i := 0) (by kernel_rfl) (fun _ hw => (hw).cel 4 rfl) (by kernel_rfl)) ?_; clear hA ac; intro ac hA
                            refine sr_pure (i := 4) (v := Value.int .i64 h) hR (by kernel_rfl) rfl (by kernel_rfl) (by kernel_rfl) (fun _ _ _ h => h.elim) hA (by kernel_rfl) (by kernel_rfl) (by kernel_rfl) (Rd.pure fun _ => by kernel_rfl) ?_; clear hA ac; intro ac hA
                            refine sr_take (i := 5) (v := Value.map (some bk13)) hR (by kernel_rfl) rfl (by kernel_rfl) (by kernel_rfl) (by kernel_rfl) (fun _ _ _ h => h.elim) hA (by kernel_rfl) (by kernel_rfl) (by kernel_rfl) hC ((Rd.lookup (k := 3) (e := 69) (ek := (fun a : Int => Value.int .i64 a)) (ev := (fun x_ : Nat => Value.map (some x_))) (m := (outs V)) (z := Value.map none) (h : Int) false (by kernel_rfl) (by kernel_rfl) (KeyE.int (by kernel_rfl)) (by kernel_rfl) (fun _ => by kernel_rfl) (fun _ hw => (hw).get 5 rfl)).cast (by rw [hk12]; rfl)) ?_; clear hA ac; intro ac hA
                            refine sr_pure (i := 6) (v := Value.int .i64 id) hR (by kernel_rfl) rfl (by kernel_rfl) (by kernel_rfl) (fun _ _ _ h => h.elim) hA (by kernel_rfl) (by kernel_rfl) (by kernel_rfl) (Rd.pure fun _ => by kernel_rfl) ?_; clear hA ac; intro ac hA
                            refine sr_take (i := 7) (v := Value.agg #[Value.int .u64 m.clock, Value.int .i64 m.site.f, Value.int .i64 m.site.pc]) hR (by kernel_rfl) rfl (by kernel_rfl) (by kernel_rfl) (by kernel_rfl) (fun _ _ _ h => h.elim) hA (by kernel_rfl) (by kernel_rfl) (by kernel_rfl) hC (Rd.load (b := b1) (i := 0) (by kernel_rfl) (fun _ hw => (hw).cel 3 rfl) (by kernel_rfl)) ?_; clear hA ac; intro ac hA
                            refine sr_one (i := 8) (by kernel_rfl) (sr_do rfl hA (by kernel_rfl) (by kernel_rfl) (by kernel_rfl) (Runs.mapUpdate (k := 3) (e := 32) (ek := (fun a : Int => Value.int .i64 a)) (ev := Mark.v) (m := c16) (id : Int) m (by kernel_rfl) (by kernel_rfl) (by kernel_rfl) (KeyE.int (by kernel_rfl)) (by kernel_rfl) hW (i := 0) rfl ?_)); clear hA ac hW; intro w20 hW ac hA
                            refine ⟨⟨fun h => absurd h (by decide), fun h => absurd h (by decide)⟩, ?_⟩
                            refine sr_done (by kernel_rfl) ?_ _
                            exact ⟨hA.sub ⟨⟨by kernel_rfl, by kernel_rfl⟩, ⟨by kernel_rfl, by kernel_rfl⟩, ⟨by kernel_rfl, by kernel_rfl⟩, ⟨by kernel_rfl, by kernel_rfl⟩, ⟨by kernel_rfl, by kernel_rfl⟩, ⟨by kernel_rfl, by kernel_rfl⟩, ⟨by kernel_rfl, by kernel_rfl⟩, ⟨by kernel_rfl, by kernel_rfl⟩, ⟨by kernel_rfl, by kernel_rfl⟩, ⟨by kernel_rfl, by kernel_rfl⟩, ⟨by kernel_rfl, by kernel_rfl⟩, ⟨by kernel_rfl, by kernel_rfl⟩, ⟨by kernel_rfl, by kernel_rfl⟩, ⟨by kernel_rfl, by kernel_rfl⟩, ⟨by kernel_rfl, by kernel_rfl⟩, ⟨by kernel_rfl, by kernel_rfl⟩, trivial⟩, (hW.pick [0, 1, 2, 3, 4, 5] (by decide) rfl).pickG [] rfl⟩
                          clear hA ac hW; rintro ac w21 ⟨hA, hW⟩
                          refine thenN ?_
                          refine wp_seq ?_
                          refine wp_region_lit ?_
                          refine st_rd (v := Value.int .i64 0) hA (by kernel_rfl) (by kernel_rfl) (by kernel_rfl) hW.cls (Rd.pure fun _ => by kernel_rfl) ?_; clear hA ac; intro ac hA
                          refine wpList_nil ?_
                          refine thenN ?_
                          refine wp_ret ?_
                          refine ret1 (v := Value.int .i64 0) (by rfl) hA (Got.tmp hA (by kernel_rfl) (by kernel_rfl)) ?_
                          clear hA
                          have hW := Ws.subClose (f := (fun (c_ : List (Int × Mark)) (b_ : Nat) => mapR b_ (fun a : Int => Value.int .i64 a) Mark.v c_)) (x := put c16 (id : Int) m) (hW.pick [0, 1, 2, 3, 4, 5] (by decide) rfl) hi17
                          rw [← outs_set (c' := put c16 (id : Int) m) hi17] at hW
                          replace hW : Ws w (· ∈ (PoolR p b V).fp) [SubR (fun (c_ : List (Int × Mark)) (b_ : Nat) => mapR b_ (fun a : Int => Value.int .i64 a) Mark.v c_) (List.set V i15 ((h : Int), bk13, put c16 (id : Int) m)), Cel br1_8 #[Value.bool false, Value.int .i64 1, Value.bool (!(fineM (id) m)), Value.int .i64 2] 73, Cel b1 #[Value.int .u64 m.clock, Value.int .i64 m.site.f, Value.int .i64 m.site.pc] 32, Cel p #[Value.map (some b)] 62, mapR b (fun a : Int => Value.int .i64 a) (fun x_ : Nat => Value.map (some x_)) (outs (List.set V i15 ((h : Int), bk13, put c16 (id : Int) m)))] [] w21 := hW
                          exact ⟨List.set V i15 ((h : Int), bk13, put c16 (id : Int) m), 0, rfl, by unfold MarkR; rw [if_neg (by rw [h8]; simp), hv18]; exact ⟨_, _, hi17, rfl, rfl⟩, (Ws.pack (K := []) (show Ws w (· ∈ (PoolR p b V).fp) ([Cel p #[Value.map (some b)] 62, mapR b (fun a : Int => Value.int .i64 a) (fun x_ : Nat => Value.map (some x_)) (outs (List.set V i15 ((h : Int), bk13, put c16 (id : Int) m))), SubR (fun (c_ : List (Int × Mark)) (b_ : Nat) => mapR b_ (fun a : Int => Value.int .i64 a) Mark.v c_) (List.set V i15 ((h : Int), bk13, put c16 (id : Int) m))] ++ []) [] _ from hW.pick [3, 4, 0] (by decide) rfl)).updDone 0 rfl⟩))))
  · skip
    first
    | (exfalso; clear hA hW; omega)
    | (exfalso; clear hA hW; rw [h8] at h8; exact absurd rfl h8; done)
    | (exfalso; clear hA hW; rw [h8] at h8; cases h8; done)
    | (
        refine wp_region_lit ?_
        refine st_rd (v := Value.int .i64 (argErr (fineM (id) m))) hA (by kernel_rfl) (by kernel_rfl) (by kernel_rfl) hW.cls (Rd.pure fun _ => by kernel_rfl) ?_; clear hA ac; intro ac hA
        refine st_rd (v := Value.bool ((argErr (fineM (id) m) : Int) != (0 : Int))) hA (by kernel_rfl) (by kernel_rfl) (by kernel_rfl) hW.cls (Rd.pure fun _ => by kernel_rfl) ?_; clear hA ac; intro ac hA
        refine wpList_nil ?_
        refine thenN ?_
        refine wp_cond_split (t := (argErr (fineM (id) m) : Int) != (0 : Int)) (hA.eval (by kernel_rfl)) (fun h22 => ?_) (fun h22 => ?_)
        · skip
          have h22 := bne_iff_ne.1 h22
          first
          | (exfalso; clear hA hW; omega)
          | (exfalso; clear hA hW; rw [h8] at h22; exact absurd rfl h22; done)
          | (exfalso; clear hA hW; rw [h8] at h22; cases h22; done)
          | (
              refine wp_seq ?_
              refine wp_region_lit ?_
              refine st_rd (v := Value.int .i64 (argErr (fineM (id) m))) hA (by kernel_rfl) (by kernel_rfl) (by kernel_rfl) hW.cls (Rd.pure fun _ => by kernel_rfl) ?_; clear hA ac; intro ac hA
              refine st_rd (v := Value.int .i64 (argErr (fineM (id) m))) hA (by kernel_rfl) (by kernel_rfl) (by kernel_rfl) hW.cls (Rd.pure fun _ => by kernel_rfl) ?_; clear hA ac; intro ac hA
              refine wpList_nil ?_
              refine thenN ?_
              refine wp_ret ?_
              refine thenR ?_
              refine ret1 (v := Value.int .i64 (argErr (fineM (id) m))) (by rfl) hA (Got.tmp hA (by kernel_rfl) (by kernel_rfl)) ?_
              clear hA
              exact ⟨V, argErr (fineM (id) m), rfl, by unfold MarkR; rw [if_pos h8]; exact ⟨rfl, by rw [h8]; rfl⟩, (Ws.pack (K := []) (show Ws w (· ∈ (PoolR p b V).fp) ([Cel p #[Value.map (some b)] 62, mapR b (fun a : Int => Value.int .i64 a) (fun x_ : Nat => Value.map (some x_)) (outs V), SubR (fun (c_ : List (Int × Mark)) (b_ : Nat) => mapR b_ (fun a : Int => Value.int .i64 a) Mark.v c_) V] ++ []) [] _ from hW.pick [2, 3, 4] (by decide) rfl)).updDone 0 rfl⟩)
        · skip
          have h22 := of_bne_f h22
          first
          | (exfalso; clear hA hW; omega)
          | (exfalso; clear hA hW; rw [h8] at h22; exact absurd rfl h22; done)
          | (exfalso; clear hA hW; rw [h8] at h22; cases h22; done)
          | (
              refine wp_skip ?_
              refine thenN ?_
              refine wp_seq ?_
              refine wp_seq ?_
              refine wp_region_lit ?_
              refine st_rd (v := Value.pointer (some ⟨p, 0, none⟩)) hA (by kernel_rfl) (by kernel_rfl) (by kernel_rfl) hW.cls (Rd.pure fun _ => by kernel_rfl) ?_; clear hA ac; intro ac hA
              refine st_rd (v := Value.pointer (some ⟨p, 0, none⟩)) hA (by kernel_rfl) (by kernel_rfl) (by kernel_rfl) hW.cls (Rd.pure fun _ => by kernel_rfl) ?_; clear hA ac; intro ac hA
              refine st_rd (v := Value.pointer (some ⟨p, 0, none⟩)) hA (by kernel_rfl) (by kernel_rfl) (by kernel_rfl) hW.cls (Rd.pure fun _ => by kernel_rfl) ?_; clear hA ac; intro ac hA
              refine st_rd (v := Value.map (some b)) hA (by kernel_rfl) (by kernel_rfl) (by kernel_rfl) hW.cls (Rd.load (b := p) (i := 0) (by kernel_rfl) (fun _ hw => (hw.1).cel 2 rfl) (by kernel_rfl)) ?_; clear hA ac; intro ac hA
              refine st_rd (v := Value.int .i64 h) hA (by kernel_rfl) (by kernel_rfl) (by kernel_rfl) hW.cls (Rd.pure fun _ => by kernel_rfl) ?_; clear hA ac; intro ac hA
              refine st hA (by kernel_rfl) (by kernel_rfl) (by kernel_rfl) (Runs.callN (v := Value.bool (look (outs V) (h)).isSome) (fun _ => by kernel_rfl) hW (e_there b (outs V) (h) w7 ((hW).get 3 rfl)) ?_); clear hA ac hW; intro w23 hW hfw23 ac hA
              refine st_rd (v := Value.bool (!(look (outs V) (h)).isSome)) hA (by kernel_rfl) (by kernel_rfl) (by kernel_rfl) hW.cls (Rd.pure fun _ => by kernel_rfl) ?_; clear hA ac; intro ac hA
              refine wpList_nil ?_
              refine thenN ?_
              refine wp_cond_split (t := !(look (outs V) (h)).isSome) (hA.eval (by kernel_rfl)) (fun h24 => ?_) (fun h24 => ?_)
              · skip
                have h24 := not_t h24
                first
                | (exfalso; clear hA hW; omega)
                | (exfalso; clear hA hW; rw [h8] at h24; exact absurd rfl h24; done)
                | (exfalso; clear hA hW; rw [h8] at h24; cases h24; done)
                | (exfalso; clear hA hW; simp_all; done)
                | (
                    refine wp_seq ?_
                    refine wp_region_lit ?_
                    refine st_rd (v := Value.int .i64 5) hA (by kernel_rfl) (by kernel_rfl) (by kernel_rfl) hW.cls (Rd.pure fun _ => by kernel_rfl) ?_; clear hA ac; intro ac hA
                    refine wpList_nil ?_
                    refine thenN ?_
                    refine wp_ret ?_
                    refine thenR ?_
                    refine ret1 (v := Value.int .i64 5) (by rfl) hA (Got.tmp hA (by kernel_rfl) (by kernel_rfl)) ?_
                    clear hA
                    exact ⟨V, 5, rfl, by unfold MarkR; rw [if_neg (by rw [h8]; simp), isSome_no (o := look (vals V) h) (by rw [← outs_some]; simp_all)]; exact ⟨rfl, rfl⟩, (Ws.pack (K := []) (show Ws w (· ∈ (PoolR p b V).fp) ([Cel p #[Value.map (some b)] 62, mapR b (fun a : Int => Value.int .i64 a) (fun x_ : Nat => Value.map (some x_)) (outs V), SubR (fun (c_ : List (Int × Mark)) (b_ : Nat) => mapR b_ (fun a : Int => Value.int .i64 a) Mark.v c_) V] ++ []) [] _ from hW.pick [2, 3, 4] (by decide) rfl)).updDone 0 rfl⟩)
              · skip
                have h24 := not_f h24
                first
                | (exfalso; clear hA hW; omega)
                | (exfalso; clear hA hW; rw [h8] at h24; exact absurd rfl h24; done)
                | (exfalso; clear hA hW; rw [h8] at h24; cases h24; done)
                | (exfalso; clear hA hW; simp_all; done)
                | (
                    refine wp_skip ?_
                    refine thenN ?_
                    refine wp_seq ?_
                    rcases hk25 : look (outs V) (h : Int) with _ | bk26
                    · skip
                      first
                      | (exfalso; clear hA hW; omega)
                      | (exfalso; clear hA hW; rw [h8] at hk25; exact absurd rfl hk25; done)
                      | (exfalso; clear hA hW; rw [h8] at hk25; cases hk25; done)
                      | (exfalso; clear hA hW; simp_all; done)
                      | (
                            fail)
                    · skip
                      first
                      | (exfalso; clear hA hW; omega)
                      | (exfalso; clear hA hW; rw [h8] at hk25; exact absurd rfl hk25; done)
                      | (exfalso; clear hA hW; rw [h8] at hk25; cases hk25; done)
                      | (exfalso; clear hA hW; simp_all; done)
                      | (
                          obtain ⟨i28, c29, hi30, hv31⟩ := outs_at hk25
                          have hW := Ws.subOpen (hW.pick [4, 0, 1, 2, 3] (by decide) rfl) i28 hi30
                          replace hW : Ws w (· ∈ (PoolR p b V).fp) [mapR bk26 (fun a : Int => Value.int .i64 a) Mark.v c29, SubR (fun (c_ : List (Int × Mark)) (b_ : Nat) => mapR b_ (fun a : Int => Value.int .i64 a) Mark.v c_) (List.eraseIdx V i28), Cel br1_8 #[Value.bool false, Value.int .i64 1, Value.bool (!(fineM (id) m)), Value.int .i64 2] 73, Cel b1 #[Value.int .u64 m.clock, Value.int .i64 m.site.f, Value.int .i64 m.site.pc] 32, Cel p #[Value.map (some b)] 62, mapR b (fun a : Int => Value.int .i64 a) (fun x_ : Nat => Value.map (some x_)) (outs V)] [] w23 := hW
                          refine wp_cut (fun ac_ wl_ => Fm 38 [] [(0, Value.pointer (some ⟨p, 0, none⟩)), (1, Value.int .i64 h), (2, Value.int .i64 id), (3, m.v), (7, Value.pointer (some ⟨b1, 0, none⟩)), (8, Value.int .i64 0), (9, Value.int .i64 (argErr (fineM (id) m))), (20, Value.int .i64 (argErr (fineM (id) m))), (21, Value.bool ((argErr (fineM (id) m) : Int) != (0 : Int))), (23, Value.pointer (some ⟨p, 0, none⟩)), (24, Value.pointer (some ⟨p, 0, none⟩)), (25, Value.pointer (some ⟨p, 0, none⟩)), (26, Value.map (some b)), (27, Value.int .i64 h), (28, Value.bool (look (outs V) (h)).isSome), (29, Value.bool (!(look (outs V) (h)).isSome))] ac_ ∧ Ws w (· ∈ (PoolR p b V).fp) [mapR bk26 (fun a : Int => Value.int .i64 a) Mark.v (put c29 (id : Int) m), SubR (fun (c_ : List (Int × Mark)) (b_ : Nat) => mapR b_ (fun a : Int => Value.int .i64 a) Mark.v c_) (List.eraseIdx V i28), Cel br1_8 #[Value.bool false, Value.int .i64 1, Value.bool (!(fineM (id) m)), Value.int .i64 2] 73, Cel b1 #[Value.int .u64 m.clock, Value.int .i64 m.site.f, Value.int .i64 m.site.pc] 32, Cel p #[Value.map (some b)] 62, mapR b (fun a : Int => Value.int .i64 a) (fun x_ : Nat => Value.map (some x_)) (outs V)] [] wl_) ?_ ?_
                          · refine sr_region (m := 9) (C := Ws w (· ∈ (PoolR p b V).fp) [mapR bk26 (fun a : Int => Value.int .i64 a) Mark.v c29, SubR (fun (c_ : List (Int × Mark)) (b_ : Nat) => mapR b_ (fun a : Int => Value.int .i64 a) Mark.v c_) (List.eraseIdx V i28), Cel br1_8 #[Value.bool false, Value.int .i64 1, Value.bool (!(fineM (id) m)), Value.int .i64 2] 73, Cel b1 #[Value.int .u64 m.clock, Value.int .i64 m.site.f, Value.int .i64 m.site.pc] 32, Cel p #[Value.map (some b)] 62, mapR b (fun a : Int => Value.int .i64 a) (fun x_ : Nat => Value.map (some x_)) (outs V)] []) (fun i => [3, 5, 7].contains i) (fun i => [3, 5, 7].contains i) (fun i => [0, 1, 2, 4, 6].contains i) (by kernel_rfl) (by kernel_rfl) (by kernel_rfl) (by kernel_rfl) hW ?_; clear hW; intro w32 hW hfw32 hR; have hC : Ws w (· ∈ (PoolR p b V).fp) [mapR bk26 (fun a : Int => Value.int .i64 a) Mark.v c29, SubR (fun (c_ : List (Int × Mark)) (b_ : Nat) => mapR b_ (fun a : Int => Value.int .i64 a) Mark.v c_) (List.eraseIdx V i28), Cel br1_8 #[Value.bool false, Value.int .i64 1, Value.bool (!(fineM (id) m)), Value.int .i64 2] 73, Cel b1 #[Value.int .u64 m.clock, Value.int .i64 m.site.f, Value.int .i64 m.site.pc] 32, Cel p #[Value.map (some b)] 62, mapR b (fun a : Int => Value.int .i64 a) (fun x_ : Nat => Value.map (some x_)) (outs V)] [] w32 := hW.pick [0, 1, 2, 3, 4, 5] (by decide) rfl
                            refine sr_pure (i := 0) (v := Value.pointer (some ⟨p, 0, none⟩)) hR (by kernel_rfl) rfl (by kernel_rfl) (by kernel_rfl) (fun _ _ _ h => h.elim) hA (by kernel_rfl) (by kernel_rfl) (by kernel_rfl) (Rd.pure fun _ => by kernel_rfl) ?_; clear hA ac; intro ac hA
                            refine sr_pure (i := 1) (v := Value.pointer (some ⟨p, 0, none⟩)) hR (by kernel_rfl) rfl (by kernel_rfl) (by kernel_rfl) (fun _ _ _ h => h.elim) hA (by kernel_rfl) (by kernel_rfl) (by kernel_rfl) (Rd.pure fun _ => by kernel_rfl) ?_; clear hA ac; intro ac hA
                            refine sr_pure (i := 2) (v := Value.pointer (some ⟨p, 0, none⟩)) hR (by kernel_rfl) rfl (by kernel_rfl) (by kernel_rfl) (fun _ _ _ h => h.elim) hA (by kernel_rfl) (by kernel_rfl) (by kernel_rfl) (Rd.pure fun _ => by kernel_rfl) ?_; clear hA ac; intro ac hA
                            refine sr_take (i := 3) (v := Value.map (some b)) hR (by kernel_rfl) rfl (by kernel_rfl) (by kernel_rfl) (by kernel_rfl) (fun _ _ _ h => h.elim) hA (by kernel_rfl) (by kernel_rfl) (by kernel_rfl) hC (Rd.load (b := p) (i := 0) (by kernel_rfl) (fun _ hw => (hw).cel 4 rfl) (by kernel_rfl)) ?_; clear hA ac; intro ac hA
                            refine sr_pure (i := 4) (v := Value.int .i64 h) hR (by kernel_rfl) rfl (by kernel_rfl) (by kernel_rfl) (fun _ _ _ h => h.elim) hA (by kernel_rfl) (by kernel_rfl) (by kernel_rfl) (Rd.pure fun _ => by kernel_rfl) ?_; clear hA ac; intro ac hA
                            refine sr_take (i := 5) (v := Value.map (some bk26)) hR (by kernel_rfl) rfl (by kernel_rfl) (by kernel_rfl) (by kernel_rfl) (fun _ _ _ h => h.elim) hA (by kernel_rfl) (by kernel_rfl) (by kernel_rfl) hC ((Rd.lookup (k := 3) (e := 69) (ek := (fun a : Int => Value.int .i64 a)) (ev := (fun x_ : Nat => Value.map (some x_))) (m := (outs V)) (z := Value.map none) (h : Int) false (by kernel_rfl) (by kernel_rfl) (KeyE.int (by kernel_rfl)) (by kernel_rfl) (fun _ => by kernel_rfl) (fun _ hw => (hw).get 5 rfl)).cast (by rw [hk25]; rfl)) ?_; clear hA ac; intro ac hA
                            refine sr_pure (i := 6) (v := Value.int .i64 id) hR (by kernel_rfl) rfl (by kernel_rfl) (by kernel_rfl) (fun _ _ _ h => h.elim) hA (by kernel_rfl) (by kernel_rfl) (by kernel_rfl) (Rd.pure fun _ => by kernel_rfl) ?_; clear hA ac; intro ac hA
                            refine sr_take (i := 7) (v := Value.agg #[Value.int .u64 m.clock, Value.int .i64 m.site.f, Value.int .i64 m.site.pc]) hR (by kernel_rfl) rfl (by kernel_rfl) (by kernel_rfl) (by kernel_rfl) (fun _ _ _ h => h.elim) hA (by kernel_rfl) (by kernel_rfl) (by kernel_rfl) hC (Rd.load (b := b1) (i := 0) (by kernel_rfl) (fun _ hw => (hw).cel 3 rfl) (by kernel_rfl)) ?_; clear hA ac; intro ac hA
                            refine sr_one (i := 8) (by kernel_rfl) (sr_do rfl hA (by kernel_rfl) (by kernel_rfl) (by kernel_rfl) (Runs.mapUpdate (k := 3) (e := 32) (ek := (fun a : Int => Value.int .i64 a)) (ev := Mark.v) (m := c29) (id : Int) m (by kernel_rfl) (by kernel_rfl) (by kernel_rfl) (KeyE.int (by kernel_rfl)) (by kernel_rfl) hW (i := 0) rfl ?_)); clear hA ac hW; intro w33 hW ac hA
                            refine ⟨⟨fun h => absurd h (by decide), fun h => absurd h (by decide)⟩, ?_⟩
                            refine sr_done (by kernel_rfl) ?_ _
                            exact ⟨hA.sub ⟨⟨by kernel_rfl, by kernel_rfl⟩, ⟨by kernel_rfl, by kernel_rfl⟩, ⟨by kernel_rfl, by kernel_rfl⟩, ⟨by kernel_rfl, by kernel_rfl⟩, ⟨by kernel_rfl, by kernel_rfl⟩, ⟨by kernel_rfl, by kernel_rfl⟩, ⟨by kernel_rfl, by kernel_rfl⟩, ⟨by kernel_rfl, by kernel_rfl⟩, ⟨by kernel_rfl, by kernel_rfl⟩, ⟨by kernel_rfl, by kernel_rfl⟩, ⟨by kernel_rfl, by kernel_rfl⟩, ⟨by kernel_rfl, by kernel_rfl⟩, ⟨by kernel_rfl, by kernel_rfl⟩, ⟨by kernel_rfl, by kernel_rfl⟩, ⟨by kernel_rfl, by kernel_rfl⟩, ⟨by kernel_rfl, by kernel_rfl⟩, trivial⟩, (hW.pick [0, 1, 2, 3, 4, 5] (by decide) rfl).pickG [] rfl⟩
                          clear hA ac hW; rintro ac w34 ⟨hA, hW⟩
                          refine thenN ?_
                          refine wp_seq ?_
                          refine wp_region_lit ?_
                          refine st_rd (v := Value.int .i64 0) hA (by kernel_rfl) (by kernel_rfl) (by kernel_rfl) hW.cls (Rd.pure fun _ => by kernel_rfl) ?_; clear hA ac; intro ac hA
                          refine wpList_nil ?_
                          refine thenN ?_
                          refine wp_ret ?_
                          refine ret1 (v := Value.int .i64 0) (by rfl) hA (Got.tmp hA (by kernel_rfl) (by kernel_rfl)) ?_
                          clear hA
                          have hW := Ws.subClose (f := (fun (c_ : List (Int × Mark)) (b_ : Nat) => mapR b_ (fun a : Int => Value.int .i64 a) Mark.v c_)) (x := put c29 (id : Int) m) (hW.pick [0, 1, 2, 3, 4, 5] (by decide) rfl) hi30
                          rw [← outs_set (c' := put c29 (id : Int) m) hi30] at hW
                          replace hW : Ws w (· ∈ (PoolR p b V).fp) [SubR (fun (c_ : List (Int × Mark)) (b_ : Nat) => mapR b_ (fun a : Int => Value.int .i64 a) Mark.v c_) (List.set V i28 ((h : Int), bk26, put c29 (id : Int) m)), Cel br1_8 #[Value.bool false, Value.int .i64 1, Value.bool (!(fineM (id) m)), Value.int .i64 2] 73, Cel b1 #[Value.int .u64 m.clock, Value.int .i64 m.site.f, Value.int .i64 m.site.pc] 32, Cel p #[Value.map (some b)] 62, mapR b (fun a : Int => Value.int .i64 a) (fun x_ : Nat => Value.map (some x_)) (outs (List.set V i28 ((h : Int), bk26, put c29 (id : Int) m)))] [] w34 := hW
                          exact ⟨List.set V i28 ((h : Int), bk26, put c29 (id : Int) m), 0, rfl, by unfold MarkR; rw [if_neg (by rw [h8]; simp), hv31]; exact ⟨_, _, hi30, rfl, rfl⟩, (Ws.pack (K := []) (show Ws w (· ∈ (PoolR p b V).fp) ([Cel p #[Value.map (some b)] 62, mapR b (fun a : Int => Value.int .i64 a) (fun x_ : Nat => Value.map (some x_)) (outs (List.set V i28 ((h : Int), bk26, put c29 (id : Int) m))), SubR (fun (c_ : List (Int × Mark)) (b_ : Nat) => mapR b_ (fun a : Int => Value.int .i64 a) Mark.v c_) (List.set V i28 ((h : Int), bk26, put c29 (id : Int) m))] ++ []) [] _ from hW.pick [3, 4, 0] (by decide) rfl)).updDone 0 rfl⟩))))

end Go.Proofs.Ytobbocpacacnhaa.L
