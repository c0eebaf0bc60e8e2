/- Contracts, walked by program over the engine's laws. -/
import Derived.Test.YtobbocpacacnhaaProg
import Derived.Test.YtobbocpacacnhaaT6
namespace Go.Proofs.Ytobbocpacacnhaa.L
open Go.RowKit

theorem make_1 {h : Int} {V : VT23} (hM : MakeR [] h V) : h = 1 ∧ vals V = [(1, [])] := by
  obtain ⟨h1, h2, -, -, b, rfl⟩ := hM
  obtain rfl : h = 1 := by simp at h2; omega
  exact ⟨rfl, rfl⟩
theorem make_end {h : Int} {V V' : VT23} {M : List (Int × MarkM)} (hv : vals V = M) (hM : MakeR V h V') : vals V' = M ++ [(h, [])] ∧ 1 ≤ h ∧ h ≤ M.length + 1 ∧ look M h = none ∧ ∀ j, 1 ≤ j → j < h → (look M j).isSome = true := by
  subst hv
  obtain ⟨h1, h2, h3, h4, b, rfl⟩ := hM
  exact ⟨vals_snoc _ _ _, h1, by rw [vals_len]; exact h2, h3, h4⟩
theorem free_yes {h er : Int} {V V' : VT23} {M : List (Int × MarkM)} (hv : vals V = M) (hM : FreeR V h V' er) (hl : (look M h).isSome = true) : er = 0 ∧ vals V' = del M h := by
  subst hv
  unfold FreeR at hM; rw [if_pos hl] at hM
  obtain ⟨rfl, rfl⟩ := hM
  exact ⟨rfl, vals_delV⟩
theorem free_no {h er : Int} {V V' : VT23} {M : List (Int × MarkM)} (hv : vals V = M) (hM : FreeR V h V' er) (hl : (look M h).isSome = false) : er = 5 ∧ vals V' = M := by
  subst hv
  unfold FreeR at hM; rw [if_neg (by rw [hl]; simp)] at hM
  obtain ⟨rfl, rfl⟩ := hM
  exact ⟨rfl, rfl⟩
theorem mark_yes {h id er : Int} {m : Mark} {c : MarkM} {V V' : VT23} {M : List (Int × MarkM)} (hv : vals V = M) (hn : (keys M).Nodup) (hM : MarkR V h id m V' er) (hf : fineM id m = true) (hl : look M h = some c) : er = 0 ∧ vals V' = put M h (put c id m) := by
  subst hv
  unfold MarkR at hM; rw [if_neg (by rw [hf]; simp), hl] at hM
  obtain ⟨i, b, hi, rfl, rfl⟩ := hM
  exact ⟨rfl, vals_set hn hi⟩
theorem sorted_12 {ks : List Int} (hp : ks.Perm [2, 1]) (hs : ks.Pairwise fun x y => x ≤ y) : ks = [1, 2] := by
  have hl := hp.length_eq
  match ks, hl with
  | [a, b], _ =>
    have ha := (hp.mem_iff (a := a)).1 (by simp)
    have hb := (hp.mem_iff (a := b)).1 (by simp)
    have h1 := (hp.mem_iff (a := 1)).2 (by simp)
    have h2 := (hp.mem_iff (a := 2)).2 (by simp)
    simp at ha hb h1 h2 hs
    have : a = 1 := by omega
    have : b = 2 := by omega
    subst a b; rfl
theorem bey_one {m : Mark} {c : List Int} {id : Int} {mk : Mark} {is : Bool} {i : Int} (h : BeyR (some [(i, m)]) c id mk is) : (is = decide (m.clock > getC c i)) ∧ (m.clock > getC c i → id = i ∧ mk = m) := by
  obtain ⟨ks, hp, -, hf⟩ := h
  obtain rfl : ks = [i] := by
    have : ks.Perm [i] := hp
    exact List.perm_singleton.1 this
  have e : markAt ((some [(i, m)] : Option MarkM).getD []) i = m := by simp [markAt, look]
  by_cases q : m.clock > getC c i
  · rw [List.find?_cons_of_pos (by rw [e]; exact decide_eq_true q)] at hf
    obtain ⟨rfl, hmk, rfl⟩ := hf
    rw [e] at hmk; subst hmk
    exact ⟨(decide_eq_true q).symm, fun _ => ⟨rfl, rfl⟩⟩
  · rw [List.find?_cons_of_neg (by rw [e, decide_eq_false q]; simp)] at hf
    obtain ⟨-, -, rfl⟩ := hf
    exact ⟨(decide_eq_false q).symm, fun h => absurd h q⟩
theorem vals_all {V : VT23} {M : List (Int × MarkM)} {p : Int → MarkM → Prop} (hv : vals V = M) (h : ∀ x ∈ M, p x.1 x.2) : ∀ e ∈ V, p e.1 e.2.2 := fun e he => by
  subst hv
  exact h (e.1, e.2.2) (List.mem_map.2 ⟨e, he, rfl⟩)
theorem e_first3 (a : Ask) (A : Option Addr) (c : Nat) (w : World) (hr : RowAt w A 2 enAsk [⟨true, 1⟩, a]) (hc : 2 ≤ c) : Calls Try.prog 26 #[.slice A 2 c] w fun e w' => e = .returned (.int .i64 1) ∧ Fr No w w' := e_first A c [⟨true, 1⟩, a] w hr hc (by simp)
set_option maxRecDepth 100000 in
theorem e_none_nil  (w : World)  : Calls Try.prog 23 #[Value.pointer none] w (fun e w' => e = .returned (Value.bool true) ∧ w = w') := by
  refine enter_E 12 Try.func23 rfl rfl (by kernel_rfl) (L := [(0, Value.pointer none)]) (by kernel_rfl) ?_
  intro ac hA
  have hW := Ws.start w No
  refine wp_seq ?_
  refine wp_region_lit ?_
  refine st_rd (v := Value.bool false) hA (by kernel_rfl) (by kernel_rfl) (by kernel_rfl) hW.cls (Rd.pure fun _ => by kernel_rfl) ?_; clear hA ac; intro ac hA
  refine wpList_nil ?_
  refine thenN ?_
  refine wp_seq ?_
  refine wp_region_lit ?_
  refine st_rd (v := Value.pointer none) hA (by kernel_rfl) (by kernel_rfl) (by kernel_rfl) hW.cls (Rd.pure fun _ => by kernel_rfl) ?_; clear hA ac; intro ac hA
  refine st_rd (v := Value.bool true) hA (by kernel_rfl) (by kernel_rfl) (by kernel_rfl) hW.cls (Rd.pure fun _ => by kernel_rfl) ?_; clear hA ac; intro ac hA
  refine st_rd (v := Value.bool true) hA (by kernel_rfl) (by kernel_rfl) (by kernel_rfl) hW.cls (Rd.pure fun _ => by kernel_rfl) ?_; clear hA ac; intro ac hA
  refine st_skip hA (by kernel_rfl) (by kernel_rfl) ?_; clear hA ac; intro ac hA
  refine st_skip hA (by kernel_rfl) (by kernel_rfl) ?_; clear hA ac; intro ac hA
  refine st_skip hA (by kernel_rfl) (by kernel_rfl) ?_; clear hA ac; intro ac hA
  refine st_skip hA (by kernel_rfl) (by kernel_rfl) ?_; clear hA ac; intro ac hA
  refine st_skip hA (by kernel_rfl) (by kernel_rfl) ?_; clear hA ac; intro ac hA
  refine st_rd (v := Value.bool true) hA (by kernel_rfl) (by kernel_rfl) (by kernel_rfl) hW.cls (Rd.pure fun _ => by kernel_rfl) ?_; clear hA ac; intro ac hA
  refine st_rd (v := Value.bool true) hA (by kernel_rfl) (by kernel_rfl) (by kernel_rfl) hW.cls (Rd.pure fun _ => by kernel_rfl) ?_; clear hA ac; intro ac hA
  refine wpList_nil ?_
  refine thenN ?_
  refine wp_ret ?_
  refine ret1 (v := Value.bool true) (by rfl) hA (Got.tmp hA (by kernel_rfl) (by kernel_rfl)) ?_
  clear hA
  exact ⟨retv (by rfl), rfl⟩

set_option maxRecDepth 100000 in
theorem e_make_nil  (w : World)  : Calls Try.prog 10 #[Value.pointer none] w (fun e w' => e = .returned (Value.tuple #[Value.int .i64 0, Value.int .i64 1]) ∧ Fr No w w') := by
  refine enter_E 28 Try.func10 rfl rfl (by kernel_rfl) (L := [(0, Value.pointer none)]) (by kernel_rfl) ?_
  intro ac hA
  have hW := Ws.start w No
  refine wp_seq ?_
  refine wp_region_lit ?_
  refine st_rd (v := Value.int .i64 0) hA (by kernel_rfl) (by kernel_rfl) (by kernel_rfl) hW.cls (Rd.pure fun _ => by kernel_rfl) ?_; clear hA ac; intro ac hA
  refine st_rd (v := Value.int .i64 0) hA (by kernel_rfl) (by kernel_rfl) (by kernel_rfl) hW.cls (Rd.pure fun _ => by kernel_rfl) ?_; clear hA ac; intro ac hA
  refine wpList_nil ?_
  refine thenN ?_
  refine wp_fwd (l := 0) rfl ?_
  refine wp_seq ?_
  refine wp_seq ?_
  refine wp_region_lit ?_
  refine st_rd (v := Value.int .i64 1) hA (by kernel_rfl) (by kernel_rfl) (by kernel_rfl) hW.cls (Rd.pure fun _ => by kernel_rfl) ?_; clear hA ac; intro ac hA
  refine wpList_nil ?_
  refine thenN ?_
  refine wp_seq ?_
  refine wp_region_lit ?_
  refine st_rd (v := Value.pointer none) hA (by kernel_rfl) (by kernel_rfl) (by kernel_rfl) hW.cls (Rd.pure fun _ => by kernel_rfl) ?_; clear hA ac; intro ac hA
  refine st hA (by kernel_rfl) (by kernel_rfl) (by kernel_rfl) (Runs.callS (v := Value.bool true) (fun _ => by kernel_rfl) (e_none_nil w) ?_); clear hA ac; intro  ac hA
  refine wpList_nil ?_
  refine thenN ?_
  refine wp_cond_true (hA.eval (by kernel_rfl)) ?_
  refine wp_goto ?_
  refine thenG ?_
  refine fwdG ?_
  refine wp_seq ?_
  refine wp_skip ?_
  refine thenN ?_
  refine wp_seq ?_
  refine wp_region_lit ?_
  refine st_rd (v := Value.int .i64 1) hA (by kernel_rfl) (by kernel_rfl) (by kernel_rfl) hW.cls (Rd.pure fun _ => by kernel_rfl) ?_; clear hA ac; intro ac hA
  refine st_rd (v := Value.int .i64 0) hA (by kernel_rfl) (by kernel_rfl) (by kernel_rfl) hW.cls (Rd.pure fun _ => by kernel_rfl) ?_; clear hA ac; intro ac hA
  refine st_rd (v := Value.int .i64 1) hA (by kernel_rfl) (by kernel_rfl) (by kernel_rfl) hW.cls (Rd.pure fun _ => by kernel_rfl) ?_; clear hA ac; intro ac hA
  refine wpList_nil ?_
  refine thenN ?_
  refine wp_ret ?_
  refine nogR ?_
  refine ret2 (v1 := Value.int .i64 0) (v2 := Value.int .i64 1) (by rfl) hA (Got.tmp hA (by kernel_rfl) (by kernel_rfl)) (Got.tmp hA (by kernel_rfl) (by kernel_rfl)) ?_
  clear hA
  exact ⟨retv (by rfl), hW.fr⟩

set_option maxRecDepth 100000 in
theorem e_of_nil (h : Int) (w : World)  : Calls Try.prog 29 #[Value.pointer none, Value.int .i64 h] w (fun e w' => e = .returned (Value.map none) ∧ Fr No w w') := by
  refine enter_E 13 Try.func29 rfl rfl (by kernel_rfl) (L := [(0, Value.pointer none), (1, Value.int .i64 h)]) (by kernel_rfl) ?_
  intro ac hA
  have hW := Ws.start w No
  refine wp_seq ?_
  refine wp_region_lit ?_
  refine st_rd (v := Value.map none) hA (by kernel_rfl) (by kernel_rfl) (by kernel_rfl) hW.cls (Rd.pure fun _ => by kernel_rfl) ?_; clear hA ac; intro ac hA
  refine wpList_nil ?_
  refine thenN ?_
  refine wp_seq ?_
  refine wp_seq ?_
  refine wp_region_lit ?_
  refine st_rd (v := Value.pointer none) hA (by kernel_rfl) (by kernel_rfl) (by kernel_rfl) hW.cls (Rd.pure fun _ => by kernel_rfl) ?_; clear hA ac; intro ac hA
  refine st hA (by kernel_rfl) (by kernel_rfl) (by kernel_rfl) (Runs.callS (v := Value.bool true) (fun _ => by kernel_rfl) (e_none_nil w) ?_); clear hA ac; intro  ac hA
  refine wpList_nil ?_
  refine thenN ?_
  refine wp_cond_true (hA.eval (by kernel_rfl)) ?_
  refine wp_seq ?_
  refine wp_region_lit ?_
  refine st_rd (v := Value.map none) hA (by kernel_rfl) (by kernel_rfl) (by kernel_rfl) hW.cls (Rd.pure fun _ => by kernel_rfl) ?_; clear hA ac; intro ac hA
  refine wpList_nil ?_
  refine thenN ?_
  refine wp_ret ?_
  refine thenR ?_
  refine ret1 (v := Value.map none) (by rfl) hA (Got.tmp hA (by kernel_rfl) (by kernel_rfl)) ?_
  clear hA
  exact ⟨retv (by rfl), hW.fr⟩

set_option maxRecDepth 100000 in
theorem e_get_nil (h : Int) (id : Int) (w : World)  : Calls Try.prog 21 #[Value.pointer none, Value.int .i64 h, Value.int .i64 id] w (fun e w' => e = .returned (Value.tuple #[(⟨0, ⟨0, 0⟩⟩ : Mark).v, Value.bool false]) ∧ Fr No w w') := by
  refine enter_E 20 Try.func21 rfl rfl (by kernel_rfl) (L := [(0, Value.pointer none), (1, Value.int .i64 h), (2, Value.int .i64 id)]) (by kernel_rfl) ?_
  intro ac hA
  have hW := Ws.start w No
  refine wp_seq ?_
  refine wp_region_lit ?_
  refine st hA (by kernel_rfl) (by kernel_rfl) (by kernel_rfl) (Runs.cells (fun b => Value.pointer (some ⟨b, 0, none⟩)) #[Value.int .u64 0, Value.int .i64 0, Value.int .i64 0] 32 (fun _ => by kernel_rfl) hW ?_); clear hA ac hW; intro b1 w2 hW hb1 hfw2 ac hA
  refine st_rd (v := Value.bool false) hA (by kernel_rfl) (by kernel_rfl) (by kernel_rfl) hW.cls (Rd.pure fun _ => by kernel_rfl) ?_; clear hA ac; intro ac hA
  refine wpList_nil ?_
  refine thenN ?_
  refine wp_seq ?_
  refine wp_region_lit ?_
  refine st_rd (v := Value.pointer none) hA (by kernel_rfl) (by kernel_rfl) (by kernel_rfl) hW.cls (Rd.pure fun _ => by kernel_rfl) ?_; clear hA ac; intro ac hA
  refine st_rd (v := Value.int .i64 h) hA (by kernel_rfl) (by kernel_rfl) (by kernel_rfl) hW.cls (Rd.pure fun _ => by kernel_rfl) ?_; clear hA ac; intro ac hA
  refine st hA (by kernel_rfl) (by kernel_rfl) (by kernel_rfl) (Runs.callN (v := Value.map none) (fun _ => by kernel_rfl) hW (e_of_nil (h) w2) ?_); clear hA ac hW; intro w3 hW hfw3 ac hA
  refine st_rd (v := Value.int .i64 id) hA (by kernel_rfl) (by kernel_rfl) (by kernel_rfl) hW.cls (Rd.pure fun _ => by kernel_rfl) ?_; clear hA ac; intro ac hA
  refine st_rd (v := Value.tuple #[(⟨0, ⟨0, 0⟩⟩ : Mark).v, Value.bool false]) hA (by kernel_rfl) (by kernel_rfl) (by kernel_rfl) hW.cls (Rd.lookupNil (k := 3) (e := 32) (ek := (fun a : Int => Value.int .i64 a)) (z := (⟨0, ⟨0, 0⟩⟩ : Mark).v) (id : Int) true (by kernel_rfl) (by kernel_rfl) (KeyE.int (by kernel_rfl)) (by kernel_rfl) (fun _ => by kernel_rfl)) ?_; clear hA ac; intro ac hA
  refine st_rd (v := Value.tuple #[(⟨0, ⟨0, 0⟩⟩ : Mark).v, Value.bool false]) hA (by kernel_rfl) (by kernel_rfl) (by kernel_rfl) hW.cls (Rd.pure fun _ => by kernel_rfl) ?_; clear hA ac; intro ac hA
  refine st_rd (v := (⟨0, ⟨0, 0⟩⟩ : Mark).v) hA (by kernel_rfl) (by kernel_rfl) (by kernel_rfl) hW.cls (Rd.pure fun _ => by kernel_rfl) ?_; clear hA ac; intro ac hA
  refine st_rd (v := Value.bool false) hA (by kernel_rfl) (by kernel_rfl) (by kernel_rfl) hW.cls (Rd.pure fun _ => by kernel_rfl) ?_; clear hA ac; intro ac hA
  refine st hA (by kernel_rfl) (by kernel_rfl) (by kernel_rfl) (Runs.cells (fun b => Value.pointer (some ⟨b, 0, none⟩)) #[Value.int .u64 0, Value.int .i64 0, Value.int .i64 0] 32 (fun _ => by kernel_rfl) hW ?_); clear hA ac hW; intro b4 w5 hW hb4 hfw5 ac hA
  refine st hA (by kernel_rfl) (by kernel_rfl) (by kernel_rfl) (Runs.store (v := (⟨0, ⟨0, 0⟩⟩ : Mark).v) (b := b4) (j := 0) (n := 3) (cs' := #[Value.int .u64 (⟨0, ⟨0, 0⟩⟩ : Mark).clock, Value.int .i64 (⟨0, ⟨0, 0⟩⟩ : Mark).site.f, Value.int .i64 (⟨0, ⟨0, 0⟩⟩ : Mark).site.pc]) (H' := [Cel b4 #[Value.int .u64 (⟨0, ⟨0, 0⟩⟩ : Mark).clock, Value.int .i64 (⟨0, ⟨0, 0⟩⟩ : Mark).site.f, Value.int .i64 (⟨0, ⟨0, 0⟩⟩ : Mark).site.pc] 32, Cel b1 #[Value.int .u64 0, Value.int .i64 0, Value.int .i64 0] 32]) (by kernel_rfl) (by kernel_rfl) (by kernel_rfl) (by kernel_rfl) (by kernel_rfl) hW 0 (by rfl) (Nat.le_of_ble_eq_true (by kernel_rfl)) (by kernel_rfl) (by rfl) ?_); clear hA ac hW; intro w6 hW ac hA
  refine st_rd (v := Value.bool false) hA (by kernel_rfl) (by kernel_rfl) (by kernel_rfl) hW.cls (Rd.pure fun _ => by kernel_rfl) ?_; clear hA ac; intro ac hA
  refine wpList_nil ?_
  refine thenN ?_
  refine wp_seq ?_
  refine wp_region_lit ?_
  refine st_rd (v := Value.agg #[Value.int .u64 (⟨0, ⟨0, 0⟩⟩ : Mark).clock, Value.int .i64 (⟨0, ⟨0, 0⟩⟩ : Mark).site.f, Value.int .i64 (⟨0, ⟨0, 0⟩⟩ : Mark).site.pc]) hA (by kernel_rfl) (by kernel_rfl) (by kernel_rfl) hW.cls (Rd.load (b := b4) (i := 0) (by kernel_rfl) (fun _ hw => (hw.1).cel 0 rfl) (by kernel_rfl)) ?_; clear hA ac; intro ac hA
  refine st_rd (v := Value.bool false) hA (by kernel_rfl) (by kernel_rfl) (by kernel_rfl) hW.cls (Rd.pure fun _ => by kernel_rfl) ?_; clear hA ac; intro ac hA
  refine st hA (by kernel_rfl) (by kernel_rfl) (by kernel_rfl) (Runs.store (v := Value.agg #[Value.int .u64 (⟨0, ⟨0, 0⟩⟩ : Mark).clock, Value.int .i64 (⟨0, ⟨0, 0⟩⟩ : Mark).site.f, Value.int .i64 (⟨0, ⟨0, 0⟩⟩ : Mark).site.pc]) (b := b1) (j := 0) (n := 3) (cs' := #[Value.int .u64 (⟨0, ⟨0, 0⟩⟩ : Mark).clock, Value.int .i64 (⟨0, ⟨0, 0⟩⟩ : Mark).site.f, Value.int .i64 (⟨0, ⟨0, 0⟩⟩ : Mark).site.pc]) (H' := [Cel b4 #[Value.int .u64 (⟨0, ⟨0, 0⟩⟩ : Mark).clock, Value.int .i64 (⟨0, ⟨0, 0⟩⟩ : Mark).site.f, Value.int .i64 (⟨0, ⟨0, 0⟩⟩ : Mark).site.pc] 32, Cel b1 #[Value.int .u64 (⟨0, ⟨0, 0⟩⟩ : Mark).clock, Value.int .i64 (⟨0, ⟨0, 0⟩⟩ : Mark).site.f, Value.int .i64 (⟨0, ⟨0, 0⟩⟩ : Mark).site.pc] 32]) (by kernel_rfl) (by kernel_rfl) (by kernel_rfl) (by kernel_rfl) (by kernel_rfl) hW 1 (by rfl) (Nat.le_of_ble_eq_true (by kernel_rfl)) (by kernel_rfl) (by rfl) ?_); clear hA ac hW; intro w7 hW ac hA
  refine st_rd (v := Value.bool false) hA (by kernel_rfl) (by kernel_rfl) (by kernel_rfl) hW.cls (Rd.pure fun _ => by kernel_rfl) ?_; clear hA ac; intro ac hA
  refine wpList_nil ?_
  refine thenN ?_
  refine wp_ret ?_
  refine ret2 (v1 := Value.agg #[Value.int .u64 (⟨0, ⟨0, 0⟩⟩ : Mark).clock, Value.int .i64 (⟨0, ⟨0, 0⟩⟩ : Mark).site.f, Value.int .i64 (⟨0, ⟨0, 0⟩⟩ : Mark).site.pc]) (v2 := Value.bool false) (by rfl) hA (Got.cell (b := b1) (i := 0) hA (by kernel_rfl) (by kernel_rfl) (hW.cel 1 rfl) (by kernel_rfl)) (Got.tmp hA (by kernel_rfl) (by kernel_rfl)) ?_
  clear hA
  exact ⟨retv (by rfl), hW.fr⟩

set_option maxRecDepth 100000 in
theorem e_free_nil (h : Int) (w : World)  : Calls Try.prog 12 #[Value.pointer none, Value.int .i64 h] w (fun e w' => e = .returned (Value.int .i64 1) ∧ Fr No w w') := by
  refine enter_E 20 Try.func12 rfl rfl (by kernel_rfl) (L := [(0, Value.pointer none), (1, Value.int .i64 h)]) (by kernel_rfl) ?_
  intro ac hA
  have hW := Ws.start w No
  refine wp_seq ?_
  refine wp_region_lit ?_
  refine st_rd (v := Value.int .i64 0) hA (by kernel_rfl) (by kernel_rfl) (by kernel_rfl) hW.cls (Rd.pure fun _ => by kernel_rfl) ?_; clear hA ac; intro ac hA
  refine wpList_nil ?_
  refine thenN ?_
  refine wp_fwd (l := 0) rfl ?_
  refine wp_seq ?_
  refine wp_seq ?_
  refine wp_region_lit ?_
  refine st_rd (v := Value.int .i64 1) hA (by kernel_rfl) (by kernel_rfl) (by kernel_rfl) hW.cls (Rd.pure fun _ => by kernel_rfl) ?_; clear hA ac; intro ac hA
  refine wpList_nil ?_
  refine thenN ?_
  refine wp_seq ?_
  refine wp_region_lit ?_
  refine st_rd (v := Value.pointer none) hA (by kernel_rfl) (by kernel_rfl) (by kernel_rfl) hW.cls (Rd.pure fun _ => by kernel_rfl) ?_; clear hA ac; intro ac hA
  refine st hA (by kernel_rfl) (by kernel_rfl) (by kernel_rfl) (Runs.callS (v := Value.bool true) (fun _ => by kernel_rfl) (e_none_nil w) ?_); clear hA ac; intro  ac hA
  refine wpList_nil ?_
  refine thenN ?_
  refine wp_cond_true (hA.eval (by kernel_rfl)) ?_
  refine wp_goto ?_
  refine thenG ?_
  refine fwdG ?_
  refine wp_seq ?_
  refine wp_skip ?_
  refine thenN ?_
  refine wp_seq ?_
  refine wp_region_lit ?_
  refine st_rd (v := Value.int .i64 1) hA (by kernel_rfl) (by kernel_rfl) (by kernel_rfl) hW.cls (Rd.pure fun _ => by kernel_rfl) ?_; clear hA ac; intro ac hA
  refine st_rd (v := Value.int .i64 1) hA (by kernel_rfl) (by kernel_rfl) (by kernel_rfl) hW.cls (Rd.pure fun _ => by kernel_rfl) ?_; clear hA ac; intro ac hA
  refine wpList_nil ?_
  refine thenN ?_
  refine wp_ret ?_
  refine nogR ?_
  refine ret1 (v := Value.int .i64 1) (by rfl) hA (Got.tmp hA (by kernel_rfl) (by kernel_rfl)) ?_
  clear hA
  exact ⟨retv (by rfl), hW.fr⟩

set_option maxRecDepth 100000 in
theorem e_copy_nil  (w : World)  : Calls Try.prog 18 #[Value.pointer none] w (fun e w' => e = .returned (Value.pointer none) ∧ Fr No w w') := by
  refine enter_E 27 Try.func18 rfl rfl (by kernel_rfl) (L := [(0, Value.pointer none)]) (by kernel_rfl) ?_
  intro ac hA
  have hW := Ws.start w No
  refine wp_seq ?_
  refine wp_region_lit ?_
  refine st_rd (v := Value.pointer none) hA (by kernel_rfl) (by kernel_rfl) (by kernel_rfl) hW.cls (Rd.pure fun _ => by kernel_rfl) ?_; clear hA ac; intro ac hA
  refine wpList_nil ?_
  refine thenN ?_
  refine wp_seq ?_
  refine wp_seq ?_
  refine wp_region_lit ?_
  refine st_rd (v := Value.pointer none) hA (by kernel_rfl) (by kernel_rfl) (by kernel_rfl) hW.cls (Rd.pure fun _ => by kernel_rfl) ?_; clear hA ac; intro ac hA
  refine st hA (by kernel_rfl) (by kernel_rfl) (by kernel_rfl) (Runs.callS (v := Value.bool true) (fun _ => by kernel_rfl) (e_none_nil w) ?_); clear hA ac; intro  ac hA
  refine wpList_nil ?_
  refine thenN ?_
  refine wp_cond_true (hA.eval (by kernel_rfl)) ?_
  refine wp_seq ?_
  refine wp_region_lit ?_
  refine st_rd (v := Value.pointer none) hA (by kernel_rfl) (by kernel_rfl) (by kernel_rfl) hW.cls (Rd.pure fun _ => by kernel_rfl) ?_; clear hA ac; intro ac hA
  refine wpList_nil ?_
  refine thenN ?_
  refine wp_ret ?_
  refine thenR ?_
  refine ret1 (v := Value.pointer none) (by rfl) hA (Got.tmp hA (by kernel_rfl) (by kernel_rfl)) ?_
  clear hA
  exact ⟨retv (by rfl), hW.fr⟩

set_option maxRecDepth 100000 in
theorem e_live_nil  (w : World)  : Calls Try.prog 9 #[Value.pointer none] w (fun e w' => e = .returned (Value.slice none 0 0) ∧ Fr No w w') := by
  refine enter_E 18 Try.func9 rfl rfl (by kernel_rfl) (L := [(0, Value.pointer none)]) (by kernel_rfl) ?_
  intro ac hA
  have hW := Ws.start w No
  refine wp_seq ?_
  refine wp_region_lit ?_
  refine st_rd (v := Value.slice none 0 0) hA (by kernel_rfl) (by kernel_rfl) (by kernel_rfl) hW.cls (Rd.pure fun _ => by kernel_rfl) ?_; clear hA ac; intro ac hA
  refine wpList_nil ?_
  refine thenN ?_
  refine wp_seq ?_
  refine wp_seq ?_
  refine wp_region_lit ?_
  refine st_rd (v := Value.pointer none) hA (by kernel_rfl) (by kernel_rfl) (by kernel_rfl) hW.cls (Rd.pure fun _ => by kernel_rfl) ?_; clear hA ac; intro ac hA
  refine st hA (by kernel_rfl) (by kernel_rfl) (by kernel_rfl) (Runs.callS (v := Value.bool true) (fun _ => by kernel_rfl) (e_none_nil w) ?_); clear hA ac; intro  ac hA
  refine st_rd (v := Value.bool true) hA (by kernel_rfl) (by kernel_rfl) (by kernel_rfl) hW.cls (Rd.pure fun _ => by kernel_rfl) ?_; clear hA ac; intro ac hA
  refine st_skip hA (by kernel_rfl) (by kernel_rfl) ?_; clear hA ac; intro ac hA
  refine st_skip hA (by kernel_rfl) (by kernel_rfl) ?_; clear hA ac; intro ac hA
  refine st_skip hA (by kernel_rfl) (by kernel_rfl) ?_; clear hA ac; intro ac hA
  refine st_skip hA (by kernel_rfl) (by kernel_rfl) ?_; clear hA ac; intro ac hA
  refine st_skip hA (by kernel_rfl) (by kernel_rfl) ?_; clear hA ac; intro ac hA
  refine st_skip hA (by kernel_rfl) (by kernel_rfl) ?_; clear hA ac; intro ac hA
  refine st_rd (v := Value.bool true) hA (by kernel_rfl) (by kernel_rfl) (by kernel_rfl) hW.cls (Rd.pure fun _ => by kernel_rfl) ?_; clear hA ac; intro ac hA
  refine wpList_nil ?_
  refine thenN ?_
  refine wp_cond_true (hA.eval (by kernel_rfl)) ?_
  refine wp_seq ?_
  refine wp_region_lit ?_
  refine st_rd (v := Value.slice none 0 0) hA (by kernel_rfl) (by kernel_rfl) (by kernel_rfl) hW.cls (Rd.pure fun _ => by kernel_rfl) ?_; clear hA ac; intro ac hA
  refine wpList_nil ?_
  refine thenN ?_
  refine wp_ret ?_
  refine thenR ?_
  refine ret1 (v := Value.slice none 0 0) (by rfl) hA (Got.tmp hA (by kernel_rfl) (by kernel_rfl)) ?_
  clear hA
  exact ⟨retv (by rfl), hW.fr⟩

set_option maxRecDepth 100000 in
theorem e_same_nil  (w : World)  : Calls Try.prog 20 #[Value.pointer none, Value.pointer none] w (fun e w' => e = .returned (Value.bool true) ∧ Fr No w w') := by
  refine enter_E 26 Try.func20 rfl rfl (by kernel_rfl) (L := [(0, Value.pointer none), (1, Value.pointer none)]) (by kernel_rfl) ?_
  intro ac hA
  have hW := Ws.start w No
  refine wp_seq ?_
  refine wp_region_lit ?_
  refine st_rd (v := Value.bool false) hA (by kernel_rfl) (by kernel_rfl) (by kernel_rfl) hW.cls (Rd.pure fun _ => by kernel_rfl) ?_; clear hA ac; intro ac hA
  refine wpList_nil ?_
  refine thenN ?_
  refine wp_seq ?_
  refine wp_seq ?_
  refine wp_region_lit ?_
  refine st_rd (v := Value.pointer none) hA (by kernel_rfl) (by kernel_rfl) (by kernel_rfl) hW.cls (Rd.pure fun _ => by kernel_rfl) ?_; clear hA ac; intro ac hA
  refine st hA (by kernel_rfl) (by kernel_rfl) (by kernel_rfl) (Runs.callS (v := Value.bool true) (fun _ => by kernel_rfl) (e_none_nil w) ?_); clear hA ac; intro  ac hA
  refine st_rd (v := Value.bool true) hA (by kernel_rfl) (by kernel_rfl) (by kernel_rfl) hW.cls (Rd.pure fun _ => by kernel_rfl) ?_; clear hA ac; intro ac hA
  refine st_skip hA (by kernel_rfl) (by kernel_rfl) ?_; clear hA ac; intro ac hA
  refine st_skip hA (by kernel_rfl) (by kernel_rfl) ?_; clear hA ac; intro ac hA
  refine st_rd (v := Value.bool true) hA (by kernel_rfl) (by kernel_rfl) (by kernel_rfl) hW.cls (Rd.pure fun _ => by kernel_rfl) ?_; clear hA ac; intro ac hA
  refine wpList_nil ?_
  refine thenN ?_
  refine wp_cond_true (hA.eval (by kernel_rfl)) ?_
  refine wp_seq ?_
  refine wp_region_lit ?_
  refine st_rd (v := Value.pointer none) hA (by kernel_rfl) (by kernel_rfl) (by kernel_rfl) hW.cls (Rd.pure fun _ => by kernel_rfl) ?_; clear hA ac; intro ac hA
  refine st hA (by kernel_rfl) (by kernel_rfl) (by kernel_rfl) (Runs.callS (v := Value.bool true) (fun _ => by kernel_rfl) (e_none_nil w) ?_); clear hA ac; intro  ac hA
  refine st_rd (v := Value.bool true) hA (by kernel_rfl) (by kernel_rfl) (by kernel_rfl) hW.cls (Rd.pure fun _ => by kernel_rfl) ?_; clear hA ac; intro ac hA
  refine st_rd (v := Value.pointer none) hA (by kernel_rfl) (by kernel_rfl) (by kernel_rfl) hW.cls (Rd.pure fun _ => by kernel_rfl) ?_; clear hA ac; intro ac hA
  refine st hA (by kernel_rfl) (by kernel_rfl) (by kernel_rfl) (Runs.callS (v := Value.bool true) (fun _ => by kernel_rfl) (e_none_nil w) ?_); clear hA ac; intro  ac hA
  refine st_rd (v := Value.bool true) hA (by kernel_rfl) (by kernel_rfl) (by kernel_rfl) hW.cls (Rd.pure fun _ => by kernel_rfl) ?_; clear hA ac; intro ac hA
  refine st_rd (v := Value.bool true) hA (by kernel_rfl) (by kernel_rfl) (by kernel_rfl) hW.cls (Rd.pure fun _ => by kernel_rfl) ?_; clear hA ac; intro ac hA
  refine wpList_nil ?_
  refine thenN ?_
  refine wp_ret ?_
  refine thenR ?_
  refine ret1 (v := Value.bool true) (by rfl) hA (Got.tmp hA (by kernel_rfl) (by kernel_rfl)) ?_
  clear hA
  exact ⟨retv (by rfl), hW.fr⟩

set_option maxRecDepth 100000 in
theorem e_same_onil (p : Nat) (b : Nat) (V : List (Int × Nat × List (Int × Mark))) (w : World) (ho_p : (PoolR p b V).p w) (hl_p : ∀ x_ ∈ (PoolR p b V).fp, x_ < w.heap.size) : Calls Try.prog 20 #[Value.pointer (some ⟨p, 0, none⟩), Value.pointer none] w (fun e w' => e = .returned (Value.bool false) ∧ Fr No w w') := by
  have _hu := ho_p; have _hv := hl_p; clear _hu _hv
  refine enter_E 26 Try.func20 rfl rfl (by kernel_rfl) (L := [(0, Value.pointer (some ⟨p, 0, none⟩)), (1, Value.pointer none)]) (by kernel_rfl) ?_
  intro ac hA
  have hW := Ws.start w No
  have hW := hW.objG (L := [Cel p #[Value.map (some b)] 62, mapR b (fun a : Int => Value.int .i64 a) (fun x_ : Nat => Value.map (some x_)) (outs V), SubR (fun (c_ : List (Int × Mark)) (b_ : Nat) => mapR b_ (fun a : Int => Value.int .i64 a) Mark.v c_) V]) ho_p hl_p
  clear ho_p hl_p
  refine wp_seq ?_
  refine wp_region_lit ?_
  refine st_rd (v := Value.bool false) hA (by kernel_rfl) (by kernel_rfl) (by kernel_rfl) hW.cls (Rd.pure fun _ => by kernel_rfl) ?_; clear hA ac; intro ac hA
  refine wpList_nil ?_
  refine thenN ?_
  refine wp_seq ?_
  refine wp_seq ?_
  refine wp_region_lit ?_
  refine st_rd (v := Value.pointer (some ⟨p, 0, none⟩)) hA (by kernel_rfl) (by kernel_rfl) (by kernel_rfl) hW.cls (Rd.pure fun _ => by kernel_rfl) ?_; clear hA ac; intro ac hA
  refine st hA (by kernel_rfl) (by kernel_rfl) (by kernel_rfl) (Runs.callS (v := Value.bool false) (fun _ => by kernel_rfl) (e_none p b w (show _ = _ from (hW).getG 0 rfl)) ?_); clear hA ac; intro  ac hA
  refine st_rd (v := Value.bool false) hA (by kernel_rfl) (by kernel_rfl) (by kernel_rfl) hW.cls (Rd.pure fun _ => by kernel_rfl) ?_; clear hA ac; intro ac hA
  refine st_rd (v := Value.pointer none) hA (by kernel_rfl) (by kernel_rfl) (by kernel_rfl) hW.cls (Rd.pure fun _ => by kernel_rfl) ?_; clear hA ac; intro ac hA
  refine st hA (by kernel_rfl) (by kernel_rfl) (by kernel_rfl) (Runs.callS (v := Value.bool true) (fun _ => by kernel_rfl) (e_none_nil w) ?_); clear hA ac; intro  ac hA
  refine st_rd (v := Value.bool true) hA (by kernel_rfl) (by kernel_rfl) (by kernel_rfl) hW.cls (Rd.pure fun _ => by kernel_rfl) ?_; clear hA ac; intro ac hA
  refine wpList_nil ?_
  refine thenN ?_
  refine wp_cond_true (hA.eval (by kernel_rfl)) ?_
  refine wp_seq ?_
  refine wp_region_lit ?_
  refine st_rd (v := Value.pointer (some ⟨p, 0, none⟩)) hA (by kernel_rfl) (by kernel_rfl) (by kernel_rfl) hW.cls (Rd.pure fun _ => by kernel_rfl) ?_; clear hA ac; intro ac hA
  refine st hA (by kernel_rfl) (by kernel_rfl) (by kernel_rfl) (Runs.callS (v := Value.bool false) (fun _ => by kernel_rfl) (e_none p b w (show _ = _ from (hW).getG 0 rfl)) ?_); clear hA ac; intro  ac hA
  refine st_rd (v := Value.bool false) hA (by kernel_rfl) (by kernel_rfl) (by kernel_rfl) hW.cls (Rd.pure fun _ => by kernel_rfl) ?_; clear hA ac; intro ac hA
  refine st_skip hA (by kernel_rfl) (by kernel_rfl) ?_; clear hA ac; intro ac hA
  refine st_skip hA (by kernel_rfl) (by kernel_rfl) ?_; clear hA ac; intro ac hA
  refine st_rd (v := Value.bool false) hA (by kernel_rfl) (by kernel_rfl) (by kernel_rfl) hW.cls (Rd.pure fun _ => by kernel_rfl) ?_; clear hA ac; intro ac hA
  refine st_rd (v := Value.bool false) hA (by kernel_rfl) (by kernel_rfl) (by kernel_rfl) hW.cls (Rd.pure fun _ => by kernel_rfl) ?_; clear hA ac; intro ac hA
  refine wpList_nil ?_
  refine thenN ?_
  refine wp_ret ?_
  refine thenR ?_
  refine ret1 (v := Value.bool false) (by rfl) hA (Got.tmp hA (by kernel_rfl) (by kernel_rfl)) ?_
  clear hA
  exact ⟨retv (by rfl), hW.fr⟩

set_option maxRecDepth 100000 in
theorem e_mark_nil (h : Int) (id : Int) (m : Mark) (w : World) (hid : -9223372036854775808 ≤ id ∧ id ≤ 9223372036854775807) (hcl : 0 ≤ m.clock ∧ m.clock ≤ 18446744073709551615) : Calls Try.prog 13 #[Value.pointer none, Value.int .i64 h, Value.int .i64 id, m.v] w (fun e w' => e = .returned (Value.int .i64 1) ∧ Fr No w w') := by
  have _hu := hid; clear _hu
  have _hu := hcl; clear _hu
  refine enter_E 38 Try.func13 rfl rfl (by kernel_rfl) (L := [(0, Value.pointer none), (1, Value.int .i64 h), (2, Value.int .i64 id), (3, m.v)]) (by kernel_rfl) ?_
  intro ac hA
  have hW := Ws.start w No
  refine wp_seq ?_
  refine wp_region_lit ?_
  refine st hA (by kernel_rfl) (by kernel_rfl) (by kernel_rfl) (Runs.cells (fun b => Value.pointer (some ⟨b, 0, none⟩)) #[Value.int .u64 m.clock, Value.int .i64 m.site.f, Value.int .i64 m.site.pc] 32 (fun _ => by kernel_rfl) hW ?_); clear hA ac hW; intro b1 w2 hW hb1 hfw2 ac hA
  refine st_rd (v := Value.int .i64 0) hA (by kernel_rfl) (by kernel_rfl) (by kernel_rfl) hW.cls (Rd.pure fun _ => by kernel_rfl) ?_; clear hA ac; intro ac hA
  refine wpList_nil ?_
  refine thenN ?_
  refine wp_seq ?_
  refine wp_seq ?_
  refine wp_cut (fun ac_ wl_ => ∃ br1_8 : Nat, Fm 38 [] [(0, Value.pointer none), (1, Value.int .i64 h), (2, Value.int .i64 id), (3, m.v), (7, Value.pointer (some ⟨b1, 0, none⟩)), (8, Value.int .i64 0), (9, Value.int .i64 1)] ac_ ∧ Ws w No [Cel br1_8 #[Value.bool true, Value.int .i64 1, Value.bool (!(fineM (id) m)), Value.int .i64 2] 73, Cel b1 #[Value.int .u64 m.clock, Value.int .i64 m.site.f, Value.int .i64 m.site.pc] 32] [] wl_) ?_ ?_
  · refine sr_region (m := 11) (C := Ws w No [Cel b1 #[Value.int .u64 m.clock, Value.int .i64 m.site.f, Value.int .i64 m.site.pc] 32] []) (fun i => [4].contains i) (fun i => [1, 4].contains i) (fun i => [0, 2, 3, 6, 7, 10].contains i) (by kernel_rfl) (by kernel_rfl) (by kernel_rfl) (by kernel_rfl) hW ?_; clear hW; intro w3 hW hfw3 hR; have hC : Ws w No [Cel b1 #[Value.int .u64 m.clock, Value.int .i64 m.site.f, Value.int .i64 m.site.pc] 32] [] w3 := hW.pick [0] (by decide) rfl
    refine sr_pure (i := 0) (v := Value.pointer none) hR (by kernel_rfl) rfl (by kernel_rfl) (by kernel_rfl) (fun _ _ _ h => h.elim) hA (by kernel_rfl) (by kernel_rfl) (by kernel_rfl) (Rd.pure fun _ => by kernel_rfl) ?_; clear hA ac; intro ac hA
    refine sr_pure (i := 3) (v := Value.int .i64 id) hR (by kernel_rfl) rfl (by kernel_rfl) (by kernel_rfl) (fun _ _ _ h => h.elim) hA (by kernel_rfl) (by kernel_rfl) (by kernel_rfl) (Rd.pure fun _ => by kernel_rfl) ?_; clear hA ac; intro ac hA
    refine sr_take (i := 4) (v := Value.agg #[Value.int .u64 m.clock, Value.int .i64 m.site.f, Value.int .i64 m.site.pc]) hR (by kernel_rfl) rfl (by kernel_rfl) (by kernel_rfl) (by kernel_rfl) (fun _ _ _ h => h.elim) hA (by kernel_rfl) (by kernel_rfl) (by kernel_rfl) hC (Rd.load (b := b1) (i := 0) (by kernel_rfl) (fun _ hw => (hw).cel 0 rfl) (by kernel_rfl)) ?_; clear hA ac; intro ac hA
    refine sr_one (i := 1) (by kernel_rfl) (sr_do rfl hA (by kernel_rfl) (by kernel_rfl) (by kernel_rfl) (Runs.callS (v := Value.bool true) (fun _ => by kernel_rfl) (e_none_nil w3) ?_)); clear hA ac; intro  ac hA
    refine ⟨⟨fun _ => (hW.pick [0] (by decide) rfl).pickG [] rfl, fun h => absurd h (by decide)⟩, ?_⟩; have hC : Ws w No [Cel b1 #[Value.int .u64 m.clock, Value.int .i64 m.site.f, Value.int .i64 m.site.pc] 32] [] w3 := (hW.pick [0] (by decide) rfl).pickG [] rfl
    refine sr_pure (i := 2) (v := Value.agg #[Value.bool true, Value.int .i64 1]) hR (by kernel_rfl) rfl (by kernel_rfl) (by kernel_rfl) (fun _ _ _ h => h.elim) hA (by kernel_rfl) (by kernel_rfl) (by kernel_rfl) (Rd.pure fun _ => by kernel_rfl) ?_; clear hA ac; intro ac hA
    refine sr_one (i := 5) (by kernel_rfl) (sr_do rfl hA (by kernel_rfl) (by kernel_rfl) (by kernel_rfl) (Runs.callN (v := Value.bool (fineM (id) m)) (fun _ => by kernel_rfl) hW (e_fine (id) m w3 (by first | omega | (simp; done)) (by first | omega | (simp; done))) ?_)); clear hA ac hW; intro w4 hW hfw4 ac hA
    refine ⟨⟨fun h => absurd h (by decide), fun h => absurd h (by decide)⟩, ?_⟩
    refine sr_pure (i := 6) (v := Value.bool (!(fineM (id) m))) hR (by kernel_rfl) rfl (by kernel_rfl) (by kernel_rfl) (fun _ _ _ h => h.elim) hA (by kernel_rfl) (by kernel_rfl) (by kernel_rfl) (Rd.pure fun _ => by kernel_rfl) ?_; clear hA ac; intro ac hA
    refine sr_pure (i := 7) (v := Value.agg #[Value.bool (!(fineM (id) m)), Value.int .i64 2]) hR (by kernel_rfl) rfl (by kernel_rfl) (by kernel_rfl) (fun _ _ _ h => h.elim) hA (by kernel_rfl) (by kernel_rfl) (by kernel_rfl) (Rd.pure fun _ => by kernel_rfl) ?_; clear hA ac; intro ac hA
    refine sr_one (i := 8) (by kernel_rfl) (sr_do rfl hA (by kernel_rfl) (by kernel_rfl) (by kernel_rfl) (Runs.cells (fun b => Value.slice (some ⟨b, 0, none⟩) 2 2) #[Value.bool true, Value.int .i64 1, Value.bool (!(fineM (id) m)), Value.int .i64 2] 73 (fun _ => by kernel_rfl) hW ?_)); clear hA ac hW; intro br1_8 w5 hW hbr1_8 hfw5 ac hA
    refine ⟨⟨fun h => absurd h (by decide), fun h => absurd h (by decide)⟩, ?_⟩
    refine sr_one (i := 9) (by kernel_rfl) (sr_do rfl hA (by kernel_rfl) (by kernel_rfl) (by kernel_rfl) (Runs.callN (v := Value.int .i64 1) (fun _ => by kernel_rfl) hW (e_first3 (⟨!(fineM (id) m), 2⟩ : Ask) (some ⟨br1_8, 0, none⟩) 2 w5 (rowAt_cel ((hW).cel 0 rfl) ([(⟨true, 1⟩ : Ask), (⟨!(fineM (id) m), 2⟩ : Ask)] : List Ask) (by rfl) elt_Ask.len) (by omega)) ?_)); clear hA ac hW; intro w6 hW hfw6 ac hA
    refine ⟨⟨fun h => absurd h (by decide), fun h => absurd h (by decide)⟩, ?_⟩
    refine sr_pure (i := 10) (v := Value.int .i64 1) hR (by kernel_rfl) rfl (by kernel_rfl) (by kernel_rfl) (fun _ _ _ h => h.elim) hA (by kernel_rfl) (by kernel_rfl) (by kernel_rfl) (Rd.pure fun _ => by kernel_rfl) ?_; clear hA ac; intro ac hA
    refine sr_done (by kernel_rfl) ?_ _
    exact ⟨br1_8, hA.sub ⟨⟨by kernel_rfl, by kernel_rfl⟩, ⟨by kernel_rfl, by kernel_rfl⟩, ⟨by kernel_rfl, by kernel_rfl⟩, ⟨by kernel_rfl, by kernel_rfl⟩, ⟨by kernel_rfl, by kernel_rfl⟩, ⟨by kernel_rfl, by kernel_rfl⟩, ⟨by kernel_rfl, by kernel_rfl⟩, trivial⟩, (hW.pick [0, 1] (by decide) rfl).pickG [] rfl⟩
  clear hA ac hW; rintro ac w7 ⟨br1_8, hA, hW⟩
  refine thenN ?_
  refine wp_seq ?_
  refine wp_region_lit ?_
  refine st_rd (v := Value.int .i64 1) hA (by kernel_rfl) (by kernel_rfl) (by kernel_rfl) hW.cls (Rd.pure fun _ => by kernel_rfl) ?_; clear hA ac; intro ac hA
  refine st_rd (v := Value.bool true) hA (by kernel_rfl) (by kernel_rfl) (by kernel_rfl) hW.cls (Rd.pure fun _ => by kernel_rfl) ?_; clear hA ac; intro ac hA
  refine wpList_nil ?_
  refine thenN ?_
  refine wp_cond_true (hA.eval (by kernel_rfl)) ?_
  refine wp_seq ?_
  refine wp_region_lit ?_
  refine st_rd (v := Value.int .i64 1) hA (by kernel_rfl) (by kernel_rfl) (by kernel_rfl) hW.cls (Rd.pure fun _ => by kernel_rfl) ?_; clear hA ac; intro ac hA
  refine st_rd (v := Value.int .i64 1) hA (by kernel_rfl) (by kernel_rfl) (by kernel_rfl) hW.cls (Rd.pure fun _ => by kernel_rfl) ?_; clear hA ac; intro ac hA
  refine wpList_nil ?_
  refine thenN ?_
  refine wp_ret ?_
  refine thenR ?_
  refine ret1 (v := Value.int .i64 1) (by rfl) hA (Got.tmp hA (by kernel_rfl) (by kernel_rfl)) ?_
  clear hA
  exact ⟨retv (by rfl), hW.fr⟩

set_option maxRecDepth 100000 in
theorem e_beyond_nil (h : Int) (A_c : Option Addr) (c_c : Nat) (c : List Int) (w : World) (hr_c : RowAt w A_c 1 enU c) (hc_c : c.length ≤ c_c) (hl : c.length ≤ 1000) : Calls Try.prog 15 #[Value.pointer none, Value.int .i64 h, Value.slice A_c c.length c_c] w (fun e w' => e = .returned (Value.tuple #[Value.int .i64 0, (⟨0, ⟨0, 0⟩⟩ : Mark).v, Value.bool false]) ∧ Fr No w w') := by
  have _hu := hc_c; have _hv := hr_c; clear _hu _hv
  have _hu := hl; clear _hu
  refine enter_E 36 Try.func15 rfl rfl (by kernel_rfl) (L := [(0, Value.pointer none), (1, Value.int .i64 h), (2, Value.slice A_c c.length c_c)]) (by kernel_rfl) ?_
  intro ac hA
  have hW := Ws.start w No
  have hW := hW.arg hr_c
  refine wp_seq ?_
  refine wp_region_lit ?_
  refine st_rd (v := Value.int .i64 0) hA (by kernel_rfl) (by kernel_rfl) (by kernel_rfl) hW.cls (Rd.pure fun _ => by kernel_rfl) ?_; clear hA ac; intro ac hA
  refine st hA (by kernel_rfl) (by kernel_rfl) (by kernel_rfl) (Runs.cells (fun b => Value.pointer (some ⟨b, 0, none⟩)) #[Value.int .u64 0, Value.int .i64 0, Value.int .i64 0] 32 (fun _ => by kernel_rfl) hW ?_); clear hA ac hW; intro b1 w2 hW hb1 hfw2 ac hA
  refine st_rd (v := Value.bool false) hA (by kernel_rfl) (by kernel_rfl) (by kernel_rfl) hW.cls (Rd.pure fun _ => by kernel_rfl) ?_; clear hA ac; intro ac hA
  refine wpList_nil ?_
  refine thenN ?_
  refine wp_seq ?_
  refine wp_region_lit ?_
  refine st_rd (v := Value.pointer none) hA (by kernel_rfl) (by kernel_rfl) (by kernel_rfl) hW.cls (Rd.pure fun _ => by kernel_rfl) ?_; clear hA ac; intro ac hA
  refine st_rd (v := Value.int .i64 h) hA (by kernel_rfl) (by kernel_rfl) (by kernel_rfl) hW.cls (Rd.pure fun _ => by kernel_rfl) ?_; clear hA ac; intro ac hA
  refine st hA (by kernel_rfl) (by kernel_rfl) (by kernel_rfl) (Runs.callN (v := Value.map none) (fun _ => by kernel_rfl) hW (e_of_nil (h) w2) ?_); clear hA ac hW; intro w3 hW hfw3 ac hA
  refine st_rd (v := Value.map none) hA (by kernel_rfl) (by kernel_rfl) (by kernel_rfl) hW.cls (Rd.pure fun _ => by kernel_rfl) ?_; clear hA ac; intro ac hA
  refine wpList_nil ?_
  refine thenN ?_
  refine wp_seq ?_
  refine wp_seq ?_
  refine wp_region_lit ?_
  refine st_rd (v := Value.map none) hA (by kernel_rfl) (by kernel_rfl) (by kernel_rfl) hW.cls (Rd.pure fun _ => by kernel_rfl) ?_; clear hA ac; intro ac hA
  refine st hA (by kernel_rfl) (by kernel_rfl) (by kernel_rfl) (Runs.call (fun _ => by kernel_rfl) (e_rising_n w3) ?_)
  rintro _ w4 ⟨g5, Ao6, co7, rfl, hw4_hp, hcco7, hu_⟩; refine ⟨_, rfl, ?_⟩; replace hW := hW.made hu_; clear hA ac; intro ac hA
  refine st_rd (v := Value.int .i64 (((g5).length : Nat) : Int)) hA (by kernel_rfl) (by kernel_rfl) (by kernel_rfl) hW.cls (Rd.pure fun _ => by kernel_rfl) ?_; clear hA ac; intro ac hA
  refine st_rd (v := Value.int .i64 0) hA (by kernel_rfl) (by kernel_rfl) (by kernel_rfl) hW.cls (Rd.pure fun _ => by kernel_rfl) ?_; clear hA ac; intro ac hA
  refine wpList_nil ?_
  refine thenN ?_
  refine wp_block ?_
  have hkl_ : g5.length ≤ 100000 := by rw [hw4_hp]; simp
  refine wp_loop_m (fun m_ ac_ wl_ => ∃ k : Nat, m_ = g5.length - k ∧ (k ≤ g5.length) ∧ Fm 36 [] [(7, Value.pointer (some ⟨b1, 0, none⟩)), (9, Value.map none), (16, Value.slice Ao6 (g5).length co7), (17, Value.int .i64 (((g5).length : Nat) : Int)), (18, Value.int .i64 ((k : Nat) : Int))] ac_ ∧ Ws w No [rowR 3 1 enI (Value.slice Ao6 (g5).length co7) g5, Cel b1 #[Value.int .u64 0, Value.int .i64 0, Value.int .i64 0] 32] [roR A_c 1 enU c] wl_) _ ⟨0, rfl, by omega, hA.sub ⟨⟨by kernel_rfl, by kernel_rfl⟩, ⟨by kernel_rfl, by kernel_rfl⟩, ⟨by kernel_rfl, by kernel_rfl⟩, ⟨by kernel_rfl, by kernel_rfl⟩, ⟨by kernel_rfl, by kernel_rfl⟩, trivial⟩, (hW.pick [0, 1] (by decide) rfl).pickG [0] rfl⟩ ?_
  clear hA ac hW; rintro m_ ac w9 ⟨k, rfl, hk, hA, hW⟩
  refine wp_seq ?_
  refine wp_region_lit ?_
  refine st_rd (v := Value.bool (decide ((((k : Nat) : Int) : Int) < ((((g5).length : Nat) : Int) : Int)))) hA (by kernel_rfl) (by kernel_rfl) (by kernel_rfl) hW.cls (Rd.pure fun _ => by kernel_rfl) ?_; clear hA ac; intro ac hA
  refine wpList_nil ?_
  refine thenN ?_
  refine wp_seq ?_
  refine wp_cond_split (t := decide ((((k : Nat) : Int) : Int) < ((((g5).length : Nat) : Int) : Int))) (hA.eval (by kernel_rfl)) (fun h10 => ?_) (fun h10 => ?_)
  · skip
    have h10 := of_decide_eq_true h10
    first
    | (exfalso; clear hA hW; omega)
    | (exfalso; clear hA hW; rw [hw4_hp] at h10; simp only [List.length_nil] at h10; omega; done)
    | (
        fail)
  · skip
    have h10 := of_decide_eq_false h10
    first
    | (exfalso; clear hA hW; omega)
    | (exfalso; clear hA hW; rw [hw4_hp] at h10; simp only [List.length_nil] at h10; omega; done)
    | (
        refine wp_exit ?_
        refine thenX ?_
        refine thenX ?_
        refine blkX ?_
        refine thenN ?_
        refine wp_seq ?_
        refine wp_region_lit ?_
        refine st_rd (v := Value.agg #[Value.int .u64 0, Value.int .i64 0, Value.int .i64 0]) hA (by kernel_rfl) (by kernel_rfl) (by kernel_rfl) hW.cls (Rd.pure fun _ => by kernel_rfl) ?_; clear hA ac; intro ac hA
        refine st_rd (v := Value.int .i64 0) hA (by kernel_rfl) (by kernel_rfl) (by kernel_rfl) hW.cls (Rd.pure fun _ => by kernel_rfl) ?_; clear hA ac; intro ac hA
        refine st hA (by kernel_rfl) (by kernel_rfl) (by kernel_rfl) (Runs.store (v := Value.agg #[Value.int .u64 0, Value.int .i64 0, Value.int .i64 0]) (b := b1) (j := 0) (n := 3) (cs' := #[Value.int .u64 0, Value.int .i64 0, Value.int .i64 0]) (H' := [rowR 3 1 enI (Value.slice Ao6 (g5).length co7) g5, Cel b1 #[Value.int .u64 0, Value.int .i64 0, Value.int .i64 0] 32]) (by kernel_rfl) (by kernel_rfl) (by kernel_rfl) (by kernel_rfl) (by kernel_rfl) hW 1 (by rfl) (Nat.le_of_ble_eq_true (by kernel_rfl)) (by kernel_rfl) (by rfl) ?_); clear hA ac hW; intro w14 hW ac hA
        refine st_rd (v := Value.bool false) hA (by kernel_rfl) (by kernel_rfl) (by kernel_rfl) hW.cls (Rd.pure fun _ => by kernel_rfl) ?_; clear hA ac; intro ac hA
        refine wpList_nil ?_
        refine thenN ?_
        refine wp_ret ?_
        refine ret3 (v1 := Value.int .i64 0) (v2 := Value.agg #[Value.int .u64 0, Value.int .i64 0, Value.int .i64 0]) (v3 := Value.bool false) (by rfl) hA (Got.tmp hA (by kernel_rfl) (by kernel_rfl)) (Got.cell (b := b1) (i := 0) hA (by kernel_rfl) (by kernel_rfl) (hW.cel 1 rfl) (by kernel_rfl)) (Got.tmp hA (by kernel_rfl) (by kernel_rfl)) ?_
        clear hA
        exact ⟨retv (by rfl), hW.fr⟩)

set_option maxRecDepth 100000 in
theorem e_each_nil (h : Int) (w : World)  : Calls Try.prog 14 #[Value.pointer none, Value.int .i64 h] w (fun e w' => ∃ (lb : Array Value) (g : Res), e = .returned (Value.func (.func 31) #[] lb) ∧ Iter Try.prog 31 lb (fun x_ : Int × Mark => #[Value.int .i64 x_.1, x_.2.v]) (EachR none) [g] ∧ g.from_ [] w w' ∧ Fr No w w') := by
  refine enter_E 14 Try.func14 rfl rfl (by kernel_rfl) (L := [(0, Value.pointer none), (1, Value.int .i64 h)]) (by kernel_rfl) ?_
  intro ac hA
  have hW := Ws.start w No
  refine wp_seq ?_
  refine wp_region_lit ?_
  refine st_rd (v := Value.nilFunc) hA (by kernel_rfl) (by kernel_rfl) (by kernel_rfl) hW.cls (Rd.pure fun _ => by kernel_rfl) ?_; clear hA ac; intro ac hA
  refine wpList_nil ?_
  refine thenN ?_
  refine wp_seq ?_
  refine wp_region_lit ?_
  refine st_rd (v := Value.pointer none) hA (by kernel_rfl) (by kernel_rfl) (by kernel_rfl) hW.cls (Rd.pure fun _ => by kernel_rfl) ?_; clear hA ac; intro ac hA
  refine st_rd (v := Value.int .i64 h) hA (by kernel_rfl) (by kernel_rfl) (by kernel_rfl) hW.cls (Rd.pure fun _ => by kernel_rfl) ?_; clear hA ac; intro ac hA
  refine st hA (by kernel_rfl) (by kernel_rfl) (by kernel_rfl) (Runs.callN (v := Value.map none) (fun _ => by kernel_rfl) hW (e_of_nil (h) w) ?_); clear hA ac hW; intro w1 hW hfw1 ac hA
  refine st hA (by kernel_rfl) (by kernel_rfl) (by kernel_rfl) (Runs.callN (v := Value.map none) (fun _ => by kernel_rfl) hW (e_cloneN w1) ?_); clear hA ac hW; intro w2 hW hfw2 ac hA
  refine st hA (by kernel_rfl) (by kernel_rfl) (by kernel_rfl) (Runs.cells (fun b => Value.pointer (some ⟨b, 0, none⟩)) #[Value.map none] 69 (fun _ => by kernel_rfl) hW ?_); clear hA ac hW; intro b3 w4 hW hb3 hfw4 ac hA
  refine st hA (by kernel_rfl) (by kernel_rfl) (by kernel_rfl) (Runs.store (v := Value.map none) (b := b3) (j := 0) (n := 1) (cs' := #[Value.map none]) (H' := [Cel b3 #[Value.map none] 69]) (by kernel_rfl) (by kernel_rfl) (by kernel_rfl) (by kernel_rfl) (by kernel_rfl) hW 0 (by rfl) (Nat.le_of_ble_eq_true (by kernel_rfl)) (by kernel_rfl) (by rfl) ?_); clear hA ac hW; intro w5 hW ac hA
  refine wpList_nil ?_
  refine thenN ?_
  refine wp_seq ?_
  refine wp_region_lit ?_
  refine st_rd (v := Value.map none) hA (by kernel_rfl) (by kernel_rfl) (by kernel_rfl) hW.cls (Rd.load (b := b3) (i := 0) (by kernel_rfl) (fun _ hw => (hw.1).cel 0 rfl) (by kernel_rfl)) ?_; clear hA ac; intro ac hA
  refine st hA (by kernel_rfl) (by kernel_rfl) (by kernel_rfl) (Runs.call (fun _ => by kernel_rfl) (e_rising_n w5) ?_)
  rintro _ w6 ⟨g7, Ao8, co9, rfl, hw6_hp, hcco9, hu_⟩; refine ⟨_, rfl, ?_⟩; replace hW := hW.made hu_; clear hA ac; intro ac hA
  refine st hA (by kernel_rfl) (by kernel_rfl) (by kernel_rfl) (Runs.cells (fun b => Value.pointer (some ⟨b, 0, none⟩)) #[Value.slice none 0 0] 35 (fun _ => by kernel_rfl) hW ?_); clear hA ac hW; intro b11 w12 hW hb11 hfw12 ac hA
  refine st hA (by kernel_rfl) (by kernel_rfl) (by kernel_rfl) (Runs.store (v := Value.slice Ao8 (g7).length co9) (b := b11) (j := 0) (n := 1) (cs' := #[Value.slice Ao8 (g7).length co9]) (H' := [Cel b11 #[Value.slice Ao8 (g7).length co9] 35, rowR 3 1 enI (Value.slice Ao8 (g7).length co9) g7, Cel b3 #[Value.map none] 69]) (by kernel_rfl) (by kernel_rfl) (by kernel_rfl) (by kernel_rfl) (by kernel_rfl) hW 0 (by rfl) (Nat.le_of_ble_eq_true (by kernel_rfl)) (by kernel_rfl) (by rfl) ?_); clear hA ac hW; intro w13 hW ac hA
  refine wpList_nil ?_
  refine thenN ?_
  refine wp_seq ?_
  refine wp_region_lit ?_
  refine st_rd (v := Value.func (.func 31) #[] #[Value.pointer (some ⟨b11, 0, none⟩), Value.pointer (some ⟨b3, 0, none⟩)]) hA (by kernel_rfl) (by kernel_rfl) (by kernel_rfl) hW.cls (Rd.pure fun _ => by kernel_rfl) ?_; clear hA ac; intro ac hA
  refine st_rd (v := Value.func (.func 31) #[] #[Value.pointer (some ⟨b11, 0, none⟩), Value.pointer (some ⟨b3, 0, none⟩)]) hA (by kernel_rfl) (by kernel_rfl) (by kernel_rfl) hW.cls (Rd.pure fun _ => by kernel_rfl) ?_; clear hA ac; intro ac hA
  refine wpList_nil ?_
  refine thenN ?_
  refine wp_ret ?_
  refine ret1 (v := Value.func (.func 31) #[] #[Value.pointer (some ⟨b11, 0, none⟩), Value.pointer (some ⟨b3, 0, none⟩)]) (by rfl) hA (Got.tmp hA (by kernel_rfl) (by kernel_rfl)) ?_
  clear hA
  have hkl_ : g7.length ≤ 100000 := by rw [hw6_hp]; simp
  exact ⟨_, _, rfl, iter_weak (iter_many (it_eachN b11 b3 _ _ g7 (own_cap (hW.get 1 rfl)) (by omega))) ⟨[], List.Perm.refl _, List.Pairwise.nil, by rw [hw6_hp]; rfl⟩, from_many (froms_cons (hW.outOwn 0 rfl (fun _ h => h)) (froms_cons (hW.outRow 1 rfl elt_I.len (fun _ h => h)) (froms_cons (hW.outOwn 2 rfl (fun _ h => h)) froms_nil))), hW.fr⟩

set_option maxRecDepth 100000 in
theorem e_none_z (p : Nat) (w : World) (ho_p : w.heap[p]? = some (.cells #[Value.map none] 62 (0, 0))) : Calls Try.prog 23 #[Value.pointer (some ⟨p, 0, none⟩)] w (fun e w' => e = .returned (Value.bool true) ∧ w = w') := by
  have _hu := ho_p; clear _hu
  refine enter_E 12 Try.func23 rfl rfl (by kernel_rfl) (L := [(0, Value.pointer (some ⟨p, 0, none⟩))]) (by kernel_rfl) ?_
  intro ac hA
  have hW := Ws.start w No
  have hW := hW.celG ho_p
  refine wp_seq ?_
  refine wp_region_lit ?_
  refine st_rd (v := Value.bool false) hA (by kernel_rfl) (by kernel_rfl) (by kernel_rfl) hW.cls (Rd.pure fun _ => by kernel_rfl) ?_; clear hA ac; intro ac hA
  refine wpList_nil ?_
  refine thenN ?_
  refine wp_seq ?_
  refine wp_region_lit ?_
  refine st_rd (v := Value.pointer (some ⟨p, 0, none⟩)) hA (by kernel_rfl) (by kernel_rfl) (by kernel_rfl) hW.cls (Rd.pure fun _ => by kernel_rfl) ?_; clear hA ac; intro ac hA
  refine st_rd (v := Value.bool false) hA (by kernel_rfl) (by kernel_rfl) (by kernel_rfl) hW.cls (Rd.pure fun _ => by kernel_rfl) ?_; clear hA ac; intro ac hA
  refine st_rd (v := Value.bool false) hA (by kernel_rfl) (by kernel_rfl) (by kernel_rfl) hW.cls (Rd.pure fun _ => by kernel_rfl) ?_; clear hA ac; intro ac hA
  refine st_rd (v := Value.pointer (some ⟨p, 0, none⟩)) hA (by kernel_rfl) (by kernel_rfl) (by kernel_rfl) hW.cls (Rd.pure fun _ => by kernel_rfl) ?_; clear hA ac; intro ac hA
  refine st_rd (v := Value.pointer (some ⟨p, 0, none⟩)) hA (by kernel_rfl) (by kernel_rfl) (by kernel_rfl) hW.cls (Rd.pure fun _ => by kernel_rfl) ?_; clear hA ac; intro ac hA
  refine st_rd (v := Value.pointer (some ⟨p, 0, none⟩)) hA (by kernel_rfl) (by kernel_rfl) (by kernel_rfl) hW.cls (Rd.pure fun _ => by kernel_rfl) ?_; clear hA ac; intro ac hA
  refine st_rd (v := Value.map none) hA (by kernel_rfl) (by kernel_rfl) (by kernel_rfl) hW.cls (Rd.load (b := p) (i := 0) (by kernel_rfl) (fun _ hw => show _ = _ from (hw.1).getG 0 rfl) (by kernel_rfl)) ?_; clear hA ac; intro ac hA
  refine st_rd (v := Value.bool true) hA (by kernel_rfl) (by kernel_rfl) (by kernel_rfl) hW.cls (Rd.pure fun _ => by kernel_rfl) ?_; clear hA ac; intro ac hA
  refine st_rd (v := Value.bool true) hA (by kernel_rfl) (by kernel_rfl) (by kernel_rfl) hW.cls (Rd.pure fun _ => by kernel_rfl) ?_; clear hA ac; intro ac hA
  refine st_rd (v := Value.bool true) hA (by kernel_rfl) (by kernel_rfl) (by kernel_rfl) hW.cls (Rd.pure fun _ => by kernel_rfl) ?_; clear hA ac; intro ac hA
  refine wpList_nil ?_
  refine thenN ?_
  refine wp_ret ?_
  refine ret1 (v := Value.bool true) (by rfl) hA (Got.tmp hA (by kernel_rfl) (by kernel_rfl)) ?_
  clear hA
  exact ⟨retv (by rfl), rfl⟩

set_option maxRecDepth 100000 in
theorem e_make_z (p : Nat) (w : World) (ho_p : w.heap[p]? = some (.cells #[Value.map none] 62 (0, 0))) : Calls Try.prog 10 #[Value.pointer (some ⟨p, 0, none⟩)] w (fun e w' => e = .returned (Value.tuple #[Value.int .i64 0, Value.int .i64 1]) ∧ Fr No w w') := by
  have _hu := ho_p; clear _hu
  refine enter_E 28 Try.func10 rfl rfl (by kernel_rfl) (L := [(0, Value.pointer (some ⟨p, 0, none⟩))]) (by kernel_rfl) ?_
  intro ac hA
  have hW := Ws.start w No
  have hW := hW.celG ho_p
  refine wp_seq ?_
  refine wp_region_lit ?_
  refine st_rd (v := Value.int .i64 0) hA (by kernel_rfl) (by kernel_rfl) (by kernel_rfl) hW.cls (Rd.pure fun _ => by kernel_rfl) ?_; clear hA ac; intro ac hA
  refine st_rd (v := Value.int .i64 0) hA (by kernel_rfl) (by kernel_rfl) (by kernel_rfl) hW.cls (Rd.pure fun _ => by kernel_rfl) ?_; clear hA ac; intro ac hA
  refine wpList_nil ?_
  refine thenN ?_
  refine wp_fwd (l := 0) rfl ?_
  refine wp_seq ?_
  refine wp_seq ?_
  refine wp_region_lit ?_
  refine st_rd (v := Value.int .i64 1) hA (by kernel_rfl) (by kernel_rfl) (by kernel_rfl) hW.cls (Rd.pure fun _ => by kernel_rfl) ?_; clear hA ac; intro ac hA
  refine wpList_nil ?_
  refine thenN ?_
  refine wp_seq ?_
  refine wp_region_lit ?_
  refine st_rd (v := Value.pointer (some ⟨p, 0, none⟩)) hA (by kernel_rfl) (by kernel_rfl) (by kernel_rfl) hW.cls (Rd.pure fun _ => by kernel_rfl) ?_; clear hA ac; intro ac hA
  refine st hA (by kernel_rfl) (by kernel_rfl) (by kernel_rfl) (Runs.callS (v := Value.bool true) (fun _ => by kernel_rfl) (e_none_z p w (show _ = _ from (hW).getG 0 rfl)) ?_); clear hA ac; intro  ac hA
  refine wpList_nil ?_
  refine thenN ?_
  refine wp_cond_true (hA.eval (by kernel_rfl)) ?_
  refine wp_goto ?_
  refine thenG ?_
  refine fwdG ?_
  refine wp_seq ?_
  refine wp_skip ?_
  refine thenN ?_
  refine wp_seq ?_
  refine wp_region_lit ?_
  refine st_rd (v := Value.int .i64 1) hA (by kernel_rfl) (by kernel_rfl) (by kernel_rfl) hW.cls (Rd.pure fun _ => by kernel_rfl) ?_; clear hA ac; intro ac hA
  refine st_rd (v := Value.int .i64 0) hA (by kernel_rfl) (by kernel_rfl) (by kernel_rfl) hW.cls (Rd.pure fun _ => by kernel_rfl) ?_; clear hA ac; intro ac hA
  refine st_rd (v := Value.int .i64 1) hA (by kernel_rfl) (by kernel_rfl) (by kernel_rfl) hW.cls (Rd.pure fun _ => by kernel_rfl) ?_; clear hA ac; intro ac hA
  refine wpList_nil ?_
  refine thenN ?_
  refine wp_ret ?_
  refine nogR ?_
  refine ret2 (v1 := Value.int .i64 0) (v2 := Value.int .i64 1) (by rfl) hA (Got.tmp hA (by kernel_rfl) (by kernel_rfl)) (Got.tmp hA (by kernel_rfl) (by kernel_rfl)) ?_
  clear hA
  exact ⟨retv (by rfl), hW.fr⟩

set_option maxRecDepth 100000 in
theorem e_of_z (p : Nat) (h : Int) (w : World) (ho_p : w.heap[p]? = some (.cells #[Value.map none] 62 (0, 0))) : Calls Try.prog 29 #[Value.pointer (some ⟨p, 0, none⟩), Value.int .i64 h] w (fun e w' => e = .returned (Value.map none) ∧ Fr No w w') := by
  have _hu := ho_p; clear _hu
  refine enter_E 13 Try.func29 rfl rfl (by kernel_rfl) (L := [(0, Value.pointer (some ⟨p, 0, none⟩)), (1, Value.int .i64 h)]) (by kernel_rfl) ?_
  intro ac hA
  have hW := Ws.start w No
  have hW := hW.celG ho_p
  refine wp_seq ?_
  refine wp_region_lit ?_
  refine st_rd (v := Value.map none) hA (by kernel_rfl) (by kernel_rfl) (by kernel_rfl) hW.cls (Rd.pure fun _ => by kernel_rfl) ?_; clear hA ac; intro ac hA
  refine wpList_nil ?_
  refine thenN ?_
  refine wp_seq ?_
  refine wp_seq ?_
  refine wp_region_lit ?_
  refine st_rd (v := Value.pointer (some ⟨p, 0, none⟩)) hA (by kernel_rfl) (by kernel_rfl) (by kernel_rfl) hW.cls (Rd.pure fun _ => by kernel_rfl) ?_; clear hA ac; intro ac hA
  refine st hA (by kernel_rfl) (by kernel_rfl) (by kernel_rfl) (Runs.callS (v := Value.bool true) (fun _ => by kernel_rfl) (e_none_z p w (show _ = _ from (hW).getG 0 rfl)) ?_); clear hA ac; intro  ac hA
  refine wpList_nil ?_
  refine thenN ?_
  refine wp_cond_true (hA.eval (by kernel_rfl)) ?_
  refine wp_seq ?_
  refine wp_region_lit ?_
  refine st_rd (v := Value.map none) hA (by kernel_rfl) (by kernel_rfl) (by kernel_rfl) hW.cls (Rd.pure fun _ => by kernel_rfl) ?_; clear hA ac; intro ac hA
  refine wpList_nil ?_
  refine thenN ?_
  refine wp_ret ?_
  refine thenR ?_
  refine ret1 (v := Value.map none) (by rfl) hA (Got.tmp hA (by kernel_rfl) (by kernel_rfl)) ?_
  clear hA
  exact ⟨retv (by rfl), hW.fr⟩

set_option maxRecDepth 100000 in
theorem e_get_z (p : Nat) (h : Int) (id : Int) (w : World) (ho_p : w.heap[p]? = some (.cells #[Value.map none] 62 (0, 0))) : Calls Try.prog 21 #[Value.pointer (some ⟨p, 0, none⟩), Value.int .i64 h, Value.int .i64 id] w (fun e w' => e = .returned (Value.tuple #[(⟨0, ⟨0, 0⟩⟩ : Mark).v, Value.bool false]) ∧ Fr No w w') := by
  have _hu := ho_p; clear _hu
  refine enter_E 20 Try.func21 rfl rfl (by kernel_rfl) (L := [(0, Value.pointer (some ⟨p, 0, none⟩)), (1, Value.int .i64 h), (2, Value.int .i64 id)]) (by kernel_rfl) ?_
  intro ac hA
  have hW := Ws.start w No
  have hW := hW.celG ho_p
  refine wp_seq ?_
  refine wp_region_lit ?_
  refine st hA (by kernel_rfl) (by kernel_rfl) (by kernel_rfl) (Runs.cells (fun b => Value.pointer (some ⟨b, 0, none⟩)) #[Value.int .u64 0, Value.int .i64 0, Value.int .i64 0] 32 (fun _ => by kernel_rfl) hW ?_); clear hA ac hW; intro b1 w2 hW hb1 hfw2 ac hA
  refine st_rd (v := Value.bool false) hA (by kernel_rfl) (by kernel_rfl) (by kernel_rfl) hW.cls (Rd.pure fun _ => by kernel_rfl) ?_; clear hA ac; intro ac hA
  refine wpList_nil ?_
  refine thenN ?_
  refine wp_seq ?_
  refine wp_region_lit ?_
  refine st_rd (v := Value.pointer (some ⟨p, 0, none⟩)) hA (by kernel_rfl) (by kernel_rfl) (by kernel_rfl) hW.cls (Rd.pure fun _ => by kernel_rfl) ?_; clear hA ac; intro ac hA
  refine st_rd (v := Value.int .i64 h) hA (by kernel_rfl) (by kernel_rfl) (by kernel_rfl) hW.cls (Rd.pure fun _ => by kernel_rfl) ?_; clear hA ac; intro ac hA
  refine st hA (by kernel_rfl) (by kernel_rfl) (by kernel_rfl) (Runs.callN (v := Value.map none) (fun _ => by kernel_rfl) hW (e_of_z p (h) w2 (show _ = _ from (hW).getG 0 rfl)) ?_); clear hA ac hW; intro w3 hW hfw3 ac hA
  refine st_rd (v := Value.int .i64 id) hA (by kernel_rfl) (by kernel_rfl) (by kernel_rfl) hW.cls (Rd.pure fun _ => by kernel_rfl) ?_; clear hA ac; intro ac hA
  refine st_rd (v := Value.tuple #[(⟨0, ⟨0, 0⟩⟩ : Mark).v, Value.bool false]) hA (by kernel_rfl) (by kernel_rfl) (by kernel_rfl) hW.cls (Rd.lookupNil (k := 3) (e := 32) (ek := (fun a : Int => Value.int .i64 a)) (z := (⟨0, ⟨0, 0⟩⟩ : Mark).v) (id : Int) true (by kernel_rfl) (by kernel_rfl) (KeyE.int (by kernel_rfl)) (by kernel_rfl) (fun _ => by kernel_rfl)) ?_; clear hA ac; intro ac hA
  refine st_rd (v := Value.tuple #[(⟨0, ⟨0, 0⟩⟩ : Mark).v, Value.bool false]) hA (by kernel_rfl) (by kernel_rfl) (by kernel_rfl) hW.cls (Rd.pure fun _ => by kernel_rfl) ?_; clear hA ac; intro ac hA
  refine st_rd (v := (⟨0, ⟨0, 0⟩⟩ : Mark).v) hA (by kernel_rfl) (by kernel_rfl) (by kernel_rfl) hW.cls (Rd.pure fun _ => by kernel_rfl) ?_; clear hA ac; intro ac hA
  refine st_rd (v := Value.bool false) hA (by kernel_rfl) (by kernel_rfl) (by kernel_rfl) hW.cls (Rd.pure fun _ => by kernel_rfl) ?_; clear hA ac; intro ac hA
  refine st hA (by kernel_rfl) (by kernel_rfl) (by kernel_rfl) (Runs.cells (fun b => Value.pointer (some ⟨b, 0, none⟩)) #[Value.int .u64 0, Value.int .i64 0, Value.int .i64 0] 32 (fun _ => by kernel_rfl) hW ?_); clear hA ac hW; intro b4 w5 hW hb4 hfw5 ac hA
  refine st hA (by kernel_rfl) (by kernel_rfl) (by kernel_rfl) (Runs.store (v := (⟨0, ⟨0, 0⟩⟩ : Mark).v) (b := b4) (j := 0) (n := 3) (cs' := #[Value.int .u64 (⟨0, ⟨0, 0⟩⟩ : Mark).clock, Value.int .i64 (⟨0, ⟨0, 0⟩⟩ : Mark).site.f, Value.int .i64 (⟨0, ⟨0, 0⟩⟩ : Mark).site.pc]) (H' := [Cel b4 #[Value.int .u64 (⟨0, ⟨0, 0⟩⟩ : Mark).clock, Value.int .i64 (⟨0, ⟨0, 0⟩⟩ : Mark).site.f, Value.int .i64 (⟨0, ⟨0, 0⟩⟩ : Mark).site.pc] 32, Cel b1 #[Value.int .u64 0, Value.int .i64 0, Value.int .i64 0] 32]) (by kernel_rfl) (by kernel_rfl) (by kernel_rfl) (by kernel_rfl) (by kernel_rfl) hW 0 (by rfl) (Nat.le_of_ble_eq_true (by kernel_rfl)) (by kernel_rfl) (by rfl) ?_); clear hA ac hW; intro w6 hW ac hA
  refine st_rd (v := Value.bool false) hA (by kernel_rfl) (by kernel_rfl) (by kernel_rfl) hW.cls (Rd.pure fun _ => by kernel_rfl) ?_; clear hA ac; intro ac hA
  refine wpList_nil ?_
  refine thenN ?_
  refine wp_seq ?_
  refine wp_region_lit ?_
  refine st_rd (v := Value.agg #[Value.int .u64 (⟨0, ⟨0, 0⟩⟩ : Mark).clock, Value.int .i64 (⟨0, ⟨0, 0⟩⟩ : Mark).site.f, Value.int .i64 (⟨0, ⟨0, 0⟩⟩ : Mark).site.pc]) hA (by kernel_rfl) (by kernel_rfl) (by kernel_rfl) hW.cls (Rd.load (b := b4) (i := 0) (by kernel_rfl) (fun _ hw => (hw.1).cel 0 rfl) (by kernel_rfl)) ?_; clear hA ac; intro ac hA
  refine st_rd (v := Value.bool false) hA (by kernel_rfl) (by kernel_rfl) (by kernel_rfl) hW.cls (Rd.pure fun _ => by kernel_rfl) ?_; clear hA ac; intro ac hA
  refine st hA (by kernel_rfl) (by kernel_rfl) (by kernel_rfl) (Runs.store (v := Value.agg #[Value.int .u64 (⟨0, ⟨0, 0⟩⟩ : Mark).clock, Value.int .i64 (⟨0, ⟨0, 0⟩⟩ : Mark).site.f, Value.int .i64 (⟨0, ⟨0, 0⟩⟩ : Mark).site.pc]) (b := b1) (j := 0) (n := 3) (cs' := #[Value.int .u64 (⟨0, ⟨0, 0⟩⟩ : Mark).clock, Value.int .i64 (⟨0, ⟨0, 0⟩⟩ : Mark).site.f, Value.int .i64 (⟨0, ⟨0, 0⟩⟩ : Mark).site.pc]) (H' := [Cel b4 #[Value.int .u64 (⟨0, ⟨0, 0⟩⟩ : Mark).clock, Value.int .i64 (⟨0, ⟨0, 0⟩⟩ : Mark).site.f, Value.int .i64 (⟨0, ⟨0, 0⟩⟩ : Mark).site.pc] 32, Cel b1 #[Value.int .u64 (⟨0, ⟨0, 0⟩⟩ : Mark).clock, Value.int .i64 (⟨0, ⟨0, 0⟩⟩ : Mark).site.f, Value.int .i64 (⟨0, ⟨0, 0⟩⟩ : Mark).site.pc] 32]) (by kernel_rfl) (by kernel_rfl) (by kernel_rfl) (by kernel_rfl) (by kernel_rfl) hW 1 (by rfl) (Nat.le_of_ble_eq_true (by kernel_rfl)) (by kernel_rfl) (by rfl) ?_); clear hA ac hW; intro w7 hW ac hA
  refine st_rd (v := Value.bool false) hA (by kernel_rfl) (by kernel_rfl) (by kernel_rfl) hW.cls (Rd.pure fun _ => by kernel_rfl) ?_; clear hA ac; intro ac hA
  refine wpList_nil ?_
  refine thenN ?_
  refine wp_ret ?_
  refine ret2 (v1 := Value.agg #[Value.int .u64 (⟨0, ⟨0, 0⟩⟩ : Mark).clock, Value.int .i64 (⟨0, ⟨0, 0⟩⟩ : Mark).site.f, Value.int .i64 (⟨0, ⟨0, 0⟩⟩ : Mark).site.pc]) (v2 := Value.bool false) (by rfl) hA (Got.cell (b := b1) (i := 0) hA (by kernel_rfl) (by kernel_rfl) (hW.cel 1 rfl) (by kernel_rfl)) (Got.tmp hA (by kernel_rfl) (by kernel_rfl)) ?_
  clear hA
  exact ⟨retv (by rfl), hW.fr⟩

set_option maxRecDepth 100000 in
theorem e_free_z (p : Nat) (h : Int) (w : World) (ho_p : w.heap[p]? = some (.cells #[Value.map none] 62 (0, 0))) : Calls Try.prog 12 #[Value.pointer (some ⟨p, 0, none⟩), Value.int .i64 h] w (fun e w' => e = .returned (Value.int .i64 1) ∧ Fr No w w') := by
  have _hu := ho_p; clear _hu
  refine enter_E 20 Try.func12 rfl rfl (by kernel_rfl) (L := [(0, Value.pointer (some ⟨p, 0, none⟩)), (1, Value.int .i64 h)]) (by kernel_rfl) ?_
  intro ac hA
  have hW := Ws.start w No
  have hW := hW.celG ho_p
  refine wp_seq ?_
  refine wp_region_lit ?_
  refine st_rd (v := Value.int .i64 0) hA (by kernel_rfl) (by kernel_rfl) (by kernel_rfl) hW.cls (Rd.pure fun _ => by kernel_rfl) ?_; clear hA ac; intro ac hA
  refine wpList_nil ?_
  refine thenN ?_
  refine wp_fwd (l := 0) rfl ?_
  refine wp_seq ?_
  refine wp_seq ?_
  refine wp_region_lit ?_
  refine st_rd (v := Value.int .i64 1) hA (by kernel_rfl) (by kernel_rfl) (by kernel_rfl) hW.cls (Rd.pure fun _ => by kernel_rfl) ?_; clear hA ac; intro ac hA
  refine wpList_nil ?_
  refine thenN ?_
  refine wp_seq ?_
  refine wp_region_lit ?_
  refine st_rd (v := Value.pointer (some ⟨p, 0, none⟩)) hA (by kernel_rfl) (by kernel_rfl) (by kernel_rfl) hW.cls (Rd.pure fun _ => by kernel_rfl) ?_; clear hA ac; intro ac hA
  refine st hA (by kernel_rfl) (by kernel_rfl) (by kernel_rfl) (Runs.callS (v := Value.bool true) (fun _ => by kernel_rfl) (e_none_z p w (show _ = _ from (hW).getG 0 rfl)) ?_); clear hA ac; intro  ac hA
  refine wpList_nil ?_
  refine thenN ?_
  refine wp_cond_true (hA.eval (by kernel_rfl)) ?_
  refine wp_goto ?_
  refine thenG ?_
  refine fwdG ?_
  refine wp_seq ?_
  refine wp_skip ?_
  refine thenN ?_
  refine wp_seq ?_
  refine wp_region_lit ?_
  refine st_rd (v := Value.int .i64 1) hA (by kernel_rfl) (by kernel_rfl) (by kernel_rfl) hW.cls (Rd.pure fun _ => by kernel_rfl) ?_; clear hA ac; intro ac hA
  refine st_rd (v := Value.int .i64 1) hA (by kernel_rfl) (by kernel_rfl) (by kernel_rfl) hW.cls (Rd.pure fun _ => by kernel_rfl) ?_; clear hA ac; intro ac hA
  refine wpList_nil ?_
  refine thenN ?_
  refine wp_ret ?_
  refine nogR ?_
  refine ret1 (v := Value.int .i64 1) (by rfl) hA (Got.tmp hA (by kernel_rfl) (by kernel_rfl)) ?_
  clear hA
  exact ⟨retv (by rfl), hW.fr⟩

set_option maxRecDepth 100000 in
theorem e_copy_z (p : Nat) (w : World) (ho_p : w.heap[p]? = some (.cells #[Value.map none] 62 (0, 0))) : Calls Try.prog 18 #[Value.pointer (some ⟨p, 0, none⟩)] w (fun e w' => e = .returned (Value.pointer none) ∧ Fr No w w') := by
  have _hu := ho_p; clear _hu
  refine enter_E 27 Try.func18 rfl rfl (by kernel_rfl) (L := [(0, Value.pointer (some ⟨p, 0, none⟩))]) (by kernel_rfl) ?_
  intro ac hA
  have hW := Ws.start w No
  have hW := hW.celG ho_p
  refine wp_seq ?_
  refine wp_region_lit ?_
  refine st_rd (v := Value.pointer none) hA (by kernel_rfl) (by kernel_rfl) (by kernel_rfl) hW.cls (Rd.pure fun _ => by kernel_rfl) ?_; clear hA ac; intro ac hA
  refine wpList_nil ?_
  refine thenN ?_
  refine wp_seq ?_
  refine wp_seq ?_
  refine wp_region_lit ?_
  refine st_rd (v := Value.pointer (some ⟨p, 0, none⟩)) hA (by kernel_rfl) (by kernel_rfl) (by kernel_rfl) hW.cls (Rd.pure fun _ => by kernel_rfl) ?_; clear hA ac; intro ac hA
  refine st hA (by kernel_rfl) (by kernel_rfl) (by kernel_rfl) (Runs.callS (v := Value.bool true) (fun _ => by kernel_rfl) (e_none_z p w (show _ = _ from (hW).getG 0 rfl)) ?_); clear hA ac; intro  ac hA
  refine wpList_nil ?_
  refine thenN ?_
  refine wp_cond_true (hA.eval (by kernel_rfl)) ?_
  refine wp_seq ?_
  refine wp_region_lit ?_
  refine st_rd (v := Value.pointer none) hA (by kernel_rfl) (by kernel_rfl) (by kernel_rfl) hW.cls (Rd.pure fun _ => by kernel_rfl) ?_; clear hA ac; intro ac hA
  refine wpList_nil ?_
  refine thenN ?_
  refine wp_ret ?_
  refine thenR ?_
  refine ret1 (v := Value.pointer none) (by rfl) hA (Got.tmp hA (by kernel_rfl) (by kernel_rfl)) ?_
  clear hA
  exact ⟨retv (by rfl), hW.fr⟩

set_option maxRecDepth 100000 in
theorem e_live_z (p : Nat) (w : World) (ho_p : w.heap[p]? = some (.cells #[Value.map none] 62 (0, 0))) : Calls Try.prog 9 #[Value.pointer (some ⟨p, 0, none⟩)] w (fun e w' => e = .returned (Value.slice none 0 0) ∧ Fr No w w') := by
  have _hu := ho_p; clear _hu
  refine enter_E 18 Try.func9 rfl rfl (by kernel_rfl) (L := [(0, Value.pointer (some ⟨p, 0, none⟩))]) (by kernel_rfl) ?_
  intro ac hA
  have hW := Ws.start w No
  have hW := hW.celG ho_p
  refine wp_seq ?_
  refine wp_region_lit ?_
  refine st_rd (v := Value.slice none 0 0) hA (by kernel_rfl) (by kernel_rfl) (by kernel_rfl) hW.cls (Rd.pure fun _ => by kernel_rfl) ?_; clear hA ac; intro ac hA
  refine wpList_nil ?_
  refine thenN ?_
  refine wp_seq ?_
  refine wp_seq ?_
  refine wp_region_lit ?_
  refine st_rd (v := Value.pointer (some ⟨p, 0, none⟩)) hA (by kernel_rfl) (by kernel_rfl) (by kernel_rfl) hW.cls (Rd.pure fun _ => by kernel_rfl) ?_; clear hA ac; intro ac hA
  refine st hA (by kernel_rfl) (by kernel_rfl) (by kernel_rfl) (Runs.callS (v := Value.bool true) (fun _ => by kernel_rfl) (e_none_z p w (show _ = _ from (hW).getG 0 rfl)) ?_); clear hA ac; intro  ac hA
  refine st_rd (v := Value.bool true) hA (by kernel_rfl) (by kernel_rfl) (by kernel_rfl) hW.cls (Rd.pure fun _ => by kernel_rfl) ?_; clear hA ac; intro ac hA
  refine st_skip hA (by kernel_rfl) (by kernel_rfl) ?_; clear hA ac; intro ac hA
  refine st_skip hA (by kernel_rfl) (by kernel_rfl) ?_; clear hA ac; intro ac hA
  refine st_skip hA (by kernel_rfl) (by kernel_rfl) ?_; clear hA ac; intro ac hA
  refine st_skip hA (by kernel_rfl) (by kernel_rfl) ?_; clear hA ac; intro ac hA
  refine st_skip hA (by kernel_rfl) (by kernel_rfl) ?_; clear hA ac; intro ac hA
  refine st_skip hA (by kernel_rfl) (by kernel_rfl) ?_; clear hA ac; intro ac hA
  refine st_rd (v := Value.bool true) hA (by kernel_rfl) (by kernel_rfl) (by kernel_rfl) hW.cls (Rd.pure fun _ => by kernel_rfl) ?_; clear hA ac; intro ac hA
  refine wpList_nil ?_
  refine thenN ?_
  refine wp_cond_true (hA.eval (by kernel_rfl)) ?_
  refine wp_seq ?_
  refine wp_region_lit ?_
  refine st_rd (v := Value.slice none 0 0) hA (by kernel_rfl) (by kernel_rfl) (by kernel_rfl) hW.cls (Rd.pure fun _ => by kernel_rfl) ?_; clear hA ac; intro ac hA
  refine wpList_nil ?_
  refine thenN ?_
  refine wp_ret ?_
  refine thenR ?_
  refine ret1 (v := Value.slice none 0 0) (by rfl) hA (Got.tmp hA (by kernel_rfl) (by kernel_rfl)) ?_
  clear hA
  exact ⟨retv (by rfl), hW.fr⟩

set_option maxRecDepth 100000 in
theorem e_same_z (p : Nat) (w : World) (ho_p : w.heap[p]? = some (.cells #[Value.map none] 62 (0, 0))) : Calls Try.prog 20 #[Value.pointer (some ⟨p, 0, none⟩), Value.pointer none] w (fun e w' => e = .returned (Value.bool true) ∧ Fr No w w') := by
  have _hu := ho_p; clear _hu
  refine enter_E 26 Try.func20 rfl rfl (by kernel_rfl) (L := [(0, Value.pointer (some ⟨p, 0, none⟩)), (1, Value.pointer none)]) (by kernel_rfl) ?_
  intro ac hA
  have hW := Ws.start w No
  have hW := hW.celG ho_p
  refine wp_seq ?_
  refine wp_region_lit ?_
  refine st_rd (v := Value.bool false) hA (by kernel_rfl) (by kernel_rfl) (by kernel_rfl) hW.cls (Rd.pure fun _ => by kernel_rfl) ?_; clear hA ac; intro ac hA
  refine wpList_nil ?_
  refine thenN ?_
  refine wp_seq ?_
  refine wp_seq ?_
  refine wp_region_lit ?_
  refine st_rd (v := Value.pointer (some ⟨p, 0, none⟩)) hA (by kernel_rfl) (by kernel_rfl) (by kernel_rfl) hW.cls (Rd.pure fun _ => by kernel_rfl) ?_; clear hA ac; intro ac hA
  refine st hA (by kernel_rfl) (by kernel_rfl) (by kernel_rfl) (Runs.callS (v := Value.bool true) (fun _ => by kernel_rfl) (e_none_z p w (show _ = _ from (hW).getG 0 rfl)) ?_); clear hA ac; intro  ac hA
  refine st_rd (v := Value.bool true) hA (by kernel_rfl) (by kernel_rfl) (by kernel_rfl) hW.cls (Rd.pure fun _ => by kernel_rfl) ?_; clear hA ac; intro ac hA
  refine st_skip hA (by kernel_rfl) (by kernel_rfl) ?_; clear hA ac; intro ac hA
  refine st_skip hA (by kernel_rfl) (by kernel_rfl) ?_; clear hA ac; intro ac hA
  refine st_rd (v := Value.bool true) hA (by kernel_rfl) (by kernel_rfl) (by kernel_rfl) hW.cls (Rd.pure fun _ => by kernel_rfl) ?_; clear hA ac; intro ac hA
  refine wpList_nil ?_
  refine thenN ?_
  refine wp_cond_true (hA.eval (by kernel_rfl)) ?_
  refine wp_seq ?_
  refine wp_region_lit ?_
  refine st_rd (v := Value.pointer (some ⟨p, 0, none⟩)) hA (by kernel_rfl) (by kernel_rfl) (by kernel_rfl) hW.cls (Rd.pure fun _ => by kernel_rfl) ?_; clear hA ac; intro ac hA
  refine st hA (by kernel_rfl) (by kernel_rfl) (by kernel_rfl) (Runs.callS (v := Value.bool true) (fun _ => by kernel_rfl) (e_none_z p w (show _ = _ from (hW).getG 0 rfl)) ?_); clear hA ac; intro  ac hA
  refine st_rd (v := Value.bool true) hA (by kernel_rfl) (by kernel_rfl) (by kernel_rfl) hW.cls (Rd.pure fun _ => by kernel_rfl) ?_; clear hA ac; intro ac hA
  refine st_rd (v := Value.pointer none) hA (by kernel_rfl) (by kernel_rfl) (by kernel_rfl) hW.cls (Rd.pure fun _ => by kernel_rfl) ?_; clear hA ac; intro ac hA
  refine st hA (by kernel_rfl) (by kernel_rfl) (by kernel_rfl) (Runs.callS (v := Value.bool true) (fun _ => by kernel_rfl) (e_none_nil w) ?_); clear hA ac; intro  ac hA
  refine st_rd (v := Value.bool true) hA (by kernel_rfl) (by kernel_rfl) (by kernel_rfl) hW.cls (Rd.pure fun _ => by kernel_rfl) ?_; clear hA ac; intro ac hA
  refine st_rd (v := Value.bool true) hA (by kernel_rfl) (by kernel_rfl) (by kernel_rfl) hW.cls (Rd.pure fun _ => by kernel_rfl) ?_; clear hA ac; intro ac hA
  refine wpList_nil ?_
  refine thenN ?_
  refine wp_ret ?_
  refine thenR ?_
  refine ret1 (v := Value.bool true) (by rfl) hA (Got.tmp hA (by kernel_rfl) (by kernel_rfl)) ?_
  clear hA
  exact ⟨retv (by rfl), hW.fr⟩

set_option maxRecDepth 100000 in
theorem e_same_oz (p : Nat) (b : Nat) (V : List (Int × Nat × List (Int × Mark))) (q : Nat) (w : World) (ho_p : (PoolR p b V).p w) (hl_p : ∀ x_ ∈ (PoolR p b V).fp, x_ < w.heap.size) (ho_q : w.heap[q]? = some (.cells #[Value.map none] 62 (0, 0))) : Calls Try.prog 20 #[Value.pointer (some ⟨p, 0, none⟩), Value.pointer (some ⟨q, 0, none⟩)] w (fun e w' => e = .returned (Value.bool false) ∧ Fr No w w') := by
  have _hu := ho_q; clear _hu
  have _hu := ho_p; have _hv := hl_p; clear _hu _hv
  refine enter_E 26 Try.func20 rfl rfl (by kernel_rfl) (L := [(0, Value.pointer (some ⟨p, 0, none⟩)), (1, Value.pointer (some ⟨q, 0, none⟩))]) (by kernel_rfl) ?_
  intro ac hA
  have hW := Ws.start w No
  have hW := hW.celG ho_q
  have hW := hW.objG (L := [Cel p #[Value.map (some b)] 62, mapR b (fun a : Int => Value.int .i64 a) (fun x_ : Nat => Value.map (some x_)) (outs V), SubR (fun (c_ : List (Int × Mark)) (b_ : Nat) => mapR b_ (fun a : Int => Value.int .i64 a) Mark.v c_) V]) ho_p hl_p
  clear ho_p hl_p
  refine wp_seq ?_
  refine wp_region_lit ?_
  refine st_rd (v := Value.bool false) hA (by kernel_rfl) (by kernel_rfl) (by kernel_rfl) hW.cls (Rd.pure fun _ => by kernel_rfl) ?_; clear hA ac; intro ac hA
  refine wpList_nil ?_
  refine thenN ?_
  refine wp_seq ?_
  refine wp_seq ?_
  refine wp_region_lit ?_
  refine st_rd (v := Value.pointer (some ⟨p, 0, none⟩)) hA (by kernel_rfl) (by kernel_rfl) (by kernel_rfl) hW.cls (Rd.pure fun _ => by kernel_rfl) ?_; clear hA ac; intro ac hA
  refine st hA (by kernel_rfl) (by kernel_rfl) (by kernel_rfl) (Runs.callS (v := Value.bool false) (fun _ => by kernel_rfl) (e_none p b w (show _ = _ from (hW).getG 0 rfl)) ?_); clear hA ac; intro  ac hA
  refine st_rd (v := Value.bool false) hA (by kernel_rfl) (by kernel_rfl) (by kernel_rfl) hW.cls (Rd.pure fun _ => by kernel_rfl) ?_; clear hA ac; intro ac hA
  refine st_rd (v := Value.pointer (some ⟨q, 0, none⟩)) hA (by kernel_rfl) (by kernel_rfl) (by kernel_rfl) hW.cls (Rd.pure fun _ => by kernel_rfl) ?_; clear hA ac; intro ac hA
  refine st hA (by kernel_rfl) (by kernel_rfl) (by kernel_rfl) (Runs.callS (v := Value.bool true) (fun _ => by kernel_rfl) (e_none_z q w (show _ = _ from (hW).getG 3 rfl)) ?_); clear hA ac; intro  ac hA
  refine st_rd (v := Value.bool true) hA (by kernel_rfl) (by kernel_rfl) (by kernel_rfl) hW.cls (Rd.pure fun _ => by kernel_rfl) ?_; clear hA ac; intro ac hA
  refine wpList_nil ?_
  refine thenN ?_
  refine wp_cond_true (hA.eval (by kernel_rfl)) ?_
  refine wp_seq ?_
  refine wp_region_lit ?_
  refine st_rd (v := Value.pointer (some ⟨p, 0, none⟩)) hA (by kernel_rfl) (by kernel_rfl) (by kernel_rfl) hW.cls (Rd.pure fun _ => by kernel_rfl) ?_; clear hA ac; intro ac hA
  refine st hA (by kernel_rfl) (by kernel_rfl) (by kernel_rfl) (Runs.callS (v := Value.bool false) (fun _ => by kernel_rfl) (e_none p b w (show _ = _ from (hW).getG 0 rfl)) ?_); clear hA ac; intro  ac hA
  refine st_rd (v := Value.bool false) hA (by kernel_rfl) (by kernel_rfl) (by kernel_rfl) hW.cls (Rd.pure fun _ => by kernel_rfl) ?_; clear hA ac; intro ac hA
  refine st_skip hA (by kernel_rfl) (by kernel_rfl) ?_; clear hA ac; intro ac hA
  refine st_skip hA (by kernel_rfl) (by kernel_rfl) ?_; clear hA ac; intro ac hA
  refine st_rd (v := Value.bool false) hA (by kernel_rfl) (by kernel_rfl) (by kernel_rfl) hW.cls (Rd.pure fun _ => by kernel_rfl) ?_; clear hA ac; intro ac hA
  refine st_rd (v := Value.bool false) hA (by kernel_rfl) (by kernel_rfl) (by kernel_rfl) hW.cls (Rd.pure fun _ => by kernel_rfl) ?_; clear hA ac; intro ac hA
  refine wpList_nil ?_
  refine thenN ?_
  refine wp_ret ?_
  refine thenR ?_
  refine ret1 (v := Value.bool false) (by rfl) hA (Got.tmp hA (by kernel_rfl) (by kernel_rfl)) ?_
  clear hA
  exact ⟨retv (by rfl), hW.fr⟩

set_option maxRecDepth 100000 in
theorem e_mark_z (p : Nat) (h : Int) (id : Int) (m : Mark) (w : World) (ho_p : w.heap[p]? = some (.cells #[Value.map none] 62 (0, 0))) (hid : -9223372036854775808 ≤ id ∧ id ≤ 9223372036854775807) (hcl : 0 ≤ m.clock ∧ m.clock ≤ 18446744073709551615) : Calls Try.prog 13 #[Value.pointer (some ⟨p, 0, none⟩), Value.int .i64 h, Value.int .i64 id, m.v] w (fun e w' => e = .returned (Value.int .i64 1) ∧ Fr No w w') := by
  have _hu := ho_p; clear _hu
  have _hu := hid; clear _hu
  have _hu := hcl; clear _hu
  refine enter_E 38 Try.func13 rfl rfl (by kernel_rfl) (L := [(0, Value.pointer (some ⟨p, 0, none⟩)), (1, Value.int .i64 h), (2, Value.int .i64 id), (3, m.v)]) (by kernel_rfl) ?_
  intro ac hA
  have hW := Ws.start w No
  have hW := hW.celG ho_p
  refine wp_seq ?_
  refine wp_region_lit ?_
  refine st hA (by kernel_rfl) (by kernel_rfl) (by kernel_rfl) (Runs.cells (fun b => Value.pointer (some ⟨b, 0, none⟩)) #[Value.int .u64 m.clock, Value.int .i64 m.site.f, Value.int .i64 m.site.pc] 32 (fun _ => by kernel_rfl) hW ?_); clear hA ac hW; intro b1 w2 hW hb1 hfw2 ac hA
  refine st_rd (v := Value.int .i64 0) hA (by kernel_rfl) (by kernel_rfl) (by kernel_rfl) hW.cls (Rd.pure fun _ => by kernel_rfl) ?_; clear hA ac; intro ac hA
  refine wpList_nil ?_
  refine thenN ?_
  refine wp_seq ?_
  refine wp_seq ?_
  refine wp_cut (fun ac_ wl_ => ∃ br1_8 : Nat, Fm 38 [] [(0, Value.pointer (some ⟨p, 0, none⟩)), (1, Value.int .i64 h), (2, Value.int .i64 id), (3, m.v), (7, Value.pointer (some ⟨b1, 0, none⟩)), (8, Value.int .i64 0), (9, Value.int .i64 1)] ac_ ∧ Ws w No [Cel br1_8 #[Value.bool true, Value.int .i64 1, Value.bool (!(fineM (id) m)), Value.int .i64 2] 73, Cel b1 #[Value.int .u64 m.clock, Value.int .i64 m.site.f, Value.int .i64 m.site.pc] 32] [Cel p #[Value.map none] 62] wl_) ?_ ?_
  · refine sr_region (m := 11) (C := Ws w No [Cel b1 #[Value.int .u64 m.clock, Value.int .i64 m.site.f, Value.int .i64 m.site.pc] 32] [Cel p #[Value.map none] 62]) (fun i => [4].contains i) (fun i => [1, 4].contains i) (fun i => [0, 2, 3, 6, 7, 10].contains i) (by kernel_rfl) (by kernel_rfl) (by kernel_rfl) (by kernel_rfl) hW ?_; clear hW; intro w3 hW hfw3 hR; have hC : Ws w No [Cel b1 #[Value.int .u64 m.clock, Value.int .i64 m.site.f, Value.int .i64 m.site.pc] 32] [Cel p #[Value.map none] 62] w3 := hW.pick [0] (by decide) rfl
    refine sr_pure (i := 0) (v := Value.pointer (some ⟨p, 0, none⟩)) hR (by kernel_rfl) rfl (by kernel_rfl) (by kernel_rfl) (fun _ _ _ h => h.elim) hA (by kernel_rfl) (by kernel_rfl) (by kernel_rfl) (Rd.pure fun _ => by kernel_rfl) ?_; clear hA ac; intro ac hA
    refine sr_pure (i := 3) (v := Value.int .i64 id) hR (by kernel_rfl) rfl (by kernel_rfl) (by kernel_rfl) (fun _ _ _ h => h.elim) hA (by kernel_rfl) (by kernel_rfl) (by kernel_rfl) (Rd.pure fun _ => by kernel_rfl) ?_; clear hA ac; intro ac hA
    refine sr_take (i := 4) (v := Value.agg #[Value.int .u64 m.clock, Value.int .i64 m.site.f, Value.int .i64 m.site.pc]) hR (by kernel_rfl) rfl (by kernel_rfl) (by kernel_rfl) (by kernel_rfl) (fun _ _ _ h => h.elim) hA (by kernel_rfl) (by kernel_rfl) (by kernel_rfl) hC (Rd.load (b := b1) (i := 0) (by kernel_rfl) (fun _ hw => (hw).cel 0 rfl) (by kernel_rfl)) ?_; clear hA ac; intro ac hA
    refine sr_one (i := 1) (by kernel_rfl) (sr_do rfl hA (by kernel_rfl) (by kernel_rfl) (by kernel_rfl) (Runs.callS (v := Value.bool true) (fun _ => by kernel_rfl) (e_none_z p w3 (show _ = _ from (hW).getG 0 rfl)) ?_)); clear hA ac; intro  ac hA
    refine ⟨⟨fun _ => (hW.pick [0] (by decide) rfl).pickG [0] rfl, fun h => absurd h (by decide)⟩, ?_⟩; have hC : Ws w No [Cel b1 #[Value.int .u64 m.clock, Value.int .i64 m.site.f, Value.int .i64 m.site.pc] 32] [Cel p #[Value.map none] 62] w3 := (hW.pick [0] (by decide) rfl).pickG [0] rfl
    refine sr_pure (i := 2) (v := Value.agg #[Value.bool true, Value.int .i64 1]) hR (by kernel_rfl) rfl (by kernel_rfl) (by kernel_rfl) (fun _ _ _ h => h.elim) hA (by kernel_rfl) (by kernel_rfl) (by kernel_rfl) (Rd.pure fun _ => by kernel_rfl) ?_; clear hA ac; intro ac hA
    refine sr_one (i := 5) (by kernel_rfl) (sr_do rfl hA (by kernel_rfl) (by kernel_rfl) (by kernel_rfl) (Runs.callN (v := Value.bool (fineM (id) m)) (fun _ => by kernel_rfl) hW (e_fine (id) m w3 (by first | omega | (simp; done)) (by first | omega | (simp; done))) ?_)); clear hA ac hW; intro w4 hW hfw4 ac hA
    refine ⟨⟨fun h => absurd h (by decide), fun h => absurd h (by decide)⟩, ?_⟩
    refine sr_pure (i := 6) (v := Value.bool (!(fineM (id) m))) hR (by kernel_rfl) rfl (by kernel_rfl) (by kernel_rfl) (fun _ _ _ h => h.elim) hA (by kernel_rfl) (by kernel_rfl) (by kernel_rfl) (Rd.pure fun _ => by kernel_rfl) ?_; clear hA ac; intro ac hA
    refine sr_pure (i := 7) (v := Value.agg #[Value.bool (!(fineM (id) m)), Value.int .i64 2]) hR (by kernel_rfl) rfl (by kernel_rfl) (by kernel_rfl) (fun _ _ _ h => h.elim) hA (by kernel_rfl) (by kernel_rfl) (by kernel_rfl) (Rd.pure fun _ => by kernel_rfl) ?_; clear hA ac; intro ac hA
    refine sr_one (i := 8) (by kernel_rfl) (sr_do rfl hA (by kernel_rfl) (by kernel_rfl) (by kernel_rfl) (Runs.cells (fun b => Value.slice (some ⟨b, 0, none⟩) 2 2) #[Value.bool true, Value.int .i64 1, Value.bool (!(fineM (id) m)), Value.int .i64 2] 73 (fun _ => by kernel_rfl) hW ?_)); clear hA ac hW; intro br1_8 w5 hW hbr1_8 hfw5 ac hA
    refine ⟨⟨fun h => absurd h (by decide), fun h => absurd h (by decide)⟩, ?_⟩
    refine sr_one (i := 9) (by kernel_rfl) (sr_do rfl hA (by kernel_rfl) (by kernel_rfl) (by kernel_rfl) (Runs.callN (v := Value.int .i64 1) (fun _ => by kernel_rfl) hW (e_first3 (⟨!(fineM (id) m), 2⟩ : Ask) (some ⟨br1_8, 0, none⟩) 2 w5 (rowAt_cel ((hW).cel 0 rfl) ([(⟨true, 1⟩ : Ask), (⟨!(fineM (id) m), 2⟩ : Ask)] : List Ask) (by rfl) elt_Ask.len) (by omega)) ?_)); clear hA ac hW; intro w6 hW hfw6 ac hA
    refine ⟨⟨fun h => absurd h (by decide), fun h => absurd h (by decide)⟩, ?_⟩
    refine sr_pure (i := 10) (v := Value.int .i64 1) hR (by kernel_rfl) rfl (by kernel_rfl) (by kernel_rfl) (fun _ _ _ h => h.elim) hA (by kernel_rfl) (by kernel_rfl) (by kernel_rfl) (Rd.pure fun _ => by kernel_rfl) ?_; clear hA ac; intro ac hA
    refine sr_done (by kernel_rfl) ?_ _
    exact ⟨br1_8, hA.sub ⟨⟨by kernel_rfl, by kernel_rfl⟩, ⟨by kernel_rfl, by kernel_rfl⟩, ⟨by kernel_rfl, by kernel_rfl⟩, ⟨by kernel_rfl, by kernel_rfl⟩, ⟨by kernel_rfl, by kernel_rfl⟩, ⟨by kernel_rfl, by kernel_rfl⟩, ⟨by kernel_rfl, by kernel_rfl⟩, trivial⟩, (hW.pick [0, 1] (by decide) rfl).pickG [0] rfl⟩
  clear hA ac hW; rintro ac w7 ⟨br1_8, hA, hW⟩
  refine thenN ?_
  refine wp_seq ?_
  refine wp_region_lit ?_
  refine st_rd (v := Value.int .i64 1) hA (by kernel_rfl) (by kernel_rfl) (by kernel_rfl) hW.cls (Rd.pure fun _ => by kernel_rfl) ?_; clear hA ac; intro ac hA
  refine st_rd (v := Value.bool true) hA (by kernel_rfl) (by kernel_rfl) (by kernel_rfl) hW.cls (Rd.pure fun _ => by kernel_rfl) ?_; clear hA ac; intro ac hA
  refine wpList_nil ?_
  refine thenN ?_
  refine wp_cond_true (hA.eval (by kernel_rfl)) ?_
  refine wp_seq ?_
  refine wp_region_lit ?_
  refine st_rd (v := Value.int .i64 1) hA (by kernel_rfl) (by kernel_rfl) (by kernel_rfl) hW.cls (Rd.pure fun _ => by kernel_rfl) ?_; clear hA ac; intro ac hA
  refine st_rd (v := Value.int .i64 1) hA (by kernel_rfl) (by kernel_rfl) (by kernel_rfl) hW.cls (Rd.pure fun _ => by kernel_rfl) ?_; clear hA ac; intro ac hA
  refine wpList_nil ?_
  refine thenN ?_
  refine wp_ret ?_
  refine thenR ?_
  refine ret1 (v := Value.int .i64 1) (by rfl) hA (Got.tmp hA (by kernel_rfl) (by kernel_rfl)) ?_
  clear hA
  exact ⟨retv (by rfl), hW.fr⟩

set_option maxRecDepth 100000 in
theorem e_beyond_z (p : Nat) (h : Int) (A_c : Option Addr) (c_c : Nat) (c : List Int) (w : World) (ho_p : w.heap[p]? = some (.cells #[Value.map none] 62 (0, 0))) (hr_c : RowAt w A_c 1 enU c) (hc_c : c.length ≤ c_c) (hl : c.length ≤ 1000) : Calls Try.prog 15 #[Value.pointer (some ⟨p, 0, none⟩), Value.int .i64 h, Value.slice A_c c.length c_c] w (fun e w' => e = .returned (Value.tuple #[Value.int .i64 0, (⟨0, ⟨0, 0⟩⟩ : Mark).v, Value.bool false]) ∧ Fr No w w') := by
  have _hu := hc_c; have _hv := hr_c; clear _hu _hv
  have _hu := ho_p; clear _hu
  have _hu := hl; clear _hu
  refine enter_E 36 Try.func15 rfl rfl (by kernel_rfl) (L := [(0, Value.pointer (some ⟨p, 0, none⟩)), (1, Value.int .i64 h), (2, Value.slice A_c c.length c_c)]) (by kernel_rfl) ?_
  intro ac hA
  have hW := Ws.start w No
  have hW := hW.arg hr_c
  have hW := hW.celG ho_p
  refine wp_seq ?_
  refine wp_region_lit ?_
  refine st_rd (v := Value.int .i64 0) hA (by kernel_rfl) (by kernel_rfl) (by kernel_rfl) hW.cls (Rd.pure fun _ => by kernel_rfl) ?_; clear hA ac; intro ac hA
  refine st hA (by kernel_rfl) (by kernel_rfl) (by kernel_rfl) (Runs.cells (fun b => Value.pointer (some ⟨b, 0, none⟩)) #[Value.int .u64 0, Value.int .i64 0, Value.int .i64 0] 32 (fun _ => by kernel_rfl) hW ?_); clear hA ac hW; intro b1 w2 hW hb1 hfw2 ac hA
  refine st_rd (v := Value.bool false) hA (by kernel_rfl) (by kernel_rfl) (by kernel_rfl) hW.cls (Rd.pure fun _ => by kernel_rfl) ?_; clear hA ac; intro ac hA
  refine wpList_nil ?_
  refine thenN ?_
  refine wp_seq ?_
  refine wp_region_lit ?_
  refine st_rd (v := Value.pointer (some ⟨p, 0, none⟩)) hA (by kernel_rfl) (by kernel_rfl) (by kernel_rfl) hW.cls (Rd.pure fun _ => by kernel_rfl) ?_; clear hA ac; intro ac hA
  refine st_rd (v := Value.int .i64 h) hA (by kernel_rfl) (by kernel_rfl) (by kernel_rfl) hW.cls (Rd.pure fun _ => by kernel_rfl) ?_; clear hA ac; intro ac hA
  refine st hA (by kernel_rfl) (by kernel_rfl) (by kernel_rfl) (Runs.callN (v := Value.map none) (fun _ => by kernel_rfl) hW (e_of_z p (h) w2 (show _ = _ from (hW).getG 0 rfl)) ?_); clear hA ac hW; intro w3 hW hfw3 ac hA
  refine st_rd (v := Value.map none) hA (by kernel_rfl) (by kernel_rfl) (by kernel_rfl) hW.cls (Rd.pure fun _ => by kernel_rfl) ?_; clear hA ac; intro ac hA
  refine wpList_nil ?_
  refine thenN ?_
  refine wp_seq ?_
  refine wp_seq ?_
  refine wp_region_lit ?_
  refine st_rd (v := Value.map none) hA (by kernel_rfl) (by kernel_rfl) (by kernel_rfl) hW.cls (Rd.pure fun _ => by kernel_rfl) ?_; clear hA ac; intro ac hA
  refine st hA (by kernel_rfl) (by kernel_rfl) (by kernel_rfl) (Runs.call (fun _ => by kernel_rfl) (e_rising_n w3) ?_)
  rintro _ w4 ⟨g5, Ao6, co7, rfl, hw4_hp, hcco7, hu_⟩; refine ⟨_, rfl, ?_⟩; replace hW := hW.made hu_; clear hA ac; intro ac hA
  refine st_rd (v := Value.int .i64 (((g5).length : Nat) : Int)) hA (by kernel_rfl) (by kernel_rfl) (by kernel_rfl) hW.cls (Rd.pure fun _ => by kernel_rfl) ?_; clear hA ac; intro ac hA
  refine st_rd (v := Value.int .i64 0) hA (by kernel_rfl) (by kernel_rfl) (by kernel_rfl) hW.cls (Rd.pure fun _ => by kernel_rfl) ?_; clear hA ac; intro ac hA
  refine wpList_nil ?_
  refine thenN ?_
  refine wp_block ?_
  have hkl_ : g5.length ≤ 100000 := by rw [hw4_hp]; simp
  refine wp_loop_m (fun m_ ac_ wl_ => ∃ k : Nat, m_ = g5.length - k ∧ (k ≤ g5.length) ∧ Fm 36 [] [(7, Value.pointer (some ⟨b1, 0, none⟩)), (9, Value.map none), (16, Value.slice Ao6 (g5).length co7), (17, Value.int .i64 (((g5).length : Nat) : Int)), (18, Value.int .i64 ((k : Nat) : Int))] ac_ ∧ Ws w No [rowR 3 1 enI (Value.slice Ao6 (g5).length co7) g5, Cel b1 #[Value.int .u64 0, Value.int .i64 0, Value.int .i64 0] 32] [Cel p #[Value.map none] 62, roR A_c 1 enU c] wl_) _ ⟨0, rfl, by omega, hA.sub ⟨⟨by kernel_rfl, by kernel_rfl⟩, ⟨by kernel_rfl, by kernel_rfl⟩, ⟨by kernel_rfl, by kernel_rfl⟩, ⟨by kernel_rfl, by kernel_rfl⟩, ⟨by kernel_rfl, by kernel_rfl⟩, trivial⟩, (hW.pick [0, 1] (by decide) rfl).pickG [0, 1] rfl⟩ ?_
  clear hA ac hW; rintro m_ ac w9 ⟨k, rfl, hk, hA, hW⟩
  refine wp_seq ?_
  refine wp_region_lit ?_
  refine st_rd (v := Value.bool (decide ((((k : Nat) : Int) : Int) < ((((g5).length : Nat) : Int) : Int)))) hA (by kernel_rfl) (by kernel_rfl) (by kernel_rfl) hW.cls (Rd.pure fun _ => by kernel_rfl) ?_; clear hA ac; intro ac hA
  refine wpList_nil ?_
  refine thenN ?_
  refine wp_seq ?_
  refine wp_cond_split (t := decide ((((k : Nat) : Int) : Int) < ((((g5).length : Nat) : Int) : Int))) (hA.eval (by kernel_rfl)) (fun h10 => ?_) (fun h10 => ?_)
  · skip
    have h10 := of_decide_eq_true h10
    first
    | (exfalso; clear hA hW; omega)
    | (exfalso; clear hA hW; rw [hw4_hp] at h10; simp only [List.length_nil] at h10; omega; done)
    | (
        fail)
  · skip
    have h10 := of_decide_eq_false h10
    first
    | (exfalso; clear hA hW; omega)
    | (exfalso; clear hA hW; rw [hw4_hp] at h10; simp only [List.length_nil] at h10; omega; done)
    | (
        refine wp_exit ?_
        refine thenX ?_
        refine thenX ?_
        refine blkX ?_
        refine thenN ?_
        refine wp_seq ?_
        refine wp_region_lit ?_
        refine st_rd (v := Value.agg #[Value.int .u64 0, Value.int .i64 0, Value.int .i64 0]) hA (by kernel_rfl) (by kernel_rfl) (by kernel_rfl) hW.cls (Rd.pure fun _ => by kernel_rfl) ?_; clear hA ac; intro ac hA
        refine st_rd (v := Value.int .i64 0) hA (by kernel_rfl) (by kernel_rfl) (by kernel_rfl) hW.cls (Rd.pure fun _ => by kernel_rfl) ?_; clear hA ac; intro ac hA
        refine st hA (by kernel_rfl) (by kernel_rfl) (by kernel_rfl) (Runs.store (v := Value.agg #[Value.int .u64 0, Value.int .i64 0, Value.int .i64 0]) (b := b1) (j := 0) (n := 3) (cs' := #[Value.int .u64 0, Value.int .i64 0, Value.int .i64 0]) (H' := [rowR 3 1 enI (Value.slice Ao6 (g5).length co7) g5, Cel b1 #[Value.int .u64 0, Value.int .i64 0, Value.int .i64 0] 32]) (by kernel_rfl) (by kernel_rfl) (by kernel_rfl) (by kernel_rfl) (by kernel_rfl) hW 1 (by rfl) (Nat.le_of_ble_eq_true (by kernel_rfl)) (by kernel_rfl) (by rfl) ?_); clear hA ac hW; intro w14 hW ac hA
        refine st_rd (v := Value.bool false) hA (by kernel_rfl) (by kernel_rfl) (by kernel_rfl) hW.cls (Rd.pure fun _ => by kernel_rfl) ?_; clear hA ac; intro ac hA
        refine wpList_nil ?_
        refine thenN ?_
        refine wp_ret ?_
        refine ret3 (v1 := Value.int .i64 0) (v2 := Value.agg #[Value.int .u64 0, Value.int .i64 0, Value.int .i64 0]) (v3 := Value.bool false) (by rfl) hA (Got.tmp hA (by kernel_rfl) (by kernel_rfl)) (Got.cell (b := b1) (i := 0) hA (by kernel_rfl) (by kernel_rfl) (hW.cel 1 rfl) (by kernel_rfl)) (Got.tmp hA (by kernel_rfl) (by kernel_rfl)) ?_
        clear hA
        exact ⟨retv (by rfl), hW.fr⟩)

set_option maxRecDepth 100000 in
theorem e_each_z (p : Nat) (h : Int) (w : World) (ho_p : w.heap[p]? = some (.cells #[Value.map none] 62 (0, 0))) : Calls Try.prog 14 #[Value.pointer (some ⟨p, 0, none⟩), Value.int .i64 h] w (fun e w' => ∃ (lb : Array Value) (g : Res), e = .returned (Value.func (.func 31) #[] lb) ∧ Iter Try.prog 31 lb (fun x_ : Int × Mark => #[Value.int .i64 x_.1, x_.2.v]) (EachR none) [g] ∧ g.from_ [] w w' ∧ Fr No w w') := by
  have _hu := ho_p; clear _hu
  refine enter_E 14 Try.func14 rfl rfl (by kernel_rfl) (L := [(0, Value.pointer (some ⟨p, 0, none⟩)), (1, Value.int .i64 h)]) (by kernel_rfl) ?_
  intro ac hA
  have hW := Ws.start w No
  have hW := hW.celG ho_p
  refine wp_seq ?_
  refine wp_region_lit ?_
  refine st_rd (v := Value.nilFunc) hA (by kernel_rfl) (by kernel_rfl) (by kernel_rfl) hW.cls (Rd.pure fun _ => by kernel_rfl) ?_; clear hA ac; intro ac hA
  refine wpList_nil ?_
  refine thenN ?_
  refine wp_seq ?_
  refine wp_region_lit ?_
  refine st_rd (v := Value.pointer (some ⟨p, 0, none⟩)) hA (by kernel_rfl) (by kernel_rfl) (by kernel_rfl) hW.cls (Rd.pure fun _ => by kernel_rfl) ?_; clear hA ac; intro ac hA
  refine st_rd (v := Value.int .i64 h) hA (by kernel_rfl) (by kernel_rfl) (by kernel_rfl) hW.cls (Rd.pure fun _ => by kernel_rfl) ?_; clear hA ac; intro ac hA
  refine st hA (by kernel_rfl) (by kernel_rfl) (by kernel_rfl) (Runs.callN (v := Value.map none) (fun _ => by kernel_rfl) hW (e_of_z p (h) w (show _ = _ from (hW).getG 0 rfl)) ?_); clear hA ac hW; intro w1 hW hfw1 ac hA
  refine st hA (by kernel_rfl) (by kernel_rfl) (by kernel_rfl) (Runs.callN (v := Value.map none) (fun _ => by kernel_rfl) hW (e_cloneN w1) ?_); clear hA ac hW; intro w2 hW hfw2 ac hA
  refine st hA (by kernel_rfl) (by kernel_rfl) (by kernel_rfl) (Runs.cells (fun b => Value.pointer (some ⟨b, 0, none⟩)) #[Value.map none] 69 (fun _ => by kernel_rfl) hW ?_); clear hA ac hW; intro b3 w4 hW hb3 hfw4 ac hA
  refine st hA (by kernel_rfl) (by kernel_rfl) (by kernel_rfl) (Runs.store (v := Value.map none) (b := b3) (j := 0) (n := 1) (cs' := #[Value.map none]) (H' := [Cel b3 #[Value.map none] 69]) (by kernel_rfl) (by kernel_rfl) (by kernel_rfl) (by kernel_rfl) (by kernel_rfl) hW 0 (by rfl) (Nat.le_of_ble_eq_true (by kernel_rfl)) (by kernel_rfl) (by rfl) ?_); clear hA ac hW; intro w5 hW ac hA
  refine wpList_nil ?_
  refine thenN ?_
  refine wp_seq ?_
  refine wp_region_lit ?_
  refine st_rd (v := Value.map none) hA (by kernel_rfl) (by kernel_rfl) (by kernel_rfl) hW.cls (Rd.load (b := b3) (i := 0) (by kernel_rfl) (fun _ hw => (hw.1).cel 0 rfl) (by kernel_rfl)) ?_; clear hA ac; intro ac hA
  refine st hA (by kernel_rfl) (by kernel_rfl) (by kernel_rfl) (Runs.call (fun _ => by kernel_rfl) (e_rising_n w5) ?_)
  rintro _ w6 ⟨g7, Ao8, co9, rfl, hw6_hp, hcco9, hu_⟩; refine ⟨_, rfl, ?_⟩; replace hW := hW.made hu_; clear hA ac; intro ac hA
  refine st hA (by kernel_rfl) (by kernel_rfl) (by kernel_rfl) (Runs.cells (fun b => Value.pointer (some ⟨b, 0, none⟩)) #[Value.slice none 0 0] 35 (fun _ => by kernel_rfl) hW ?_); clear hA ac hW; intro b11 w12 hW hb11 hfw12 ac hA
  refine st hA (by kernel_rfl) (by kernel_rfl) (by kernel_rfl) (Runs.store (v := Value.slice Ao8 (g7).length co9) (b := b11) (j := 0) (n := 1) (cs' := #[Value.slice Ao8 (g7).length co9]) (H' := [Cel b11 #[Value.slice Ao8 (g7).length co9] 35, rowR 3 1 enI (Value.slice Ao8 (g7).length co9) g7, Cel b3 #[Value.map none] 69]) (by kernel_rfl) (by kernel_rfl) (by kernel_rfl) (by kernel_rfl) (by kernel_rfl) hW 0 (by rfl) (Nat.le_of_ble_eq_true (by kernel_rfl)) (by kernel_rfl) (by rfl) ?_); clear hA ac hW; intro w13 hW ac hA
  refine wpList_nil ?_
  refine thenN ?_
  refine wp_seq ?_
  refine wp_region_lit ?_
  refine st_rd (v := Value.func (.func 31) #[] #[Value.pointer (some ⟨b11, 0, none⟩), Value.pointer (some ⟨b3, 0, none⟩)]) hA (by kernel_rfl) (by kernel_rfl) (by kernel_rfl) hW.cls (Rd.pure fun _ => by kernel_rfl) ?_; clear hA ac; intro ac hA
  refine st_rd (v := Value.func (.func 31) #[] #[Value.pointer (some ⟨b11, 0, none⟩), Value.pointer (some ⟨b3, 0, none⟩)]) hA (by kernel_rfl) (by kernel_rfl) (by kernel_rfl) hW.cls (Rd.pure fun _ => by kernel_rfl) ?_; clear hA ac; intro ac hA
  refine wpList_nil ?_
  refine thenN ?_
  refine wp_ret ?_
  refine ret1 (v := Value.func (.func 31) #[] #[Value.pointer (some ⟨b11, 0, none⟩), Value.pointer (some ⟨b3, 0, none⟩)]) (by rfl) hA (Got.tmp hA (by kernel_rfl) (by kernel_rfl)) ?_
  clear hA
  have hkl_ : g7.length ≤ 100000 := by rw [hw6_hp]; simp
  exact ⟨_, _, rfl, iter_weak (iter_many (it_eachN b11 b3 _ _ g7 (own_cap (hW.get 1 rfl)) (by omega))) ⟨[], List.Perm.refl _, List.Pairwise.nil, by rw [hw6_hp]; rfl⟩, from_many (froms_cons (hW.outOwn 0 rfl (fun _ h => h)) (froms_cons (hW.outRow 1 rfl elt_I.len (fun _ h => h)) (froms_cons (hW.outOwn 2 rfl (fun _ h => h)) froms_nil))), hW.fr⟩

end Go.Proofs.Ytobbocpacacnhaa.L
