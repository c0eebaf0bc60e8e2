/- Contracts, walked by program over the engine's laws. -/
import Derived.Test.YtcgcippmbeileaaProg
import Derived.Test.YtcgcippmbeileaaT13
namespace Go.Proofs.Ytcgcippmbeileaa.L
open Go.RowKit

section
variable {γ : Type} {V W Vl : List (Int × Nat × γ)} {k b : Nat} {y : Int × Nat} {c : γ}
theorem outs_get (h : (outs V)[k]? = some y) : ∃ c, V[k]? = some (y.1, y.2, c) := by
  unfold outs at h
  rw [List.getElem?_map] at h
  cases q : V[k]? with
  | none => rw [q] at h; cases h
  | some e => rw [q] at h; cases h; exact ⟨e.2.2, rfl⟩
theorem outs_erase : outs (V.eraseIdx k) = (outs V).eraseIdx k := by
  induction V generalizing k with
  | nil => cases k <;> rfl
  | cons x V ih =>
    cases k with
    | zero => rfl
    | succ k => simp only [outs, List.eraseIdx_cons_succ, List.map_cons] at ih ⊢; rw [ih]
theorem outs_nil (h : outs V = []) : V = [] := by unfold outs at h; exact List.map_eq_nil_iff.1 h
theorem copy_step (hp : (vals W ++ vals Vl).Perm (vals V)) (h : Vl[k]? = some (y.1, y.2, c)) : (vals (W ++ [(y.1, b, c)]) ++ vals (Vl.eraseIdx k)).Perm (vals V) := by
  rw [vals_snoc, List.append_assoc]
  exact ((((er_perm_ h).map (fun e : Int × Nat × γ => (e.1, e.2.2))).symm).append_left _).trans hp
theorem copy_new (hn : (keys (vals V)).Nodup) (hp : (vals W ++ vals Vl).Perm (vals V)) (h : Vl[k]? = some (y.1, y.2, c)) : look (outs W) y.1 = none := by
  rw [outs_none, look_none]
  intro hm
  have h1 : ((vals W ++ vals Vl).map fun x : Int × γ => x.1).Nodup := ((hp.map (fun x : Int × γ => x.1)).nodup_iff).2 (by unfold keys at hn; exact hn)
  rw [List.map_append, List.nodup_append] at h1
  exact h1.2.2 _ hm _ (List.mem_map.2 ⟨(y.1, c), List.mem_map.2 ⟨_, List.mem_of_getElem? h, rfl⟩, rfl⟩) rfl
end
theorem mem_er {α : Type} {l : List α} {k : Nat} {y x : α} (h : l[k]? = some y) (hx : x ∈ l) : x = y ∨ x ∈ l.eraseIdx k := by
  rcases List.mem_cons.1 ((er_perm_ h).mem_iff.1 hx) with h | h
  · exact .inl h
  · exact .inr h
theorem outs_len {κ γ : Type} {V : List (κ × Nat × γ)} : (outs V).length = V.length := by simp [outs]
theorem pgG_len {β : Type} {p : Cell22 → Option β} {n : Int} {f : Nat → Shade} (i : Nat) : (pgG p n f i).length ≤ i := by
  unfold pgG; have := List.length_filterMap_le (fun j : Nat => p ⟨n * 4096 + (j : Int), f j⟩) (List.range i); simpa using this
theorem gathOf_len {β : Type} (p : Cell22 → Option β) (M : List (Int × (Nat → Shade))) (ks : List Int) : (gathOf p M ks).length ≤ 4096 * ks.length := by
  unfold gathOf
  induction ks with
  | nil => simp
  | cons k ks ih => rw [List.flatMap_cons, List.length_append]; have := pgG_len (p := p) (n := k) (f := (look M k).getD fun _ => zSh) 4096; simp at ih ⊢; omega
/-- Two shadows' maps say the same. -/
def vEq1 (B : List (Int × (Nat → Shade))) (x : Int × (Nat → Shade)) : Bool := match look B x.1 with
  | some c => psEq 4096 x.2 c
  | none => false
def vEq (A B : List (Int × (Nat → Shade))) : Bool := decide (A.length = B.length) && A.all (vEq1 B)
theorem vEq_len {V W : VT22} (h : V.length ≠ W.length) : vEq (vals V) (vals W) = false := by unfold vEq; rw [vals_len, vals_len, decide_eq_false h]; rfl
theorem vEq_no {V W : VT22} {e : Int × Nat × (Nat → Shade)} (he : e ∈ V) (h : vEq1 (vals W) (e.1, e.2.2) = false) : vEq (vals V) (vals W) = false := by
  unfold vEq
  rw [Bool.and_eq_false_iff]
  exact .inr (List.all_eq_false.2 ⟨(e.1, e.2.2), List.mem_map.2 ⟨e, he, rfl⟩, by rw [h]; simp⟩)
theorem vEq_yes {V W : VT22} (hl : V.length = W.length) (h : ∀ e ∈ V, vEq1 (vals W) (e.1, e.2.2) = true) : vEq (vals V) (vals W) = true := by
  unfold vEq
  rw [vals_len, vals_len, decide_eq_true hl, Bool.true_and, List.all_eq_true]
  intro x hx
  obtain ⟨e, he, rfl⟩ := List.mem_map.1 hx
  exact h e he
set_option maxRecDepth 100000 in
theorem it_all_Cell22 (b : Nat) (A : Option Addr) (c : Nat) (l : List Cell22) (hc : l.length ≤ c) (hl : l.length ≤ 1000000) : Iter Try.prog 47 #[Value.pointer (some ⟨b, 0, none⟩)] (fun x_ : Cell22 × Nat => #[Value.int .i64 ((x_.2 : Nat) : Int), x_.1.v]) (· = l.zipIdx) [Cel b #[Value.slice A l.length c] 78, roR A 8 enCell22 l] := by
 intro l_ J_ Jx_ r0 w hOs_ hdis_ hR_ hJ0_ hp_ hlt_
 have hW := iterW hOs_ hdis_ hp_ hlt_; clear hOs_ hdis_ hp_ hlt_
 have _hu := hc; clear _hu
 have _hu := hl; clear _hu
 refine enter_F 18 Try.func47 rfl rfl (by kernel_rfl) (L := [(0, Value.func (.yield l_) #[] #[]), (1, Value.pointer (some ⟨b, 0, none⟩))]) (by kernel_rfl) ?_
 intro ac hA
 refine wpIn_seq ?_
 refine wpIn_region_lit ?_
 refine st_rdF (v := Value.slice A l.length c) hA (by kernel_rfl) (by kernel_rfl) (by kernel_rfl) (by kernel_rfl) hW.cls (Rd.load (b := b) (i := 0) (by kernel_rfl) (fun _ hw => show _ = _ from (hw.1).getG 0 rfl) (by kernel_rfl)) ?_; clear hA ac; intro ac hA
 refine st_rdF (v := Value.int .i64 ((l.length : Nat) : Int)) hA (by kernel_rfl) (by kernel_rfl) (by kernel_rfl) (by kernel_rfl) hW.cls (Rd.pure fun _ => by kernel_rfl) ?_; clear hA ac; intro ac hA
 refine st_rdF (v := Value.int .i64 0) hA (by kernel_rfl) (by kernel_rfl) (by kernel_rfl) (by kernel_rfl) hW.cls (Rd.pure fun _ => by kernel_rfl) ?_; clear hA ac; intro ac hA
 refine wpListIn_nil ?_
 refine thenN ?_
 refine wpIn_block ?_
 refine wpIn_loop_m (fun m_ ac_ wl_ => ∃ k : Nat, ∃ r_ : Res, m_ = l.length - k ∧ (k ≤ l.length) ∧ (J_ (l.zipIdx.take k) r_) ∧ Fm 18 [] [(0, Value.func (.yield l_) #[] #[]), (1, Value.pointer (some ⟨b, 0, none⟩)), (5, Value.slice A l.length c), (6, Value.int .i64 ((l.length : Nat) : Int)), (7, Value.int .i64 ((k : Nat) : Int))] ac_ ∧ Ws w (· ∈ r0.fp) [r_] [Cel b #[Value.slice A l.length c] 78, roR A 8 enCell22 l] wl_) _ ⟨0, r0, rfl, by omega, by exact hJ0_, hA.sub ⟨⟨by kernel_rfl, by kernel_rfl⟩, ⟨by kernel_rfl, by kernel_rfl⟩, ⟨by kernel_rfl, by kernel_rfl⟩, ⟨by kernel_rfl, by kernel_rfl⟩, ⟨by kernel_rfl, by kernel_rfl⟩, trivial⟩, (hW.pick [0] (by decide) rfl).pickG [0, 1] rfl⟩ ?_
 clear hA ac hW; rintro m_ ac w1 ⟨k, r_, rfl, hk, hJ, hA, hW⟩
 refine wpIn_seq ?_
 refine wpIn_region_lit ?_
 refine st_rdF (v := Value.bool (decide ((((k : Nat) : Int) : Int) < (((l.length : Nat) : Int) : Int)))) hA (by kernel_rfl) (by kernel_rfl) (by kernel_rfl) (by kernel_rfl) hW.cls (Rd.pure fun _ => by kernel_rfl) ?_; clear hA ac; intro ac hA
 refine wpListIn_nil ?_
 refine thenN ?_
 refine wpIn_seq ?_
 refine wpIn_cond_split (t := decide ((((k : Nat) : Int) : Int) < (((l.length : Nat) : Int) : Int))) (hA.eval (by kernel_rfl)) (fun h2 => ?_) (fun h2 => ?_)
 · skip
   have h2 := of_decide_eq_true h2
   first
   | (exfalso; clear hA hW; omega)
   | (
     refine wpIn_skip ?_
     refine thenN ?_
     refine wpIn_seq ?_
     refine wpIn_block ?_
     refine wpIn_seq ?_
     refine wpIn_region_lit ?_
     refine st_rdF (v := Value.int .i64 ((k : Nat) : Int)) hA (by kernel_rfl) (by kernel_rfl) (by kernel_rfl) (by kernel_rfl) hW.cls (Rd.pure fun _ => by kernel_rfl) ?_; clear hA ac; intro ac hA
     obtain ⟨y3, hy3⟩ : ∃ y, l[k]? = some y := ⟨_, List.getElem?_eq_getElem (by first | omega | (simp; done) | (simp; omega))⟩
     obtain ⟨b4, o5, rfl, hbb4⟩ := row_some ((hW).getG 1 rfl) hy3
     refine st_rdF (v := Value.pointer (some ⟨b4, o5 + k * 8, none⟩)) hA (by kernel_rfl) (by kernel_rfl) (by kernel_rfl) (by kernel_rfl) hW.cls (Rd.indexAddr (e := 81) (sz := 8) (b := b4) (off := o5) (n := l.length) (c := c) (k := k) (by kernel_rfl) (by kernel_rfl) (by first | omega | (simp; done) | (simp; omega)) (fun _ => by kernel_rfl) (fun _ => by kernel_rfl)) ?_; clear hA ac; intro ac hA
     refine st_rdF (v := Value.agg #[Value.int .u32 y3.addr, Value.int .u64 y3.x.wr, Value.int .i64 y3.x.ws.f, Value.int .i64 y3.x.ws.pc, Value.int .u64 y3.x.rd, Value.int .i64 y3.x.rs.f, Value.int .i64 y3.x.rs.pc, Value.int .i64 y3.x.vec]) hA (by kernel_rfl) (by kernel_rfl) (by kernel_rfl) (by kernel_rfl) hW.cls (Rd.loadRow (b := b4) (i := o5 + k * 8) (xs := [Value.int .u32 y3.addr, Value.int .u64 y3.x.wr, Value.int .i64 y3.x.ws.f, Value.int .i64 y3.x.ws.pc, Value.int .u64 y3.x.rd, Value.int .i64 y3.x.rs.f, Value.int .i64 y3.x.rs.pc, Value.int .i64 y3.x.vec]) (by kernel_rfl) (fun _ hw => row_ld ((hw.1).getG 1 rfl) hy3 (Fr.refl No _) (fun h => h) 0 8 (by kernel_rfl)) (by kernel_rfl)) ?_; clear hA ac; intro ac hA
     refine stF hA (by kernel_rfl) (by kernel_rfl) (by kernel_rfl) (by kernel_rfl) (RunsF.of (Runs.cells (fun b => Value.pointer (some ⟨b, 0, none⟩)) #[Value.int .u32 0, Value.int .u64 0, Value.int .i64 0, Value.int .i64 0, Value.int .u64 0, Value.int .i64 0, Value.int .i64 0, Value.int .i64 0] 81 (fun _ => by kernel_rfl) hW ?_)); clear hA ac hW; intro b6 w7 hW hb6 hfw7 ac hA
     refine st_rdF (v := Value.int .i64 ((k : Nat) : Int)) hA (by kernel_rfl) (by kernel_rfl) (by kernel_rfl) (by kernel_rfl) hW.cls (Rd.pure fun _ => by kernel_rfl) ?_; clear hA ac; intro ac hA
     refine stF hA (by kernel_rfl) (by kernel_rfl) (by kernel_rfl) (by kernel_rfl) (RunsF.of (Runs.store (v := Value.agg #[Value.int .u32 y3.addr, Value.int .u64 y3.x.wr, Value.int .i64 y3.x.ws.f, Value.int .i64 y3.x.ws.pc, Value.int .u64 y3.x.rd, Value.int .i64 y3.x.rs.f, Value.int .i64 y3.x.rs.pc, Value.int .i64 y3.x.vec]) (b := b6) (j := 0) (n := 8) (cs' := #[Value.int .u32 y3.addr, Value.int .u64 y3.x.wr, Value.int .i64 y3.x.ws.f, Value.int .i64 y3.x.ws.pc, Value.int .u64 y3.x.rd, Value.int .i64 y3.x.rs.f, Value.int .i64 y3.x.rs.pc, Value.int .i64 y3.x.vec]) (H' := [Cel b6 #[Value.int .u32 y3.addr, Value.int .u64 y3.x.wr, Value.int .i64 y3.x.ws.f, Value.int .i64 y3.x.ws.pc, Value.int .u64 y3.x.rd, Value.int .i64 y3.x.rs.f, Value.int .i64 y3.x.rs.pc, Value.int .i64 y3.x.vec] 81, r_]) (by kernel_rfl) (by kernel_rfl) (by kernel_rfl) (by kernel_rfl) (by kernel_rfl) hW 0 (by rfl) (Nat.le_of_ble_eq_true (by kernel_rfl)) (by kernel_rfl) (by rfl) ?_)); clear hA ac hW; intro w8 hW ac hA
     refine wpListIn_nil ?_
     refine thenN ?_
     refine wpIn_seq ?_
     refine wpIn_region_lit ?_
     refine st_rdF (v := Value.func (.yield l_) #[] #[]) hA (by kernel_rfl) (by kernel_rfl) (by kernel_rfl) (by kernel_rfl) hW.cls (Rd.pure fun _ => by kernel_rfl) ?_; clear hA ac; intro ac hA
     refine st_rdF (v := Value.int .i64 ((k : Nat) : Int)) hA (by kernel_rfl) (by kernel_rfl) (by kernel_rfl) (by kernel_rfl) hW.cls (Rd.pure fun _ => by kernel_rfl) ?_; clear hA ac; intro ac hA
     refine st_rdF (v := Value.agg #[Value.int .u32 y3.addr, Value.int .u64 y3.x.wr, Value.int .i64 y3.x.ws.f, Value.int .i64 y3.x.ws.pc, Value.int .u64 y3.x.rd, Value.int .i64 y3.x.rs.f, Value.int .i64 y3.x.rs.pc, Value.int .i64 y3.x.vec]) hA (by kernel_rfl) (by kernel_rfl) (by kernel_rfl) (by kernel_rfl) hW.cls (Rd.load (b := b6) (i := 0) (by kernel_rfl) (fun _ hw => (hw.1).cel 0 rfl) (by kernel_rfl)) ?_; clear hA ac; intro ac hA
     refine stF hA (by kernel_rfl) (by kernel_rfl) (by kernel_rfl) (by kernel_rfl) (RunsF.yield hR_ (l.zipIdx.take k) ((y3, k)) (fun _ => by kernel_rfl) hW 1 rfl (comes_at hy3) (hJ) hW.fr (hW.may _ (List.mem_of_getElem? (i := 1) rfl)) ?_); clear hA ac hW; intro v9 r10 w11 hv9t hv9f hW ac hA
     refine st_rdF (v := Value.bool (!v9)) hA (by kernel_rfl) (by kernel_rfl) (by kernel_rfl) (by kernel_rfl) hW.cls (Rd.pure fun _ => by kernel_rfl) ?_; clear hA ac; intro ac hA
     refine wpListIn_nil ?_
     refine thenN ?_
     refine wpIn_cond_split (t := !v9) (hA.eval (by kernel_rfl)) (fun h12 => ?_) (fun h12 => ?_)
     · skip
       have h12 := not_t h12
       first
       | (exfalso; clear hA hW; omega)
       | (
         refine wpIn_ret ?_
         refine blkR ?_
         refine thenR ?_
         refine thenR ?_
         refine blkR ?_
         refine retF (.inl rfl) hA ?_
         refine leave0 (by rfl)  ?_
         clear hA
         exact ranDone hW 1 rfl (.inr ⟨_, hv9f h12⟩))
     · skip
       have h12 := not_f h12
       first
       | (exfalso; clear hA hW; omega)
       | (
         refine wpIn_skip ?_
         refine blkN ?_
         refine thenN ?_
         refine wpIn_region_lit ?_
         refine st_rdF (v := Value.int .i64 ((k + 1 : Nat) : Int)) hA (by kernel_rfl) (by kernel_rfl) (by kernel_rfl) (by kernel_rfl) hW.cls (Rd.pureE (v0 := Value.int .i64 (IntKind.i64.wrap ((((k : Nat) : Int) : Int) + 1))) (fun _ => by kernel_rfl) (congrArg (Value.int .i64) ((w_i64 (x := (((k : Nat) : Int) : Int) + 1) (by omega) (by omega)).trans (by omega)))) ?_; clear hA ac; intro ac hA
         refine st_rdF (v := Value.int .i64 ((k + 1 : Nat) : Int)) hA (by kernel_rfl) (by kernel_rfl) (by kernel_rfl) (by kernel_rfl) hW.cls (Rd.pure fun _ => by kernel_rfl) ?_; clear hA ac; intro ac hA
         refine wpListIn_nil ?_
         refine thenN ?_
         have hJn := hv9t h12; rw [zip_snoc hy3] at hJn
         exact ⟨l.length - (k + 1), by omega, k + 1, r10, rfl, by omega, by exact hJn, hA.sub ⟨⟨by kernel_rfl, by kernel_rfl⟩, ⟨by kernel_rfl, by kernel_rfl⟩, ⟨by kernel_rfl, by kernel_rfl⟩, ⟨by kernel_rfl, by kernel_rfl⟩, ⟨by kernel_rfl, by kernel_rfl⟩, trivial⟩, (hW.pick [1] (by decide) rfl).pickG [0, 1] rfl⟩))
 · skip
   have h2 := of_decide_eq_false h2
   first
   | (exfalso; clear hA hW; omega)
   | (
     refine wpIn_exit ?_
     refine thenX ?_
     refine thenX ?_
     refine blkX ?_
     refine retF (.inr rfl) hA ?_
     refine leave0 (by rfl)  ?_
     clear hA
     rw [zip_all (by omega)] at hJ; exact ranDone hW 0 rfl (.inl ⟨_, rfl, hJ⟩))

set_option maxRecDepth 100000 in
theorem e_all_Cell22 (A_l : Option Addr) (c_l : Nat) (l : List Cell22) (w : World) (hr_l : RowAt w A_l 8 enCell22 l) (hc_l : l.length ≤ c_l) (hl : l.length ≤ 1000000) : Calls Try.prog 38 #[Value.slice A_l l.length c_l] w (fun e w' => ∃ (lb : Array Value) (g : Res), e = .returned (Value.func (.func 47) #[] lb) ∧ Iter Try.prog 47 lb (fun x_ : Cell22 × Nat => #[Value.int .i64 ((x_.2 : Nat) : Int), x_.1.v]) (· = l.zipIdx) [g] ∧ g.from_ [roR A_l 8 enCell22 l] w w' ∧ Fr No w w') := by
 have _hu := hc_l; have _hv := hr_l; clear _hu _hv
 have _hu := hl; clear _hu
 refine enter_E 4 Try.func38 rfl rfl (by kernel_rfl) (L := [(0, Value.slice A_l l.length c_l)]) (by kernel_rfl) ?_
 intro ac hA
 have hW := Ws.start w No
 have hW := hW.arg hr_l
 refine wp_seq ?_
 refine wp_region_lit ?_
 refine st_s hA (Runs.cells (fun b => Value.pointer (some ⟨b, 0, none⟩)) #[Value.slice A_l l.length c_l] 78 (fun _ => by kernel_rfl) hW ?_); clear hA ac hW; intro b1 w2 hW hb1 hfw2 ac hA
 refine st_p (Value.nilFunc) hA ?_; clear hA ac; intro ac hA
 refine wpList_nil ?_
 refine thenN ?_
 refine wp_seq ?_
 refine wp_region_lit ?_
 refine st_p (Value.func (.func 47) #[] #[Value.pointer (some ⟨b1, 0, none⟩)]) hA ?_; clear hA ac; intro ac hA
 refine st_p (Value.func (.func 47) #[] #[Value.pointer (some ⟨b1, 0, none⟩)]) hA ?_; clear hA ac; intro ac hA
 refine wpList_nil ?_
 refine thenN ?_
 refine wp_ret ?_
 refine ret1 (v := Value.func (.func 47) #[] #[Value.pointer (some ⟨b1, 0, none⟩)]) (by rfl) hA (Got.tmp hA (by kernel_rfl) (by kernel_rfl)) ?_
 clear hA
 exact ⟨_, _, rfl, iter_many (it_all_Cell22 b1 _ _ l hc_l hl), from_many (froms_cons (hW.outOwn 0 rfl (fun _ h => h)) (froms_cons (hW.outArg 0 rfl (.head _)) froms_nil)), hW.fr⟩

set_option maxRecDepth 100000 in
theorem it_37 (b : Nat) (A : Option Addr) (c : Nat) (l : List Cell22) (hc : l.length ≤ c) (hl : l.length ≤ 1000000) : Iter Try.prog 37 #[Value.pointer (some ⟨b, 0, none⟩)] (fun x_ : Cell22 => #[Value.int .u32 x_.addr, x_.x.v]) (· = l) [Cel b #[Value.slice A l.length c] 78, roR A 8 enCell22 l] := by
 intro l_ J_ Jx_ r0 w hOs_ hdis_ hR_ hJ0_ hp_ hlt_
 have hW := iterW hOs_ hdis_ hp_ hlt_; clear hOs_ hdis_ hp_ hlt_
 have _hu := hc; clear _hu
 have _hu := hl; clear _hu
 refine enter_F 16 Try.func37 rfl rfl (by kernel_rfl) (L := [(0, Value.func (.yield l_) #[] #[]), (1, Value.pointer (some ⟨b, 0, none⟩))]) (by kernel_rfl) ?_
 intro ac hA
 refine wpIn_seq ?_
 refine wpIn_region_lit ?_
 refine stF hA (by kernel_rfl) (by kernel_rfl) (by kernel_rfl) (by kernel_rfl) (RunsF.of (Runs.cells (fun b => Value.pointer (some ⟨b, 0, none⟩)) #[Value.func (.yield l_) #[] #[]] 83 (fun _ => by kernel_rfl) hW ?_)); clear hA ac hW; intro b1 w2 hW hb1 hfw2 ac hA
 refine wpListIn_nil ?_
 refine thenN ?_
 refine wpIn_scope ?_
 refine wpIn_seq ?_
 refine wpIn_label ?_
 refine thenN ?_
 refine wpIn_seq ?_
 refine wpIn_region_lit ?_
 refine st_rdF (v := Value.slice A l.length c) hA (by kernel_rfl) (by kernel_rfl) (by kernel_rfl) (by kernel_rfl) hW.cls (Rd.load (b := b) (i := 0) (by kernel_rfl) (fun _ hw => show _ = _ from (hw.1).getG 0 rfl) (by kernel_rfl)) ?_; clear hA ac; intro ac hA
 refine stF hA (by kernel_rfl) (by kernel_rfl) (by kernel_rfl) (by kernel_rfl) (RunsF.of (Runs.call (fun _ => by kernel_rfl) (e_all_Cell22 A c l w2 ((hW).getG 1 rfl) (by first | assumption | omega | (simp; omega) | simp) (by first | omega | (simp; done))) ?_))
 rintro _ w3 ⟨lb4, g5, rfl, hIg5, hfg5, hfw3⟩; refine ⟨_, rfl, ?_⟩; have hW0 := hW; have hW := hW0.call hfw3; have hW := hW0.addFromAt hW hfg5 (in_cons (in_at 1 rfl) in_nil); clear hW0 hA ac; intro ac hA
 refine wpListIn_nil ?_
 refine thenN ?_
 refine wpIn_block ?_
 have hW := hW.share 0 rfl (H' := [r0]) rfl
 refine wp_range (encs := (fun x_ : Cell22 × Nat => #[Value.int .i64 ((x_.2 : Nat) : Int), x_.1.v])) (Sx := (· = l.zipIdx)) hA (by kernel_rfl) (by kernel_rfl) (enters_of Try.func47 (by kernel_rfl) rfl) (by kernel_rfl) (fun _ => rfl) hIg5 (List.forall_mem_singleton.2 (List.mem_of_getElem? (i := 1) rfl)) (fun pre_ H_ => ∃ k : Nat, ∃ r_ : Res, pre_ = l.zipIdx.take k ∧ k ≤ l.length ∧ (J_ (l.take k) r_) ∧ H_ = [r_]) (fun c_ _ H_ => (c_ = .exit 0 ∧ ∃ q_ : List Cell22, ∃ r_ : Res, (Jx_ q_ r_) ∧ H_ = [r_])) (H := [r0]) (K := []) (hW.pick [0] (by decide) rfl) ⟨0, r0, rfl, Nat.zero_le _, by exact hJ0_, rfl⟩ ?_ ?_ ?_
 · skip
   clear hA ac hW; intro l_6 rd_6 bs_6 pre_ x_ Hk_ w7 T_6 ac hrd_6 hbs_6 hbr_6 hok_ hJ_ hA hW hB_6 hT_6
   obtain ⟨k, r_, rfl, hk_, hJ, rfl⟩ := hJ_
   obtain ⟨y8, rfl, hy8, hlty8, hsny8⟩ := comes_zip hok_ hk_
   replace hA : Fm 16 [] [(0, Value.func (.yield l_) #[] #[]), (1, Value.pointer (some ⟨b, 0, none⟩)), (2, Value.pointer (some ⟨b1, 0, none⟩)), (5, Value.slice A l.length c), (6, Value.func (.func 47) #[] lb4), (7, Value.int .i64 ((k : Nat) : Int)), (8, y8.v)] ac := hA.sub ⟨⟨by kernel_rfl, by kernel_rfl⟩, ⟨by kernel_rfl, by kernel_rfl⟩, ⟨by kernel_rfl, by kernel_rfl⟩, ⟨by kernel_rfl, by kernel_rfl⟩, ⟨by kernel_rfl, by kernel_rfl⟩, ⟨by kernel_rfl, by kernel_rfl⟩, ⟨by kernel_rfl, by kernel_rfl⟩, trivial⟩
   refine wpIn_region_lit ?_
   refine stF hA (by kernel_rfl) (by kernel_rfl) (by kernel_rfl) (by kernel_rfl) (RunsF.of (Runs.cells (fun b => Value.pointer (some ⟨b, 0, none⟩)) #[Value.int .u32 0, Value.int .u64 0, Value.int .i64 0, Value.int .i64 0, Value.int .u64 0, Value.int .i64 0, Value.int .i64 0, Value.int .i64 0] 81 (fun _ => by kernel_rfl) hW ?_)); clear hA ac hW; intro b9 w10 hW hb9 hfw10 ac hA
   refine stF hA (by kernel_rfl) (by kernel_rfl) (by kernel_rfl) (by kernel_rfl) (RunsF.of (Runs.store (v := y8.v) (b := b9) (j := 0) (n := 8) (cs' := #[Value.int .u32 y8.addr, Value.int .u64 y8.x.wr, Value.int .i64 y8.x.ws.f, Value.int .i64 y8.x.ws.pc, Value.int .u64 y8.x.rd, Value.int .i64 y8.x.rs.f, Value.int .i64 y8.x.rs.pc, Value.int .i64 y8.x.vec]) (H' := [Cel b9 #[Value.int .u32 y8.addr, Value.int .u64 y8.x.wr, Value.int .i64 y8.x.ws.f, Value.int .i64 y8.x.ws.pc, Value.int .u64 y8.x.rd, Value.int .i64 y8.x.rs.f, Value.int .i64 y8.x.rs.pc, Value.int .i64 y8.x.vec] 81, rd_6, r_]) (by kernel_rfl) (by kernel_rfl) (by kernel_rfl) (by kernel_rfl) (by kernel_rfl) hW 0 (by rfl) (Nat.le_of_ble_eq_true (by kernel_rfl)) (by kernel_rfl) (by rfl) ?_)); clear hA ac hW; intro w11 hW ac hA
   refine wpListIn_nil ?_
   refine thenN ?_
   refine begun (bs := bs_6) (H' := [Cel b9 #[Value.int .u32 y8.addr, Value.int .u64 y8.x.wr, Value.int .i64 y8.x.ws.f, Value.int .i64 y8.x.ws.pc, Value.int .u64 y8.x.rd, Value.int .i64 y8.x.rs.f, Value.int .i64 y8.x.rs.pc, Value.int .i64 y8.x.vec] 81, bs_6, r_]) hW 1 rfl (fun b hb => by rw [hbs_6] at hb; rw [hrd_6]; exact hb) rfl ?_; clear hW; intro w12 hW
   refine wpIn_block ?_
   refine wpIn_seq ?_
   refine wpIn_region_lit ?_
   refine st_rdF (v := Value.func (.yield l_) #[] #[]) hA (by kernel_rfl) (by kernel_rfl) (by kernel_rfl) (by kernel_rfl) hW.cls (Rd.load (b := b1) (i := 0) (by kernel_rfl) (fun _ hw => show _ = _ from (hw.1).getG 0 rfl) (by kernel_rfl)) ?_; clear hA ac; intro ac hA
   refine st_rdF (v := Value.pointer (some ⟨b9, 0, none⟩)) hA (by kernel_rfl) (by kernel_rfl) (by kernel_rfl) (by kernel_rfl) hW.cls (Rd.pure fun _ => by kernel_rfl) ?_; clear hA ac; intro ac hA
   refine st_rdF (v := Value.int .u32 y8.addr) hA (by kernel_rfl) (by kernel_rfl) (by kernel_rfl) (by kernel_rfl) hW.cls (Rd.load (b := b9) (i := 0) (by kernel_rfl) (fun _ hw => (hw.1).cel 0 rfl) (by kernel_rfl)) ?_; clear hA ac; intro ac hA
   refine st_rdF (v := Value.pointer (some ⟨b9, 1, none⟩)) hA (by kernel_rfl) (by kernel_rfl) (by kernel_rfl) (by kernel_rfl) hW.cls (Rd.pure fun _ => by kernel_rfl) ?_; clear hA ac; intro ac hA
   refine st_rdF (v := Value.agg #[Value.int .u64 y8.x.wr, Value.int .i64 y8.x.ws.f, Value.int .i64 y8.x.ws.pc, Value.int .u64 y8.x.rd, Value.int .i64 y8.x.rs.f, Value.int .i64 y8.x.rs.pc, Value.int .i64 y8.x.vec]) hA (by kernel_rfl) (by kernel_rfl) (by kernel_rfl) (by kernel_rfl) hW.cls (Rd.load (b := b9) (i := 1) (by kernel_rfl) (fun _ hw => (hw.1).cel 0 rfl) (by kernel_rfl)) ?_; clear hA ac; intro ac hA
   refine stF hA (by kernel_rfl) (by kernel_rfl) (by kernel_rfl) (by kernel_rfl) (RunsF.yield hR_ (l.take k) (y8) (fun _ => by kernel_rfl) hW 2 rfl (comes_atL hy8) (hJ) (chainFr hB_6 hT_6 hW.fr) (chainMay hB_6 hT_6 (hW.may _ (List.mem_of_getElem? (i := 2) rfl))) ?_); clear hA ac hW; intro v13 r14 w15 hv13t hv13f hW ac hA
   refine st_rdF (v := Value.bool (!v13)) hA (by kernel_rfl) (by kernel_rfl) (by kernel_rfl) (by kernel_rfl) hW.cls (Rd.pure fun _ => by kernel_rfl) ?_; clear hA ac; intro ac hA
   refine wpListIn_nil ?_
   refine thenN ?_
   refine wpIn_cond_split (t := !v13) (hA.eval (by kernel_rfl)) (fun h16 => ?_) (fun h16 => ?_)
   · skip
     have h16 := not_t h16
     first
     | (exfalso; clear hA hW; omega)
     | (
       refine wpIn_exit ?_
       refine blkY (by kernel_rfl) ?_
       exact ⟨_, ⟨rfl, _, r14, by exact hv13f h16, rfl⟩, (hW.pick [1, 2] (by decide) rfl).pickG [0, 1, 2, 3] rfl⟩)
   · skip
     have h16 := not_f h16
     first
     | (exfalso; clear hA hW; omega)
     | (
       refine wpIn_skip ?_
       refine blkN ?_
       have hJn := hv13t h16; rw [← tk_snoc hy8] at hJn
       exact ⟨_, ⟨k + 1, r14, hsny8, hlty8, by exact hJn, rfl⟩, (hW.pick [1, 2] (by decide) rfl).pickG [0, 1, 2, 3] rfl⟩)
 · skip
   clear hA ac hW; intro D17 xs_ Hk_ w18 ac hS_ hJ_ hA hW
   obtain ⟨k, r_, hpre_, hk_, hJ, rfl⟩ := hJ_
   have hke : k = l.length := by have := congrArg List.length (hS_.symm.trans hpre_); simp at this; omega
   clear hpre_ hS_
   replace hW : Ws w (· ∈ r0.fp) [r_, DefR D17] [Cel b1 #[Value.func (.yield l_) #[] #[]] 83, g5, Cel b #[Value.slice A l.length c] 78, roR A 8 enCell22 l] w18 := hW
   refine blkN ?_
   refine nogN ?_
   refine retF (.inr rfl) hA ?_
   refine leaveD (H' := [r_]) hW 1 rfl rfl ?_; clear hW; intro w19 hW
   refine leave0 (by rfl)  ?_
   clear hA
   rw [List.take_of_length_le (by omega)] at hJ; exact ranDone hW 0 rfl (.inl ⟨_, rfl, hJ⟩)
 · skip
   clear hA ac hW; intro D20 c_ pre_ Hk_ w21 ac hJ_ hA hW
   rcases hJ_ with ⟨rfl, q_, r_, hJx, rfl⟩
   · skip
     replace hW : Ws w (· ∈ r0.fp) [r_, DefR D20] [Cel b1 #[Value.func (.yield l_) #[] #[]] 83, g5, Cel b #[Value.slice A l.length c] 78, roR A 8 enCell22 l] w21 := hW
     refine wpIn_exit ?_
     refine blkX ?_
     refine nogN ?_
     refine retF (.inr rfl) hA ?_
     refine leaveD (H' := [r_]) hW 1 rfl rfl ?_; clear hW; intro w22 hW
     refine leave0 (by rfl)  ?_
     clear hA
     exact ranDone hW 0 rfl (.inr ⟨_, hJx⟩)

set_option maxRecDepth 100000 in
theorem e_sall (m : Nat) (b : Nat) (V : VT22) (w : World) (ho_p : (ShR m b V).p w) (hl_p : ∀ x_ ∈ (ShR m b V).fp, x_ < w.heap.size) (hl : V.length < 50) (hh : ∀ e ∈ V, 0 ≤ e.1 ∧ e.1 ≤ 1048575) : Calls Try.prog 18 #[Value.pointer (some ⟨m, 0, none⟩)] w (fun e w' => ∃ (lb : Array Value) (g : Res), e = .returned (Value.func (.func 37) #[] lb) ∧ Iter Try.prog 37 lb (fun x_ : Cell22 => #[Value.int .u32 x_.addr, x_.x.v]) (fun l_ : List Cell22 => ∃ ks : List Int, ks.Perm (keys (vals V)) ∧ (ks.Pairwise fun x y => x ≤ y) ∧ l_ = gathOf pAll (vals V) ks) [g] ∧ g.from_ [] w w' ∧ Fr No w w') := by
 have _hu := ho_p; have _hv := hl_p; clear _hu _hv
 have _hu := hl; clear _hu
 have _hu := hh; clear _hu
 refine enter_E 7 Try.func18 rfl rfl (by kernel_rfl) (L := [(0, Value.pointer (some ⟨m, 0, none⟩))]) (by kernel_rfl) ?_
 intro ac hA
 have hW := Ws.start w No
 have hW := hW.addG (ShR m b V) ho_p hl_p (by simp)
 clear ho_p hl_p
 refine wp_seq ?_
 refine wp_region_lit ?_
 refine st_p (Value.nilFunc) hA ?_; clear hA ac; intro ac hA
 refine wpList_nil ?_
 refine thenN ?_
 refine wp_seq ?_
 refine wp_region_lit ?_
 refine st_p (Value.pointer (some ⟨m, 0, none⟩)) hA ?_; clear hA ac; intro ac hA
 refine st_s hA (Runs.call (fun _ => by kernel_rfl) (e_gathA m b V w ((hW).getG 0 rfl) ((hW).glt _ (List.mem_of_getElem? (i := 0) rfl)) (by first | omega | assumption) (by first | omega | assumption)) ?_)
 rintro _ w1 ⟨g2, g3, Ao4, co5, rfl, hw1_hp, hw1_hs, hw1_hO, hcco5, hu_⟩; refine ⟨_, rfl, ?_⟩; replace hW := hW.made hu_; clear hA ac; intro ac hA
 refine st_s hA (Runs.cells (fun b => Value.pointer (some ⟨b, 0, none⟩)) #[Value.slice none 0 0] 78 (fun _ => by kernel_rfl) hW ?_); clear hA ac hW; intro b7 w8 hW hb7 hfw8 ac hA
 refine st_s hA (Runs.store (v := Value.slice Ao4 (g3).length co5) (b := b7) (j := 0) (n := 1) (cs' := #[Value.slice Ao4 (g3).length co5]) (H' := [Cel b7 #[Value.slice Ao4 (g3).length co5] 78, rowR 81 8 enCell22 (Value.slice Ao4 (g3).length co5) g3]) (by kernel_rfl) (by kernel_rfl) (by kernel_rfl) (by kernel_rfl) (by kernel_rfl) hW 0 (by rfl) (Nat.le_of_ble_eq_true (by kernel_rfl)) (by kernel_rfl) (by rfl) ?_); clear hA ac hW; intro w9 hW ac hA
 refine wpList_nil ?_
 refine thenN ?_
 refine wp_seq ?_
 refine wp_region_lit ?_
 refine st_p (Value.func (.func 37) #[] #[Value.pointer (some ⟨b7, 0, none⟩)]) hA ?_; clear hA ac; intro ac hA
 refine st_p (Value.func (.func 37) #[] #[Value.pointer (some ⟨b7, 0, none⟩)]) hA ?_; clear hA ac; intro ac hA
 refine wpList_nil ?_
 refine thenN ?_
 refine wp_ret ?_
 refine ret1 (v := Value.func (.func 37) #[] #[Value.pointer (some ⟨b7, 0, none⟩)]) (by rfl) hA (Got.tmp hA (by kernel_rfl) (by kernel_rfl)) ?_
 clear hA
 have hkl_ : g3.length ≤ 500000 := by rw [hw1_hO]; have h1_ := gathOf_len pAll (vals V) g2; have h2_ := hw1_hp.length_eq; simp only [keys, List.length_map] at h2_; rw [vals_len] at h2_; omega
 exact ⟨_, _, rfl, iter_weak (iter_many (it_37 b7 _ _ g3 (own_cap (hW.get 1 rfl)) (by omega))) ⟨g2, hw1_hp, hw1_hs, hw1_hO⟩, from_many (froms_cons (hW.outOwn 0 rfl (fun _ h => h)) (froms_cons (hW.outRow 1 rfl elt_Cell22.len (fun _ h => h)) froms_nil)), hW.fr⟩

set_option maxHeartbeats 4000000 in
set_option maxRecDepth 100000 in
theorem e_scopy (m : Nat) (b : Nat) (V : VT22) (w : World) (ho_p : (ShR m b V).p w) (hl_p : ∀ x_ ∈ (ShR m b V).fp, x_ < w.heap.size) (hn : (keys (vals V)).Nodup) : Calls Try.prog 15 #[Value.pointer (some ⟨m, 0, none⟩)] w (fun e w' => ∃ np : Nat, ∃ nb : Nat, ∃ V' : VT22, e = .returned (Value.pointer (some ⟨np, 0, none⟩)) ∧ ((vals V').Perm (vals V)) ∧ Made (ShR np nb V') w w') := by
 have _hu := ho_p; have _hv := hl_p; clear _hu _hv
 have _hu := hn; clear _hu
 refine enter_E 29 Try.func15 rfl rfl (by kernel_rfl) (L := [(0, Value.pointer (some ⟨m, 0, none⟩))]) (by kernel_rfl) ?_
 intro ac hA
 have hW := Ws.start w No
 have hW := hW.addG (ShR m b V) ho_p hl_p (by simp)
 have hW := hW.objG (L := [Cel m #[Value.map (some b)] 55, mapR b (fun a : Int => Value.int .u32 a) (fun x_ : Nat => Value.pointer (some ⟨x_, 0, none⟩)) (outs V), SubR (fun (c_ : Nat → Shade) (b_ : Nat) => PsR 4096 enShade 67 c_ b_) V]) ho_p hl_p
 clear ho_p hl_p
 refine wp_seq ?_
 refine wp_region_lit ?_
 refine st_p (Value.pointer none) hA ?_; clear hA ac; intro ac hA
 refine wpList_nil ?_
 refine thenN ?_
 refine wp_seq ?_
 refine wp_seq ?_
 refine wp_region_lit ?_
 refine st_p (Value.pointer (some ⟨m, 0, none⟩)) hA ?_; clear hA ac; intro ac hA
 refine st_s hA (Runs.callS (v := Value.bool false) (fun _ => by kernel_rfl) (e_snone m b w (show _ = _ from (hW).getG 0 rfl)) ?_); clear hA ac; intro  ac hA
 refine wpList_nil ?_
 refine thenN ?_
 refine wp_cond_false (hA.eval (by kernel_rfl)) ?_
 refine wp_skip ?_
 refine thenN ?_
 refine wp_seq ?_
 refine wp_region_lit ?_
 refine st_s hA (Runs.call (fun _ => by kernel_rfl) (e_snew w) ?_)
 rintro _ w1 ⟨n2, n3, rfl, hu_⟩; refine ⟨_, rfl, ?_⟩; replace hW := hW.made hu_; clear hA ac; intro ac hA
 refine st_p (Value.pointer (some ⟨n2, 0, none⟩)) hA ?_; clear hA ac; intro ac hA
 refine wpList_nil ?_
 refine thenN ?_
 refine wp_seq ?_
 refine wp_seq ?_
 refine wp_region_lit ?_
 refine st_p (Value.pointer (some ⟨m, 0, none⟩)) hA ?_; clear hA ac; intro ac hA
 refine st_p (Value.pointer (some ⟨m, 0, none⟩)) hA ?_; clear hA ac; intro ac hA
 refine st_p (Value.pointer (some ⟨m, 0, none⟩)) hA ?_; clear hA ac; intro ac hA
 refine st_q (Value.map (some b)) hA hW.cls (Rd.load (b := m) (i := 0) (by kernel_rfl) (fun _ hw => show _ = _ from (hw.1).getG 0 rfl) (by kernel_rfl)) ?_; clear hA ac; intro ac hA
 refine st_s hA (Runs.range (k := 35) (e := 65) (ek := (fun a : Int => Value.int .u32 a)) (ev := (fun x_ : Nat => Value.pointer (some ⟨x_, 0, none⟩))) (m := (outs V)) (by kernel_rfl) (by kernel_rfl) hW 1 rfl ?_); clear hA ac hW; intro r4 es5 ck6 w7 hnr4 hW hfw7 ac hA
 refine wpList_nil ?_
 refine thenN ?_
 refine wp_block ?_
 have hW : Ws w No [Cel n2 #[Value.map (some n3)] 55, mapR n3 (fun a : Int => Value.int .u32 a) (fun x_ : Nat => Value.pointer (some ⟨x_, 0, none⟩)) (outs ([] : VT22)), SubR (fun (c_ : Nat → Shade) (b_ : Nat) => PsR 4096 enShade 67 c_ b_) ([] : VT22), IterX r4 b es5 ck6 (fun a : Int => Value.int .u32 a) (fun x_ : Nat => Value.pointer (some ⟨x_, 0, none⟩)) (outs V) none] [MapX b es5 ck6, Cel m #[Value.map (some b)] 55, mapR b (fun a : Int => Value.int .u32 a) (fun x_ : Nat => Value.pointer (some ⟨x_, 0, none⟩)) (outs V), SubR (fun (c_ : Nat → Shade) (b_ : Nat) => PsR 4096 enShade 67 c_ b_) V, ShR m b V] w7 := Ws.unpack (hW.pick [1, 0] (by decide) rfl)
 refine wp_loop_m (fun m_ ac_ wl_ => ∃ Vl : VT22, ∃ W : VT22, ∃ cur : Option (Int × Nat), m_ = Vl.length ∧ ((vals W ++ vals Vl).Perm (vals V)) ∧ (∀ e ∈ Vl, e ∈ V) ∧ Fm 29 [] [(0, Value.pointer (some ⟨m, 0, none⟩)), (3, Value.pointer (some ⟨n2, 0, none⟩)), (14, Value.pointer (some ⟨r4, 0, none⟩))] ac_ ∧ Ws w No [Cel n2 #[Value.map (some n3)] 55, mapR n3 (fun a : Int => Value.int .u32 a) (fun x_ : Nat => Value.pointer (some ⟨x_, 0, none⟩)) (outs W), SubR (fun (c_ : Nat → Shade) (b_ : Nat) => PsR 4096 enShade 67 c_ b_) W, IterX r4 b es5 ck6 (fun a : Int => Value.int .u32 a) (fun x_ : Nat => Value.pointer (some ⟨x_, 0, none⟩)) (outs Vl) cur] [MapX b es5 ck6, Cel m #[Value.map (some b)] 55, mapR b (fun a : Int => Value.int .u32 a) (fun x_ : Nat => Value.pointer (some ⟨x_, 0, none⟩)) (outs V), SubR (fun (c_ : Nat → Shade) (b_ : Nat) => PsR 4096 enShade 67 c_ b_) V, ShR m b V] wl_) _ ⟨V, [], none, rfl, by exact List.Perm.refl _, by exact fun _ h => h, hA.sub ⟨⟨by kernel_rfl, by kernel_rfl⟩, ⟨by kernel_rfl, by kernel_rfl⟩, ⟨by kernel_rfl, by kernel_rfl⟩, trivial⟩, (hW.pick [0, 1, 2, 3] (by decide) rfl).pickG [0, 1, 2, 3, 4] rfl⟩ ?_
 clear hA ac hW; rintro m_ ac w8 ⟨Vl, W, cur, rfl, hp, hsub, hA, hW⟩
 refine wp_seq ?_
 refine wp_region_lit ?_
 refine st_s hA ((Runs.next (ek := (fun a : Int => Value.int .u32 a)) (ev := (fun x_ : Nat => Value.pointer (some ⟨x_, 0, none⟩))) (r := r4) (b := b) (es := es5) (clock := ck6) (left := (outs Vl)) (cur := cur) (by kernel_rfl) hnr4 hW 3 0 rfl rfl ?_ ?_))
 · skip
   intro hdoner4 ac hA
   refine st_p (Value.bool false) hA ?_; clear hA ac; intro ac hA
   refine wpList_nil ?_
   refine thenN ?_
   refine wp_seq ?_
   refine wp_cond_false (hA.eval (by kernel_rfl)) ?_
   refine wp_exit ?_
   refine thenX ?_
   refine thenX ?_
   refine blkX ?_
   refine thenN ?_
   refine wp_seq ?_
   refine wp_region_lit ?_
   refine st_p (Value.pointer (some ⟨n2, 0, none⟩)) hA ?_; clear hA ac; intro ac hA
   refine st_p (Value.pointer (some ⟨n2, 0, none⟩)) hA ?_; clear hA ac; intro ac hA
   refine wpList_nil ?_
   refine thenN ?_
   refine wp_ret ?_
   refine ret1 (v := Value.pointer (some ⟨n2, 0, none⟩)) (by rfl) hA (Got.tmp hA (by kernel_rfl) (by kernel_rfl)) ?_
   clear hA
   have hVl := outs_nil hdoner4; subst hVl
   exact ⟨n2, n3, W, rfl, by exact (by simpa [vals] using hp), (Ws.pack (K := []) (show Ws w No ([Cel n2 #[Value.map (some n3)] 55, mapR n3 (fun a : Int => Value.int .u32 a) (fun x_ : Nat => Value.pointer (some ⟨x_, 0, none⟩)) (outs W), SubR (fun (c_ : Nat → Shade) (b_ : Nat) => PsR 4096 enShade 67 c_ b_) W] ++ []) [MapX b es5 ck6, Cel m #[Value.map (some b)] 55, mapR b (fun a : Int => Value.int .u32 a) (fun x_ : Nat => Value.pointer (some ⟨x_, 0, none⟩)) (outs V), SubR (fun (c_ : Nat → Shade) (b_ : Nat) => PsR 4096 enShade 67 c_ b_) V, ShR m b V] _ from hW.pick [0, 1, 2] (by decide) rfl)).madeDone 0 rfl⟩
 · skip
   clear hA ac; intro k9 y10 w11 hkk9 hW ac hA
   refine st_p (Value.bool true) hA ?_; clear hA ac; intro ac hA
   refine wpList_nil ?_
   refine thenN ?_
   refine wp_seq ?_
   refine wp_cond_true (hA.eval (by kernel_rfl)) ?_
   refine wp_skip ?_
   refine thenN ?_
   refine wp_block ?_
   refine wp_seq ?_
   refine wp_region_lit ?_
   refine st_q (Value.tuple #[Value.int .u32 y10.1, Value.pointer (some ⟨y10.2, 0, none⟩)]) hA hW.cls (Rd.entry (ek := (fun a : Int => Value.int .u32 a)) (ev := (fun x_ : Nat => Value.pointer (some ⟨x_, 0, none⟩))) (r := r4) (b := b) (es := es5) (clock := ck6) (left := (List.eraseIdx (outs Vl) k9)) (y := y10) (by kernel_rfl) hnr4 (fun _ hw => show _ = _ from (hw.1).getG 0 rfl) (fun _ hw => (hw.1).get 3 rfl)) ?_; clear hA ac; intro ac hA
   refine st_p (Value.int .u32 y10.1) hA ?_; clear hA ac; intro ac hA
   refine st_p (Value.pointer (some ⟨y10.2, 0, none⟩)) hA ?_; clear hA ac; intro ac hA
   refine st_p (Value.int .u32 y10.1) hA ?_; clear hA ac; intro ac hA
   refine st_p (Value.pointer (some ⟨y10.2, 0, none⟩)) hA ?_; clear hA ac; intro ac hA
   refine wpList_nil ?_
   refine thenN ?_
   refine wp_seq ?_
   obtain ⟨c12, hcc12⟩ := outs_get hkk9
   obtain ⟨iv_c12, hvc12⟩ := List.getElem?_of_mem (hsub _ (List.mem_of_getElem? hcc12))
   have hW := hW.subG 3 rfl hvc12
   replace hW : Ws w No [Cel n2 #[Value.map (some n3)] 55, mapR n3 (fun a : Int => Value.int .u32 a) (fun x_ : Nat => Value.pointer (some ⟨x_, 0, none⟩)) (outs W), SubR (fun (c_ : Nat → Shade) (b_ : Nat) => PsR 4096 enShade 67 c_ b_) W, IterX r4 b es5 ck6 (fun a : Int => Value.int .u32 a) (fun x_ : Nat => Value.pointer (some ⟨x_, 0, none⟩)) (List.eraseIdx (outs Vl) k9) (some y10)] [PsR 4096 enShade 67 c12 y10.2, MapX b es5 ck6, Cel m #[Value.map (some b)] 55, mapR b (fun a : Int => Value.int .u32 a) (fun x_ : Nat => Value.pointer (some ⟨x_, 0, none⟩)) (outs V), SubR (fun (c_ : Nat → Shade) (b_ : Nat) => PsR 4096 enShade 67 c_ b_) V, ShR m b V] w11 := hW
   refine wp_region_lit ?_
   refine st_p (Value.pointer (some ⟨y10.2, 0, none⟩)) hA ?_; clear hA ac; intro ac hA
   refine st_p (Value.pointer (some ⟨y10.2, 0, none⟩)) hA ?_; clear hA ac; intro ac hA
   refine st_q (Value.agg (pgB 4096 enShade c12)) hA hW.cls (Rd.load (b := y10.2) (i := 0) (by kernel_rfl) (fun _ hw => show _ = _ from (hw.1).getG 0 rfl) (ldv_pageB (e := 31) elt_Shade.len (by kernel_rfl) (by kernel_rfl))) ?_; clear hA ac; intro ac hA
   refine st_s hA (Runs.cells (fun b => Value.pointer (some ⟨b, 0, none⟩)) (pgB 4096 enShade (fun _ => (⟨0, ⟨0, 0⟩, 0, ⟨0, 0⟩, 0⟩ : Shade))) 67 (fun _ => by kernel_rfl) hW ?_); clear hA ac hW; intro b13 w14 hW hb13 hfw14 ac hA
   refine st_s hA (Runs.storePsAll (sz := 7) (n := 4096) (en := enShade) (f := c12) (g := (fun _ => (⟨0, ⟨0, 0⟩, 0, ⟨0, 0⟩, 0⟩ : Shade))) (b := b13) elt_Shade.len elt_Shade.one (by kernel_rfl) (by kernel_rfl) (by kernel_rfl) hW 0 rfl (H' := [PsR 4096 enShade 67 c12 b13, Cel n2 #[Value.map (some n3)] 55, mapR n3 (fun a : Int => Value.int .u32 a) (fun x_ : Nat => Value.pointer (some ⟨x_, 0, none⟩)) (outs W), SubR (fun (c_ : Nat → Shade) (b_ : Nat) => PsR 4096 enShade 67 c_ b_) W, IterX r4 b es5 ck6 (fun a : Int => Value.int .u32 a) (fun x_ : Nat => Value.pointer (some ⟨x_, 0, none⟩)) (List.eraseIdx (outs Vl) k9) (some y10)]) rfl ?_); clear hA ac hW; intro w15 hW ac hA
   refine wpList_nil ?_
   refine thenN ?_
   refine wp_region_lit ?_
   refine st_p (Value.pointer (some ⟨n2, 0, none⟩)) hA ?_; clear hA ac; intro ac hA
   refine st_p (Value.pointer (some ⟨n2, 0, none⟩)) hA ?_; clear hA ac; intro ac hA
   refine st_p (Value.pointer (some ⟨n2, 0, none⟩)) hA ?_; clear hA ac; intro ac hA
   refine st_q (Value.map (some n3)) hA hW.cls (Rd.load (b := n2) (i := 0) (by kernel_rfl) (fun _ hw => (hw.1).cel 1 rfl) (by kernel_rfl)) ?_; clear hA ac; intro ac hA
   refine st_p (Value.int .u32 y10.1) hA ?_; clear hA ac; intro ac hA
   refine st_s hA (Runs.mapUpdate (k := 35) (e := 65) (ek := (fun a : Int => Value.int .u32 a)) (ev := (fun x_ : Nat => Value.pointer (some ⟨x_, 0, none⟩))) (m := (outs W)) (y10.1 : Int) b13 (by kernel_rfl) (by kernel_rfl) (by kernel_rfl) (KeyE.int (by kernel_rfl)) (by kernel_rfl) hW (i := 2) rfl ?_); clear hA ac hW; intro w16 hW ac hA
   refine wpList_nil ?_
   refine blkN ?_
   refine thenN ?_
   have hno := copy_new hn hp hcc12; have hstep := copy_step (b := b13) hp hcc12; have hlt_ := er_len_ hcc12
   rw [put_end hno, ← outs_snoc y10.1 b13 c12] at hW
   have hW := Ws.subAdd (f := (fun (c_ : Nat → Shade) (b_ : Nat) => PsR 4096 enShade 67 c_ b_)) (hW.pick [0, 3, 1, 2, 4] (by decide) rfl) y10.1
   replace hW : Ws w No [SubR (fun (c_ : Nat → Shade) (b_ : Nat) => PsR 4096 enShade 67 c_ b_) (W ++ [(y10.1, b13, c12)]), Cel n2 #[Value.map (some n3)] 55, mapR n3 (fun a : Int => Value.int .u32 a) (fun x_ : Nat => Value.pointer (some ⟨x_, 0, none⟩)) (outs (W ++ [(y10.1, b13, c12)])), IterX r4 b es5 ck6 (fun a : Int => Value.int .u32 a) (fun x_ : Nat => Value.pointer (some ⟨x_, 0, none⟩)) (List.eraseIdx (outs Vl) k9) (some y10)] [PsR 4096 enShade 67 c12 y10.2, MapX b es5 ck6, Cel m #[Value.map (some b)] 55, mapR b (fun a : Int => Value.int .u32 a) (fun x_ : Nat => Value.pointer (some ⟨x_, 0, none⟩)) (outs V), SubR (fun (c_ : Nat → Shade) (b_ : Nat) => PsR 4096 enShade 67 c_ b_) V, ShR m b V] w16 := hW
   rw [← outs_erase] at hW
   exact ⟨(List.eraseIdx Vl k9).length, by omega, List.eraseIdx Vl k9, W ++ [(y10.1, b13, c12)], (some y10), rfl, by exact hstep, by exact fun e he => hsub e (List.eraseIdx_subset he), hA.sub ⟨⟨by kernel_rfl, by kernel_rfl⟩, ⟨by kernel_rfl, by kernel_rfl⟩, ⟨by kernel_rfl, by kernel_rfl⟩, trivial⟩, (hW.pick [1, 2, 0, 3] (by decide) rfl).pickG [1, 2, 3, 4, 5] rfl⟩

set_option maxRecDepth 100000 in
theorem e_ssame1 (p : Nat) (f : Nat → Shade) (q : Nat) (g : Nat → Shade) (w : World) (ho_p : w.heap[p]? = some (.cells (pgB 4096 enShade f) 67 (0, 0))) (ho_q : w.heap[q]? = some (.cells (pgB 4096 enShade g) 67 (0, 0))) : Calls Try.prog 34 #[Value.pointer (some ⟨p, 0, none⟩), Value.pointer (some ⟨q, 0, none⟩)] w (fun e w' => e = .returned (Value.bool (psEq 4096 f g)) ∧ Fr No w w') := by
 have _hu := ho_p; clear _hu
 have _hu := ho_q; clear _hu
 refine enter_E 12 Try.func34 rfl rfl (by kernel_rfl) (L := [(0, Value.pointer (some ⟨p, 0, none⟩)), (1, Value.pointer (some ⟨q, 0, none⟩))]) (by kernel_rfl) ?_
 intro ac hA
 have hW := Ws.start w No
 have hW := hW.celG ho_p
 have hW := hW.celG ho_q
 refine wp_seq ?_
 refine wp_region_lit ?_
 refine st_p (Value.bool false) hA ?_; clear hA ac; intro ac hA
 refine wpList_nil ?_
 refine thenN ?_
 refine wp_seq ?_
 refine q_region (by kernel_rfl) (by kernel_rfl) hW ?_
 refine sq_p (Value.pointer (some ⟨p, 0, none⟩)) hA ?_; clear hA ac; intro ac hA
 refine sq_p (Value.pointer (some ⟨p, 0, none⟩)) hA ?_; clear hA ac; intro ac hA
 refine sq_q (Value.agg (pgB 4096 enShade f)) hA (Rd.load (b := p) (i := 0) (by kernel_rfl) (fun _ hw => show _ = _ from (hw.1).getG 1 rfl) (ldv_pageB (e := 31) elt_Shade.len (by kernel_rfl) (by kernel_rfl))) ?_; clear hA ac; intro ac hA
 refine sq_p (Value.pointer (some ⟨q, 0, none⟩)) hA ?_; clear hA ac; intro ac hA
 refine sq_p (Value.pointer (some ⟨q, 0, none⟩)) hA ?_; clear hA ac; intro ac hA
 refine sq_q (Value.agg (pgB 4096 enShade g)) hA (Rd.load (b := q) (i := 0) (by kernel_rfl) (fun _ hw => show _ = _ from (hw.1).getG 0 rfl) (ldv_pageB (e := 31) elt_Shade.len (by kernel_rfl) (by kernel_rfl))) ?_; clear hA ac; intro ac hA
 refine sq_q (Value.bool (psEq 4096 f g)) hA (Rd.eqS (u := Value.agg (pgB 4096 enShade f)) (v := Value.agg (pgB 4096 enShade g)) (by kernel_rfl) (by kernel_rfl) rfl rfl (by kernel_rfl) (fun w => run_pageB_eq (e := 31) (F := Try.prog.fieldsOf 31) elt_Shade.len 9998 (by kernel_rfl) (by kernel_rfl) (fun _ => by kernel_rfl) (fun a b w => eqIn_Shade 9996 a b w) w)) ?_; clear hA ac; intro ac hA
 refine sq_p (Value.bool (psEq 4096 f g)) hA ?_; clear hA ac; intro ac hA
 refine sq_nil ?_; intro w1 hww1; have hW := hww1.1; have hfw1 := hww1.2; clear hww1
 refine thenN ?_
 refine wp_ret ?_
 refine ret1 (v := Value.bool (psEq 4096 f g)) (by rfl) hA (Got.tmp hA (by kernel_rfl) (by kernel_rfl)) ?_
 clear hA
 exact ⟨retv (by rfl), hW.fr⟩

set_option maxRecDepth 100000 in
theorem e_equalFunc (b : Nat) (V : VT22) (b2 : Nat) (W : VT22) (w : World) (ho_x : (mapR b (fun a : Int => Value.int .u32 a) (fun x_ : Nat => Value.pointer (some ⟨x_, 0, none⟩)) (outs V)).p w) (hs_x : (SubR (fun (c_ : Nat → Shade) (b_ : Nat) => PsR 4096 enShade 67 c_ b_) V).p w) (hl_x : ∀ x_ ∈ (SubR (fun (c_ : Nat → Shade) (b_ : Nat) => PsR 4096 enShade 67 c_ b_) V).fp, x_ < w.heap.size) (ho_y : (mapR b2 (fun a : Int => Value.int .u32 a) (fun x_ : Nat => Value.pointer (some ⟨x_, 0, none⟩)) (outs W)).p w) (hs_y : (SubR (fun (c_ : Nat → Shade) (b_ : Nat) => PsR 4096 enShade 67 c_ b_) W).p w) (hl_y : ∀ x_ ∈ (SubR (fun (c_ : Nat → Shade) (b_ : Nat) => PsR 4096 enShade 67 c_ b_) W).fp, x_ < w.heap.size) (hl : V.length ≤ 100000 ∧ W.length ≤ 100000) : Calls Try.prog 33 #[Value.map (some b), Value.map (some b2), Value.func (.func 34) #[] #[]] w (fun e w' => e = .returned (Value.bool (vEq (vals V) (vals W))) ∧ Fr No w w') := by
 have _hu := ho_x; clear _hu
 have _hu := ho_y; clear _hu
 have _hu := hl; clear _hu
 refine enter_E 38 Try.func33 rfl rfl (by kernel_rfl) (L := [(0, Value.map (some b)), (1, Value.map (some b2)), (2, Value.func (.func 34) #[] #[])]) (by kernel_rfl) ?_
 intro ac hA
 have hW := Ws.start w No
 have hW := hW.mapG ho_x
 have hW := hW.addG (SubR (fun (c_ : Nat → Shade) (b_ : Nat) => PsR 4096 enShade 67 c_ b_) V) hs_x hl_x (by simp)
 have hW := hW.mapG ho_y
 have hW := hW.addG (SubR (fun (c_ : Nat → Shade) (b_ : Nat) => PsR 4096 enShade 67 c_ b_) W) hs_y hl_y (by simp)
 refine wp_seq ?_
 refine wp_region_lit ?_
 refine st_p (Value.bool false) hA ?_; clear hA ac; intro ac hA
 refine wpList_nil ?_
 refine thenN ?_
 refine wp_seq ?_
 refine wp_seq ?_
 have hoV := outs_len (V := V); have hoW := outs_len (V := W)
 refine wp_region_lit ?_
 refine st_p (Value.map (some b)) hA ?_; clear hA ac; intro ac hA
 refine st_q (Value.int .i64 (((outs V).length : Nat) : Int)) hA hW.cls (Rd.mapLen (k := 35) (e := 65) (ek := (fun a : Int => Value.int .u32 a)) (ev := (fun x_ : Nat => Value.pointer (some ⟨x_, 0, none⟩))) (m := (outs V)) (by kernel_rfl) (by kernel_rfl) (fun _ hw => (hw.1).getG 3 rfl)) ?_; clear hA ac; intro ac hA
 refine st_p (Value.map (some b2)) hA ?_; clear hA ac; intro ac hA
 refine st_q (Value.int .i64 (((outs W).length : Nat) : Int)) hA hW.cls (Rd.mapLen (k := 35) (e := 65) (ek := (fun a : Int => Value.int .u32 a)) (ev := (fun x_ : Nat => Value.pointer (some ⟨x_, 0, none⟩))) (m := (outs W)) (by kernel_rfl) (by kernel_rfl) (fun _ hw => (hw.1).getG 1 rfl)) ?_; clear hA ac; intro ac hA
 refine st_p (Value.bool (((((outs V).length : Nat) : Int) : Int) != ((((outs W).length : Nat) : Int) : Int))) hA ?_; clear hA ac; intro ac hA
 refine wpList_nil ?_
 refine thenN ?_
 refine wp_cond_split (t := ((((outs V).length : Nat) : Int) : Int) != ((((outs W).length : Nat) : Int) : Int)) (hA.eval (by kernel_rfl)) (fun h1 => ?_) (fun h1 => ?_)
 · skip
   have h1 := bne_iff_ne.1 h1
   first
   | (exfalso; clear hA hW; omega)
   | (
     refine wp_seq ?_
     refine wp_region_lit ?_
     refine st_p (Value.bool false) hA ?_; clear hA ac; intro ac hA
     refine wpList_nil ?_
     refine thenN ?_
     refine wp_ret ?_
     refine thenR ?_
     refine ret1 (v := Value.bool false) (by rfl) hA (Got.tmp hA (by kernel_rfl) (by kernel_rfl)) ?_
     clear hA
     exact ⟨retv (congrArg Value.bool (vEq_len (by omega)).symm), hW.fr⟩)
 · skip
   have h1 := of_bne_f h1
   first
   | (exfalso; clear hA hW; omega)
   | (
     refine wp_skip ?_
     refine thenN ?_
     refine wp_seq ?_
     refine wp_seq ?_
     refine wp_region_lit ?_
     refine st_p (Value.map (some b)) hA ?_; clear hA ac; intro ac hA
     refine st_s hA (Runs.range (k := 35) (e := 65) (ek := (fun a : Int => Value.int .u32 a)) (ev := (fun x_ : Nat => Value.pointer (some ⟨x_, 0, none⟩))) (m := (outs V)) (by kernel_rfl) (by kernel_rfl) hW 3 rfl ?_); clear hA ac hW; intro r2 es3 ck4 w5 hnr2 hW hfw5 ac hA
     refine wpList_nil ?_
     refine thenN ?_
     refine wp_block ?_
     refine wp_loop_m (fun m_ ac_ wl_ => ∃ Vl : VT22, ∃ cur : Option (Int × Nat), m_ = Vl.length ∧ (∀ e ∈ Vl, e ∈ V) ∧ (∀ e ∈ V, e ∈ Vl ∨ vEq1 (vals W) (e.1, e.2.2) = true) ∧ Fm 38 [] [(0, Value.map (some b)), (1, Value.map (some b2)), (2, Value.func (.func 34) #[] #[]), (17, Value.pointer (some ⟨r2, 0, none⟩))] ac_ ∧ Ws w No [IterX r2 b es3 ck4 (fun a : Int => Value.int .u32 a) (fun x_ : Nat => Value.pointer (some ⟨x_, 0, none⟩)) (outs Vl) cur] [MapX b es3 ck4, SubR (fun (c_ : Nat → Shade) (b_ : Nat) => PsR 4096 enShade 67 c_ b_) W, mapR b2 (fun a : Int => Value.int .u32 a) (fun x_ : Nat => Value.pointer (some ⟨x_, 0, none⟩)) (outs W), SubR (fun (c_ : Nat → Shade) (b_ : Nat) => PsR 4096 enShade 67 c_ b_) V, mapR b (fun a : Int => Value.int .u32 a) (fun x_ : Nat => Value.pointer (some ⟨x_, 0, none⟩)) (outs V)] wl_) _ ⟨V, none, rfl, by exact fun _ hx => hx, by exact fun _ hx => .inl hx, hA.sub ⟨⟨by kernel_rfl, by kernel_rfl⟩, ⟨by kernel_rfl, by kernel_rfl⟩, ⟨by kernel_rfl, by kernel_rfl⟩, ⟨by kernel_rfl, by kernel_rfl⟩, trivial⟩, (hW.pick [0] (by decide) rfl).pickG [0, 1, 2, 3, 4] rfl⟩ ?_
     clear hA ac hW; rintro m_ ac w6 ⟨Vl, cur, rfl, hsub, hdn, hA, hW⟩
     refine wp_seq ?_
     refine wp_region_lit ?_
     refine st_s hA ((Runs.next (ek := (fun a : Int => Value.int .u32 a)) (ev := (fun x_ : Nat => Value.pointer (some ⟨x_, 0, none⟩))) (r := r2) (b := b) (es := es3) (clock := ck4) (left := (outs Vl)) (cur := cur) (by kernel_rfl) hnr2 hW 0 0 rfl rfl ?_ ?_))
     · skip
       intro hdoner2 ac hA
       refine st_p (Value.bool false) hA ?_; clear hA ac; intro ac hA
       refine wpList_nil ?_
       refine thenN ?_
       refine wp_seq ?_
       refine wp_cond_false (hA.eval (by kernel_rfl)) ?_
       refine wp_exit ?_
       refine thenX ?_
       refine thenX ?_
       refine blkX ?_
       refine thenN ?_
       refine wp_seq ?_
       refine wp_region_lit ?_
       refine st_p (Value.bool true) hA ?_; clear hA ac; intro ac hA
       refine wpList_nil ?_
       refine thenN ?_
       refine wp_ret ?_
       refine ret1 (v := Value.bool true) (by rfl) hA (Got.tmp hA (by kernel_rfl) (by kernel_rfl)) ?_
       clear hA
       refine ⟨retv (congrArg Value.bool (vEq_yes (by omega) ?_).symm), hW.fr⟩; have hVl := outs_nil hdoner2; subst hVl; exact fun e he => (hdn e he).resolve_left (by simp)
     · skip
       clear hA ac; intro k7 y8 w9 hkk7 hW ac hA
       refine st_p (Value.bool true) hA ?_; clear hA ac; intro ac hA
       refine wpList_nil ?_
       refine thenN ?_
       refine wp_seq ?_
       refine wp_cond_true (hA.eval (by kernel_rfl)) ?_
       refine wp_skip ?_
       refine thenN ?_
       refine wp_block ?_
       refine wp_seq ?_
       refine wp_region_lit ?_
       refine st_q (Value.tuple #[Value.int .u32 y8.1, Value.pointer (some ⟨y8.2, 0, none⟩)]) hA hW.cls (Rd.entry (ek := (fun a : Int => Value.int .u32 a)) (ev := (fun x_ : Nat => Value.pointer (some ⟨x_, 0, none⟩))) (r := r2) (b := b) (es := es3) (clock := ck4) (left := (List.eraseIdx (outs Vl) k7)) (y := y8) (by kernel_rfl) hnr2 (fun _ hw => show _ = _ from (hw.1).getG 0 rfl) (fun _ hw => (hw.1).get 0 rfl)) ?_; clear hA ac; intro ac hA
       refine st_p (Value.int .u32 y8.1) hA ?_; clear hA ac; intro ac hA
       refine st_p (Value.pointer (some ⟨y8.2, 0, none⟩)) hA ?_; clear hA ac; intro ac hA
       refine st_p (Value.int .u32 y8.1) hA ?_; clear hA ac; intro ac hA
       refine st_p (Value.pointer (some ⟨y8.2, 0, none⟩)) hA ?_; clear hA ac; intro ac hA
       refine wpList_nil ?_
       refine thenN ?_
       refine wp_seq ?_
       obtain ⟨c10, hcc10⟩ := outs_get hkk7
       obtain ⟨iv_c10, hvc10⟩ := List.getElem?_of_mem (hsub _ (List.mem_of_getElem? hcc10))
       have hW := hW.subG 3 rfl hvc10
       replace hW : Ws w No [IterX r2 b es3 ck4 (fun a : Int => Value.int .u32 a) (fun x_ : Nat => Value.pointer (some ⟨x_, 0, none⟩)) (List.eraseIdx (outs Vl) k7) (some y8)] [PsR 4096 enShade 67 c10 y8.2, MapX b es3 ck4, SubR (fun (c_ : Nat → Shade) (b_ : Nat) => PsR 4096 enShade 67 c_ b_) W, mapR b2 (fun a : Int => Value.int .u32 a) (fun x_ : Nat => Value.pointer (some ⟨x_, 0, none⟩)) (outs W), SubR (fun (c_ : Nat → Shade) (b_ : Nat) => PsR 4096 enShade 67 c_ b_) V, mapR b (fun a : Int => Value.int .u32 a) (fun x_ : Nat => Value.pointer (some ⟨x_, 0, none⟩)) (outs V)] w9 := hW
       refine wp_region_lit ?_
       refine st_p (Value.map (some b2)) hA ?_; clear hA ac; intro ac hA
       refine st_p (Value.int .u32 y8.1) hA ?_; clear hA ac; intro ac hA
       rcases hk11 : look (outs W) (y8.1 : Int) with _ | bk12
       · skip
         first
         | (exfalso; clear hA hW; omega)
         | (
           refine st_q (Value.tuple #[Value.pointer none, Value.bool false]) hA hW.cls ((Rd.lookup (k := 35) (e := 65) (ek := (fun a : Int => Value.int .u32 a)) (ev := (fun x_ : Nat => Value.pointer (some ⟨x_, 0, none⟩))) (m := (outs W)) (z := Value.pointer none) (y8.1 : Int) true (by kernel_rfl) (by kernel_rfl) (KeyE.int (by kernel_rfl)) (by kernel_rfl) (fun _ => by kernel_rfl) (fun _ hw => (hw.1).getG 3 rfl)).cast (by rw [hk11]; rfl)) ?_; clear hA ac; intro ac hA
           refine st_p (Value.tuple #[Value.pointer none, Value.bool false]) hA ?_; clear hA ac; intro ac hA
           refine st_p (Value.pointer none) hA ?_; clear hA ac; intro ac hA
           refine st_p (Value.bool false) hA ?_; clear hA ac; intro ac hA
           refine st_p (Value.pointer none) hA ?_; clear hA ac; intro ac hA
           refine st_p (Value.bool false) hA ?_; clear hA ac; intro ac hA
           refine wpList_nil ?_
           refine thenN ?_
           refine wp_seq ?_
           refine wp_region_lit ?_
           refine st_p (Value.bool false) hA ?_; clear hA ac; intro ac hA
           refine st_p (Value.bool true) hA ?_; clear hA ac; intro ac hA
           refine st_p (Value.bool true) hA ?_; clear hA ac; intro ac hA
           refine st_k hA ?_; clear hA ac; intro ac hA
           refine st_k hA ?_; clear hA ac; intro ac hA
           refine st_k hA ?_; clear hA ac; intro ac hA
           refine st_k hA ?_; clear hA ac; intro ac hA
           refine st_k hA ?_; clear hA ac; intro ac hA
           refine st_p (Value.bool true) hA ?_; clear hA ac; intro ac hA
           refine wpList_nil ?_
           refine thenN ?_
           refine wp_cond_true (hA.eval (by kernel_rfl)) ?_
           refine wp_seq ?_
           refine wp_region_lit ?_
           refine st_p (Value.bool false) hA ?_; clear hA ac; intro ac hA
           refine wpList_nil ?_
           refine thenN ?_
           refine wp_ret ?_
           refine blkR ?_
           refine thenR ?_
           refine blkR ?_
           refine thenR ?_
           refine ret1 (v := Value.bool false) (by rfl) hA (Got.tmp hA (by kernel_rfl) (by kernel_rfl)) ?_
           clear hA
           exact ⟨retv (congrArg Value.bool (vEq_no (hsub _ (List.mem_of_getElem? hcc10)) (by unfold vEq1; rw [outs_none.1 hk11])).symm), hW.fr⟩)
       · skip
         first
         | (exfalso; clear hA hW; omega)
         | (
           obtain ⟨i13, c14, hi15, hv16⟩ := outs_at hk11
           have hW := hW.subG 2 rfl hi15
           replace hW : Ws w No [IterX r2 b es3 ck4 (fun a : Int => Value.int .u32 a) (fun x_ : Nat => Value.pointer (some ⟨x_, 0, none⟩)) (List.eraseIdx (outs Vl) k7) (some y8)] [PsR 4096 enShade 67 c14 bk12, PsR 4096 enShade 67 c10 y8.2, MapX b es3 ck4, SubR (fun (c_ : Nat → Shade) (b_ : Nat) => PsR 4096 enShade 67 c_ b_) W, mapR b2 (fun a : Int => Value.int .u32 a) (fun x_ : Nat => Value.pointer (some ⟨x_, 0, none⟩)) (outs W), SubR (fun (c_ : Nat → Shade) (b_ : Nat) => PsR 4096 enShade 67 c_ b_) V, mapR b (fun a : Int => Value.int .u32 a) (fun x_ : Nat => Value.pointer (some ⟨x_, 0, none⟩)) (outs V)] w9 := hW
           refine st_q (Value.tuple #[Value.pointer (some ⟨bk12, 0, none⟩), Value.bool true]) hA hW.cls ((Rd.lookup (k := 35) (e := 65) (ek := (fun a : Int => Value.int .u32 a)) (ev := (fun x_ : Nat => Value.pointer (some ⟨x_, 0, none⟩))) (m := (outs W)) (z := Value.pointer none) (y8.1 : Int) true (by kernel_rfl) (by kernel_rfl) (KeyE.int (by kernel_rfl)) (by kernel_rfl) (fun _ => by kernel_rfl) (fun _ hw => (hw.1).getG 4 rfl)).cast (by rw [hk11]; rfl)) ?_; clear hA ac; intro ac hA
           refine st_p (Value.tuple #[Value.pointer (some ⟨bk12, 0, none⟩), Value.bool true]) hA ?_; clear hA ac; intro ac hA
           refine st_p (Value.pointer (some ⟨bk12, 0, none⟩)) hA ?_; clear hA ac; intro ac hA
           refine st_p (Value.bool true) hA ?_; clear hA ac; intro ac hA
           refine st_p (Value.pointer (some ⟨bk12, 0, none⟩)) hA ?_; clear hA ac; intro ac hA
           refine st_p (Value.bool true) hA ?_; clear hA ac; intro ac hA
           refine wpList_nil ?_
           refine thenN ?_
           refine wp_seq ?_
           refine wp_region_lit ?_
           refine st_p (Value.bool true) hA ?_; clear hA ac; intro ac hA
           refine st_p (Value.bool false) hA ?_; clear hA ac; intro ac hA
           refine st_p (Value.bool false) hA ?_; clear hA ac; intro ac hA
           refine st_p (Value.func (.func 34) #[] #[]) hA ?_; clear hA ac; intro ac hA
           refine st_p (Value.pointer (some ⟨y8.2, 0, none⟩)) hA ?_; clear hA ac; intro ac hA
           refine st_p (Value.pointer (some ⟨bk12, 0, none⟩)) hA ?_; clear hA ac; intro ac hA
           refine st_s hA (Runs.callN (v := Value.bool (psEq 4096 c10 c14)) (fun _ => by kernel_rfl) hW (e_ssame1 y8.2 c10 bk12 c14 w9 (show _ = _ from (hW).getG 1 rfl) (show _ = _ from (hW).getG 0 rfl)) ?_); clear hA ac hW; intro w17 hW hfw17 ac hA
           refine st_p (Value.bool (!(psEq 4096 c10 c14))) hA ?_; clear hA ac; intro ac hA
           refine st_p (Value.bool (!(psEq 4096 c10 c14))) hA ?_; clear hA ac; intro ac hA
           refine wpList_nil ?_
           refine thenN ?_
           refine wp_cond_split (t := !(psEq 4096 c10 c14)) (hA.eval (by kernel_rfl)) (fun h18 => ?_) (fun h18 => ?_)
           · skip
             have h18 := not_t h18
             first
             | (exfalso; clear hA hW; omega)
             | (
               refine wp_seq ?_
               refine wp_region_lit ?_
               refine st_p (Value.bool false) hA ?_; clear hA ac; intro ac hA
               refine wpList_nil ?_
               refine thenN ?_
               refine wp_ret ?_
               refine blkR ?_
               refine thenR ?_
               refine blkR ?_
               refine thenR ?_
               refine ret1 (v := Value.bool false) (by rfl) hA (Got.tmp hA (by kernel_rfl) (by kernel_rfl)) ?_
               clear hA
               exact ⟨retv (congrArg Value.bool (vEq_no (hsub _ (List.mem_of_getElem? hcc10)) (by unfold vEq1; rw [hv16]; exact h18)).symm), hW.fr⟩)
           · skip
             have h18 := not_f h18
             first
             | (exfalso; clear hA hW; omega)
             | (
               refine wp_skip ?_
               refine blkN ?_
               refine thenN ?_
               have hlt_ := er_len_ hcc10; rw [← outs_erase] at hW
               exact ⟨(List.eraseIdx Vl k7).length, by omega, List.eraseIdx Vl k7, (some y8), rfl, by exact fun e he => hsub e (List.eraseIdx_subset he), by intro e he; rcases hdn e he with h_ | h_; (rcases mem_er hcc10 h_ with h_ | h_; (subst h_; exact .inr (by unfold vEq1; rw [hv16]; exact h18)); exact .inl h_); exact .inr h_, hA.sub ⟨⟨by kernel_rfl, by kernel_rfl⟩, ⟨by kernel_rfl, by kernel_rfl⟩, ⟨by kernel_rfl, by kernel_rfl⟩, ⟨by kernel_rfl, by kernel_rfl⟩, trivial⟩, (hW.pick [0] (by decide) rfl).pickG [2, 3, 4, 5, 6] rfl⟩)))

set_option maxRecDepth 100000 in
theorem e_ssame (m : Nat) (b : Nat) (V : VT22) (q : Nat) (b2 : Nat) (W : VT22) (w : World) (ho_p : (ShR m b V).p w) (hl_p : ∀ x_ ∈ (ShR m b V).fp, x_ < w.heap.size) (ho_q : (ShR q b2 W).p w) (hl_q : ∀ x_ ∈ (ShR q b2 W).fp, x_ < w.heap.size) (hl : V.length ≤ 100000 ∧ W.length ≤ 100000) : Calls Try.prog 17 #[Value.pointer (some ⟨m, 0, none⟩), Value.pointer (some ⟨q, 0, none⟩)] w (fun e w' => e = .returned (Value.bool (vEq (vals V) (vals W))) ∧ Fr No w w') := by
 have _hu := ho_p; have _hv := hl_p; clear _hu _hv
 have _hu := ho_q; have _hv := hl_q; clear _hu _hv
 have _hu := hl; clear _hu
 refine enter_E 26 Try.func17 rfl rfl (by kernel_rfl) (L := [(0, Value.pointer (some ⟨m, 0, none⟩)), (1, Value.pointer (some ⟨q, 0, none⟩))]) (by kernel_rfl) ?_
 intro ac hA
 have hW := Ws.start w No
 have hW := hW.objG (L := [Cel m #[Value.map (some b)] 55, mapR b (fun a : Int => Value.int .u32 a) (fun x_ : Nat => Value.pointer (some ⟨x_, 0, none⟩)) (outs V), SubR (fun (c_ : Nat → Shade) (b_ : Nat) => PsR 4096 enShade 67 c_ b_) V]) ho_p hl_p
 clear ho_p hl_p
 have hW := hW.objG (L := [Cel q #[Value.map (some b2)] 55, mapR b2 (fun a : Int => Value.int .u32 a) (fun x_ : Nat => Value.pointer (some ⟨x_, 0, none⟩)) (outs W), SubR (fun (c_ : Nat → Shade) (b_ : Nat) => PsR 4096 enShade 67 c_ b_) W]) ho_q hl_q
 clear ho_q hl_q
 refine wp_seq ?_
 refine wp_region_lit ?_
 refine st_p (Value.bool false) hA ?_; clear hA ac; intro ac hA
 refine wpList_nil ?_
 refine thenN ?_
 refine wp_seq ?_
 refine wp_seq ?_
 refine wp_region_lit ?_
 refine st_p (Value.pointer (some ⟨m, 0, none⟩)) hA ?_; clear hA ac; intro ac hA
 refine st_s hA (Runs.callS (v := Value.bool false) (fun _ => by kernel_rfl) (e_snone m b w (show _ = _ from (hW).getG 3 rfl)) ?_); clear hA ac; intro  ac hA
 refine st_p (Value.bool false) hA ?_; clear hA ac; intro ac hA
 refine st_p (Value.pointer (some ⟨q, 0, none⟩)) hA ?_; clear hA ac; intro ac hA
 refine st_s hA (Runs.callS (v := Value.bool false) (fun _ => by kernel_rfl) (e_snone q b2 w (show _ = _ from (hW).getG 0 rfl)) ?_); clear hA ac; intro  ac hA
 refine st_p (Value.bool false) hA ?_; clear hA ac; intro ac hA
 refine wpList_nil ?_
 refine thenN ?_
 refine wp_cond_false (hA.eval (by kernel_rfl)) ?_
 refine wp_skip ?_
 refine thenN ?_
 refine wp_seq ?_
 refine q_region (by kernel_rfl) (by kernel_rfl) hW ?_
 refine sq_p (Value.pointer (some ⟨m, 0, none⟩)) hA ?_; clear hA ac; intro ac hA
 refine sq_p (Value.pointer (some ⟨m, 0, none⟩)) hA ?_; clear hA ac; intro ac hA
 refine sq_p (Value.pointer (some ⟨m, 0, none⟩)) hA ?_; clear hA ac; intro ac hA
 refine sq_q (Value.map (some b)) hA (Rd.load (b := m) (i := 0) (by kernel_rfl) (fun _ hw => show _ = _ from (hw.1).getG 3 rfl) (by kernel_rfl)) ?_; clear hA ac; intro ac hA
 refine sq_p (Value.pointer (some ⟨q, 0, none⟩)) hA ?_; clear hA ac; intro ac hA
 refine sq_p (Value.pointer (some ⟨q, 0, none⟩)) hA ?_; clear hA ac; intro ac hA
 refine sq_p (Value.pointer (some ⟨q, 0, none⟩)) hA ?_; clear hA ac; intro ac hA
 refine sq_q (Value.map (some b2)) hA (Rd.load (b := q) (i := 0) (by kernel_rfl) (fun _ hw => show _ = _ from (hw.1).getG 0 rfl) (by kernel_rfl)) ?_; clear hA ac; intro ac hA
 refine sq_call (v := Value.bool (vEq (vals V) (vals W))) hA (by kernel_rfl) (by kernel_rfl) (by kernel_rfl) (fun _ => by kernel_rfl) (Cls.callNC fun wx hwx => e_equalFunc b V b2 W wx ((hwx.1).getG 4 rfl) ((hwx.1).getG 5 rfl) ((hwx.1).glt _ (List.mem_of_getElem? (i := 5) rfl)) ((hwx.1).getG 1 rfl) ((hwx.1).getG 2 rfl) ((hwx.1).glt _ (List.mem_of_getElem? (i := 2) rfl)) (by first | omega | assumption)) ?_; clear hA ac; intro ac hA
 refine sq_p (Value.bool (vEq (vals V) (vals W))) hA ?_; clear hA ac; intro ac hA
 refine sq_nil ?_; intro w1 hww1; have hW := hww1.1; have hfw1 := hww1.2; clear hww1
 refine thenN ?_
 refine wp_ret ?_
 refine ret1 (v := Value.bool (vEq (vals V) (vals W))) (by rfl) hA (Got.tmp hA (by kernel_rfl) (by kernel_rfl)) ?_
 clear hA
 exact ⟨retv (by rfl), hW.fr⟩

end Go.Proofs.Ytcgcippmbeileaa.L
