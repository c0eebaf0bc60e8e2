/- Contracts, walked by program over the engine's laws. -/
import Derived.Test.YtobbocpacacnhaaProg
import Derived.Test.YtobbocpacacnhaaT14
namespace Go.Proofs.Ytobbocpacacnhaa.L
open Go.RowKit

theorem outs_get {V : VT23} {k : Nat} {y : Int × Nat} (h : (outs V)[k]? = some y) : ∃ c, V[k]? = some (y.1, y.2, c) := by
  unfold outs at h
  rw [List.getElem?_map] at h
  cases q : V[k]? with
  | none => rw [q] at h; cases h
  | some e => rw [q] at h; cases h; exact ⟨e.2.2, rfl⟩
theorem outs_erase {V : VT23} {k : Nat} : outs (V.eraseIdx k) = (outs V).eraseIdx k := by
  induction V generalizing k with
  | nil => cases k <;> rfl
  | cons x V ih =>
    cases k with
    | zero => rfl
    | succ k => simp only [outs, List.eraseIdx_cons_succ, List.map_cons] at ih ⊢; rw [ih]
theorem outs_nil {V : VT23} (h : outs V = []) : V = [] := by unfold outs at h; exact List.map_eq_nil_iff.1 h
theorem copy_step {V W Vl : VT23} {k b : Nat} {y : Int × Nat} {c : MarkM} (hp : (vals W ++ vals Vl).Perm (vals V)) (h : Vl[k]? = some (y.1, y.2, c)) : (vals (W ++ [(y.1, b, c)]) ++ vals (Vl.eraseIdx k)).Perm (vals V) := by
  rw [vals_snoc, List.append_assoc]
  exact ((((er_perm_ h).map (fun e : Int × Nat × MarkM => (e.1, e.2.2))).symm).append_left _).trans hp
theorem copy_new {V W Vl : VT23} {k : Nat} {y : Int × Nat} {c : MarkM} (hn : (keys (vals V)).Nodup) (hp : (vals W ++ vals Vl).Perm (vals V)) (h : Vl[k]? = some (y.1, y.2, c)) : look (outs W) y.1 = none := by
  rw [outs_none, look_none]
  intro hm
  have h1 : ((vals W ++ vals Vl).map fun x : Int × MarkM => x.1).Nodup := ((hp.map (fun x : Int × MarkM => x.1)).nodup_iff).2 (by unfold keys at hn; exact hn)
  rw [List.map_append, List.nodup_append] at h1
  exact h1.2.2 _ hm _ (List.mem_map.2 ⟨(y.1, c), List.mem_map.2 ⟨_, List.mem_of_getElem? h, rfl⟩, rfl⟩) rfl
theorem mem_er {α : Type} {l : List α} {k : Nat} {y x : α} (h : l[k]? = some y) (hx : x ∈ l) : x = y ∨ x ∈ l.eraseIdx k := by
  rcases List.mem_cons.1 ((er_perm_ h).mem_iff.1 hx) with h | h
  · exact .inl h
  · exact .inr h
set_option maxRecDepth 100000 in
theorem e_copy (p : Nat) (b : Nat) (V : List (Int × Nat × List (Int × Mark))) (w : World) (ho_p : (PoolR p b V).p w) (hl_p : ∀ x_ ∈ (PoolR p b V).fp, x_ < w.heap.size) (hn : (keys (vals V)).Nodup) : Calls Try.prog 18 #[Value.pointer (some ⟨p, 0, none⟩)] w (fun e w' => ∃ np : Nat, ∃ nb : Nat, ∃ V' : VT23, e = .returned (Value.pointer (some ⟨np, 0, none⟩)) ∧ ((vals V').Perm (vals V)) ∧ Made (PoolR np nb V') w w') := by
 have _hu := ho_p; have _hv := hl_p; clear _hu _hv
 have _hu := hn; clear _hu
 refine enter_E 27 Try.func18 rfl rfl (by kernel_rfl) (L := [(0, Value.pointer (some ⟨p, 0, none⟩))]) (by kernel_rfl) ?_
 intro ac hA
 have hW := Ws.start w No
 have hW := hW.addG (PoolR p b V) ho_p hl_p (by simp)
 have hW := hW.objG (L := [Cel p #[Value.map (some b)] 62, mapR b (fun a : Int => Value.int .i64 a) (fun x_ : Nat => Value.map (some x_)) (outs V), SubR (fun (c_ : List (Int × Mark)) (b_ : Nat) => mapR b_ (fun a : Int => Value.int .i64 a) Mark.v c_) V]) ho_p hl_p
 clear ho_p hl_p
 refine wp_seq ?_
 refine wp_region_lit ?_
 refine st_rd (v := Value.pointer none) hA (by kernel_rfl) (by kernel_rfl) (by kernel_rfl) hW.cls (Rd.pure fun _ => by kernel_rfl) ?_; clear hA ac; intro ac hA
 refine wpList_nil ?_
 refine thenN ?_
 refine wp_seq ?_
 refine wp_seq ?_
 refine wp_region_lit ?_
 refine st_rd (v := Value.pointer (some ⟨p, 0, none⟩)) hA (by kernel_rfl) (by kernel_rfl) (by kernel_rfl) hW.cls (Rd.pure fun _ => by kernel_rfl) ?_; clear hA ac; intro ac hA
 refine st hA (by kernel_rfl) (by kernel_rfl) (by kernel_rfl) (Runs.callS (v := Value.bool false) (fun _ => by kernel_rfl) (e_none p b w (show _ = _ from (hW).getG 0 rfl)) ?_); clear hA ac; intro  ac hA
 refine wpList_nil ?_
 refine thenN ?_
 refine wp_cond_false (hA.eval (by kernel_rfl)) ?_
 refine wp_skip ?_
 refine thenN ?_
 refine wp_seq ?_
 refine wp_region_lit ?_
 refine st hA (by kernel_rfl) (by kernel_rfl) (by kernel_rfl) (Runs.call (fun _ => by kernel_rfl) (e_pNew w) ?_)
 rintro _ w1 ⟨n2, n3, rfl, hu_⟩; refine ⟨_, rfl, ?_⟩; replace hW := hW.made hu_; clear hA ac; intro ac hA
 refine st_rd (v := Value.pointer (some ⟨n2, 0, none⟩)) hA (by kernel_rfl) (by kernel_rfl) (by kernel_rfl) hW.cls (Rd.pure fun _ => by kernel_rfl) ?_; clear hA ac; intro ac hA
 refine wpList_nil ?_
 refine thenN ?_
 refine wp_seq ?_
 refine wp_seq ?_
 refine wp_region_lit ?_
 refine st_rd (v := Value.pointer (some ⟨p, 0, none⟩)) hA (by kernel_rfl) (by kernel_rfl) (by kernel_rfl) hW.cls (Rd.pure fun _ => by kernel_rfl) ?_; clear hA ac; intro ac hA
 refine st_rd (v := Value.pointer (some ⟨p, 0, none⟩)) hA (by kernel_rfl) (by kernel_rfl) (by kernel_rfl) hW.cls (Rd.pure fun _ => by kernel_rfl) ?_; clear hA ac; intro ac hA
 refine st_rd (v := Value.pointer (some ⟨p, 0, none⟩)) hA (by kernel_rfl) (by kernel_rfl) (by kernel_rfl) hW.cls (Rd.pure fun _ => by kernel_rfl) ?_; clear hA ac; intro ac hA
 refine st_rd (v := Value.map (some b)) hA (by kernel_rfl) (by kernel_rfl) (by kernel_rfl) hW.cls (Rd.load (b := p) (i := 0) (by kernel_rfl) (fun _ hw => show _ = _ from (hw.1).getG 0 rfl) (by kernel_rfl)) ?_; clear hA ac; intro ac hA
 refine st hA (by kernel_rfl) (by kernel_rfl) (by kernel_rfl) (Runs.range (k := 3) (e := 69) (ek := (fun a : Int => Value.int .i64 a)) (ev := (fun x_ : Nat => Value.map (some x_))) (m := (outs V)) (by kernel_rfl) (by kernel_rfl) hW 1 rfl ?_); clear hA ac hW; intro r4 es5 ck6 w7 hnr4 hW hfw7 ac hA
 refine wpList_nil ?_
 refine thenN ?_
 refine wp_block ?_
 have hW : Ws w No [Cel n2 #[Value.map (some n3)] 62, mapR n3 (fun a : Int => Value.int .i64 a) (fun x_ : Nat => Value.map (some x_)) (outs ([] : VT23)), SubR (fun (c_ : List (Int × Mark)) (b_ : Nat) => mapR b_ (fun a : Int => Value.int .i64 a) Mark.v c_) ([] : VT23), IterX r4 b es5 ck6 (fun a : Int => Value.int .i64 a) (fun x_ : Nat => Value.map (some x_)) (outs V) none] [MapX b es5 ck6, Cel p #[Value.map (some b)] 62, mapR b (fun a : Int => Value.int .i64 a) (fun x_ : Nat => Value.map (some x_)) (outs V), SubR (fun (c_ : List (Int × Mark)) (b_ : Nat) => mapR b_ (fun a : Int => Value.int .i64 a) Mark.v c_) V, PoolR p b V] w7 := Ws.unpack (hW.pick [1, 0] (by decide) rfl)
 refine wp_loop_m (fun m_ ac_ wl_ => ∃ Vl : VT23, ∃ W : VT23, ∃ cur : Option (Int × Nat), m_ = Vl.length ∧ ((vals W ++ vals Vl).Perm (vals V)) ∧ (∀ e ∈ Vl, e ∈ V) ∧ Fm 27 [] [(0, Value.pointer (some ⟨p, 0, none⟩)), (3, Value.pointer (some ⟨n2, 0, none⟩)), (13, Value.pointer (some ⟨r4, 0, none⟩))] ac_ ∧ Ws w No [Cel n2 #[Value.map (some n3)] 62, mapR n3 (fun a : Int => Value.int .i64 a) (fun x_ : Nat => Value.map (some x_)) (outs W), SubR (fun (c_ : List (Int × Mark)) (b_ : Nat) => mapR b_ (fun a : Int => Value.int .i64 a) Mark.v c_) W, IterX r4 b es5 ck6 (fun a : Int => Value.int .i64 a) (fun x_ : Nat => Value.map (some x_)) (outs Vl) cur] [MapX b es5 ck6, Cel p #[Value.map (some b)] 62, mapR b (fun a : Int => Value.int .i64 a) (fun x_ : Nat => Value.map (some x_)) (outs V), SubR (fun (c_ : List (Int × Mark)) (b_ : Nat) => mapR b_ (fun a : Int => Value.int .i64 a) Mark.v c_) V, PoolR p b V] wl_) _ ⟨V, [], none, rfl, by exact List.Perm.refl _, by exact fun _ h => h, hA.sub ⟨⟨by kernel_rfl, by kernel_rfl⟩, ⟨by kernel_rfl, by kernel_rfl⟩, ⟨by kernel_rfl, by kernel_rfl⟩, trivial⟩, (hW.pick [0, 1, 2, 3] (by decide) rfl).pickG [0, 1, 2, 3, 4] rfl⟩ ?_
 clear hA ac hW; rintro m_ ac w8 ⟨Vl, W, cur, rfl, hp, hsub, hA, hW⟩
 refine wp_seq ?_
 refine wp_region_lit ?_
 refine st hA (by kernel_rfl) (by kernel_rfl) (by kernel_rfl) ((Runs.next (ek := (fun a : Int => Value.int .i64 a)) (ev := (fun x_ : Nat => Value.map (some x_))) (r := r4) (b := b) (es := es5) (clock := ck6) (left := (outs Vl)) (cur := cur) (by kernel_rfl) hnr4 hW 3 0 rfl rfl ?_ ?_))
 · skip
   intro hdoner4 ac hA
   refine st_rd (v := Value.bool false) hA (by kernel_rfl) (by kernel_rfl) (by kernel_rfl) hW.cls (Rd.pure fun _ => by kernel_rfl) ?_; clear hA ac; intro ac hA
   refine wpList_nil ?_
   refine thenN ?_
   refine wp_seq ?_
   refine wp_cond_false (hA.eval (by kernel_rfl)) ?_
   refine wp_exit ?_
   refine thenX ?_
   refine thenX ?_
   refine blkX ?_
   refine thenN ?_
   refine wp_seq ?_
   refine wp_region_lit ?_
   refine st_rd (v := Value.pointer (some ⟨n2, 0, none⟩)) hA (by kernel_rfl) (by kernel_rfl) (by kernel_rfl) hW.cls (Rd.pure fun _ => by kernel_rfl) ?_; clear hA ac; intro ac hA
   refine st_rd (v := Value.pointer (some ⟨n2, 0, none⟩)) hA (by kernel_rfl) (by kernel_rfl) (by kernel_rfl) hW.cls (Rd.pure fun _ => by kernel_rfl) ?_; clear hA ac; intro ac hA
   refine wpList_nil ?_
   refine thenN ?_
   refine wp_ret ?_
   refine ret1 (v := Value.pointer (some ⟨n2, 0, none⟩)) (by rfl) hA (Got.tmp hA (by kernel_rfl) (by kernel_rfl)) ?_
   clear hA
   have hVl := outs_nil hdoner4; subst hVl
   exact ⟨n2, n3, W, rfl, by exact (by simpa [vals] using hp), (Ws.pack (K := []) (show Ws w No ([Cel n2 #[Value.map (some n3)] 62, mapR n3 (fun a : Int => Value.int .i64 a) (fun x_ : Nat => Value.map (some x_)) (outs W), SubR (fun (c_ : List (Int × Mark)) (b_ : Nat) => mapR b_ (fun a : Int => Value.int .i64 a) Mark.v c_) W] ++ []) [MapX b es5 ck6, Cel p #[Value.map (some b)] 62, mapR b (fun a : Int => Value.int .i64 a) (fun x_ : Nat => Value.map (some x_)) (outs V), SubR (fun (c_ : List (Int × Mark)) (b_ : Nat) => mapR b_ (fun a : Int => Value.int .i64 a) Mark.v c_) V, PoolR p b V] _ from hW.pick [0, 1, 2] (by decide) rfl)).madeDone 0 rfl⟩
 · skip
   clear hA ac; intro k9 y10 w11 hkk9 hW ac hA
   refine st_rd (v := Value.bool true) hA (by kernel_rfl) (by kernel_rfl) (by kernel_rfl) hW.cls (Rd.pure fun _ => by kernel_rfl) ?_; clear hA ac; intro ac hA
   refine wpList_nil ?_
   refine thenN ?_
   refine wp_seq ?_
   refine wp_cond_true (hA.eval (by kernel_rfl)) ?_
   refine wp_skip ?_
   refine thenN ?_
   refine wp_block ?_
   refine wp_seq ?_
   refine wp_region_lit ?_
   refine st_rd (v := Value.tuple #[Value.int .i64 y10.1, Value.map (some y10.2)]) hA (by kernel_rfl) (by kernel_rfl) (by kernel_rfl) hW.cls (Rd.entry (ek := (fun a : Int => Value.int .i64 a)) (ev := (fun x_ : Nat => Value.map (some x_))) (r := r4) (b := b) (es := es5) (clock := ck6) (left := (List.eraseIdx (outs Vl) k9)) (y := y10) (by kernel_rfl) hnr4 (fun _ hw => show _ = _ from (hw.1).getG 0 rfl) (fun _ hw => (hw.1).get 3 rfl)) ?_; clear hA ac; intro ac hA
   refine st_rd (v := Value.int .i64 y10.1) hA (by kernel_rfl) (by kernel_rfl) (by kernel_rfl) hW.cls (Rd.pure fun _ => by kernel_rfl) ?_; clear hA ac; intro ac hA
   refine st_rd (v := Value.map (some y10.2)) hA (by kernel_rfl) (by kernel_rfl) (by kernel_rfl) hW.cls (Rd.pure fun _ => by kernel_rfl) ?_; clear hA ac; intro ac hA
   refine st_rd (v := Value.int .i64 y10.1) hA (by kernel_rfl) (by kernel_rfl) (by kernel_rfl) hW.cls (Rd.pure fun _ => by kernel_rfl) ?_; clear hA ac; intro ac hA
   refine st_rd (v := Value.map (some y10.2)) hA (by kernel_rfl) (by kernel_rfl) (by kernel_rfl) hW.cls (Rd.pure fun _ => by kernel_rfl) ?_; clear hA ac; intro ac hA
   refine wpList_nil ?_
   refine thenN ?_
   obtain ⟨c12, hcc12⟩ := outs_get hkk9
   obtain ⟨iv_c12, hvc12⟩ := List.getElem?_of_mem (hsub _ (List.mem_of_getElem? hcc12))
   have hW := hW.subG 3 rfl hvc12
   replace hW : Ws w No [Cel n2 #[Value.map (some n3)] 62, mapR n3 (fun a : Int => Value.int .i64 a) (fun x_ : Nat => Value.map (some x_)) (outs W), SubR (fun (c_ : List (Int × Mark)) (b_ : Nat) => mapR b_ (fun a : Int => Value.int .i64 a) Mark.v c_) W, IterX r4 b es5 ck6 (fun a : Int => Value.int .i64 a) (fun x_ : Nat => Value.map (some x_)) (List.eraseIdx (outs Vl) k9) (some y10)] [mapR y10.2 (fun a : Int => Value.int .i64 a) Mark.v c12, MapX b es5 ck6, Cel p #[Value.map (some b)] 62, mapR b (fun a : Int => Value.int .i64 a) (fun x_ : Nat => Value.map (some x_)) (outs V), SubR (fun (c_ : List (Int × Mark)) (b_ : Nat) => mapR b_ (fun a : Int => Value.int .i64 a) Mark.v c_) V, PoolR p b V] w11 := hW
   refine wp_cut (fun ac_ wl_ => ∃ n0r7_6 : Nat, Fm 27 [] [(0, Value.pointer (some ⟨p, 0, none⟩)), (3, Value.pointer (some ⟨n2, 0, none⟩)), (13, Value.pointer (some ⟨r4, 0, none⟩)), (14, Value.tuple #[Value.bool true, Value.int .i64 y10.1, Value.map (some y10.2)]), (15, Value.bool true), (16, Value.tuple #[Value.int .i64 y10.1, Value.map (some y10.2)]), (17, Value.int .i64 y10.1), (18, Value.map (some y10.2))] ac_ ∧ Ws w No [mapR n0r7_6 (fun a : Int => Value.int .i64 a) Mark.v c12, Cel n2 #[Value.map (some n3)] 62, mapR n3 (fun a : Int => Value.int .i64 a) (fun x_ : Nat => Value.map (some x_)) (put (outs W) (y10.1 : Int) n0r7_6), SubR (fun (c_ : List (Int × Mark)) (b_ : Nat) => mapR b_ (fun a : Int => Value.int .i64 a) Mark.v c_) W, IterX r4 b es5 ck6 (fun a : Int => Value.int .i64 a) (fun x_ : Nat => Value.map (some x_)) (List.eraseIdx (outs Vl) k9) (some y10)] [mapR y10.2 (fun a : Int => Value.int .i64 a) Mark.v c12, MapX b es5 ck6, Cel p #[Value.map (some b)] 62, mapR b (fun a : Int => Value.int .i64 a) (fun x_ : Nat => Value.map (some x_)) (outs V), SubR (fun (c_ : List (Int × Mark)) (b_ : Nat) => mapR b_ (fun a : Int => Value.int .i64 a) Mark.v c_) V, PoolR p b V] wl_) ?_ ?_
   · refine sr_region (m := 8) (C := Ws w No [Cel n2 #[Value.map (some n3)] 62, mapR n3 (fun a : Int => Value.int .i64 a) (fun x_ : Nat => Value.map (some x_)) (outs W), SubR (fun (c_ : List (Int × Mark)) (b_ : Nat) => mapR b_ (fun a : Int => Value.int .i64 a) Mark.v c_) W, IterX r4 b es5 ck6 (fun a : Int => Value.int .i64 a) (fun x_ : Nat => Value.map (some x_)) (List.eraseIdx (outs Vl) k9) (some y10)] [mapR y10.2 (fun a : Int => Value.int .i64 a) Mark.v c12, MapX b es5 ck6, Cel p #[Value.map (some b)] 62, mapR b (fun a : Int => Value.int .i64 a) (fun x_ : Nat => Value.map (some x_)) (outs V), SubR (fun (c_ : List (Int × Mark)) (b_ : Nat) => mapR b_ (fun a : Int => Value.int .i64 a) Mark.v c_) V, PoolR p b V]) (fun i => [3].contains i) (fun i => [3, 6].contains i) (fun i => [0, 1, 2, 4, 5].contains i) (by kernel_rfl) (by kernel_rfl) (by kernel_rfl) (by kernel_rfl) hW ?_; clear hW; intro w13 hW hfw13 hR; have hC : Ws w No [Cel n2 #[Value.map (some n3)] 62, mapR n3 (fun a : Int => Value.int .i64 a) (fun x_ : Nat => Value.map (some x_)) (outs W), SubR (fun (c_ : List (Int × Mark)) (b_ : Nat) => mapR b_ (fun a : Int => Value.int .i64 a) Mark.v c_) W, IterX r4 b es5 ck6 (fun a : Int => Value.int .i64 a) (fun x_ : Nat => Value.map (some x_)) (List.eraseIdx (outs Vl) k9) (some y10)] [mapR y10.2 (fun a : Int => Value.int .i64 a) Mark.v c12, MapX b es5 ck6, Cel p #[Value.map (some b)] 62, mapR b (fun a : Int => Value.int .i64 a) (fun x_ : Nat => Value.map (some x_)) (outs V), SubR (fun (c_ : List (Int × Mark)) (b_ : Nat) => mapR b_ (fun a : Int => Value.int .i64 a) Mark.v c_) V, PoolR p b V] w13 := hW.pick [0, 1, 2, 3] (by decide) rfl
     refine sr_pure (i := 0) (v := Value.pointer (some ⟨n2, 0, none⟩)) hR (by kernel_rfl) rfl (by kernel_rfl) (by kernel_rfl) (fun _ _ _ h => h.elim) hA (by kernel_rfl) (by kernel_rfl) (by kernel_rfl) (Rd.pure fun _ => by kernel_rfl) ?_; clear hA ac; intro ac hA
     refine sr_pure (i := 1) (v := Value.pointer (some ⟨n2, 0, none⟩)) hR (by kernel_rfl) rfl (by kernel_rfl) (by kernel_rfl) (fun _ _ _ h => h.elim) hA (by kernel_rfl) (by kernel_rfl) (by kernel_rfl) (Rd.pure fun _ => by kernel_rfl) ?_; clear hA ac; intro ac hA
     refine sr_pure (i := 2) (v := Value.pointer (some ⟨n2, 0, none⟩)) hR (by kernel_rfl) rfl (by kernel_rfl) (by kernel_rfl) (fun _ _ _ h => h.elim) hA (by kernel_rfl) (by kernel_rfl) (by kernel_rfl) (Rd.pure fun _ => by kernel_rfl) ?_; clear hA ac; intro ac hA
     refine sr_take (i := 3) (v := Value.map (some n3)) hR (by kernel_rfl) rfl (by kernel_rfl) (by kernel_rfl) (by kernel_rfl) (fun _ _ _ h => h.elim) hA (by kernel_rfl) (by kernel_rfl) (by kernel_rfl) hC (Rd.load (b := n2) (i := 0) (by kernel_rfl) (fun _ hw => (hw).cel 0 rfl) (by kernel_rfl)) ?_; clear hA ac; intro ac hA
     refine sr_pure (i := 4) (v := Value.int .i64 y10.1) hR (by kernel_rfl) rfl (by kernel_rfl) (by kernel_rfl) (fun _ _ _ h => h.elim) hA (by kernel_rfl) (by kernel_rfl) (by kernel_rfl) (Rd.pure fun _ => by kernel_rfl) ?_; clear hA ac; intro ac hA
     refine sr_pure (i := 5) (v := Value.map (some y10.2)) hR (by kernel_rfl) rfl (by kernel_rfl) (by kernel_rfl) (fun _ _ _ h => h.elim) hA (by kernel_rfl) (by kernel_rfl) (by kernel_rfl) (Rd.pure fun _ => by kernel_rfl) ?_; clear hA ac; intro ac hA
     refine sr_one (i := 6) (by kernel_rfl) (sr_do rfl hA (by kernel_rfl) (by kernel_rfl) (by kernel_rfl) (Runs.call (fun _ => by kernel_rfl) (e_clone w13 ((hW).getG 0 rfl)) ?_))
     rintro _ w14 ⟨n0r7_6, rfl, hu_⟩; refine ⟨_, rfl, ?_⟩; replace hW := hW.made hu_; clear hA ac; intro ac hA
     refine ⟨⟨fun _ => (hW.pick [1, 2, 3, 4] (by decide) rfl).pickG [0, 1, 2, 3, 4, 5] rfl, fun h => absurd h (by decide)⟩, ?_⟩; have hC : Ws w No [Cel n2 #[Value.map (some n3)] 62, mapR n3 (fun a : Int => Value.int .i64 a) (fun x_ : Nat => Value.map (some x_)) (outs W), SubR (fun (c_ : List (Int × Mark)) (b_ : Nat) => mapR b_ (fun a : Int => Value.int .i64 a) Mark.v c_) W, IterX r4 b es5 ck6 (fun a : Int => Value.int .i64 a) (fun x_ : Nat => Value.map (some x_)) (List.eraseIdx (outs Vl) k9) (some y10)] [mapR y10.2 (fun a : Int => Value.int .i64 a) Mark.v c12, MapX b es5 ck6, Cel p #[Value.map (some b)] 62, mapR b (fun a : Int => Value.int .i64 a) (fun x_ : Nat => Value.map (some x_)) (outs V), SubR (fun (c_ : List (Int × Mark)) (b_ : Nat) => mapR b_ (fun a : Int => Value.int .i64 a) Mark.v c_) V, PoolR p b V] w14 := (hW.pick [1, 2, 3, 4] (by decide) rfl).pickG [0, 1, 2, 3, 4, 5] rfl
     refine sr_one (i := 7) (by kernel_rfl) (sr_do rfl hA (by kernel_rfl) (by kernel_rfl) (by kernel_rfl) (Runs.mapUpdate (k := 3) (e := 69) (ek := (fun a : Int => Value.int .i64 a)) (ev := (fun x_ : Nat => Value.map (some x_))) (m := (outs W)) (y10.1 : Int) n0r7_6 (by kernel_rfl) (by kernel_rfl) (by kernel_rfl) (KeyE.int (by kernel_rfl)) (by kernel_rfl) hW (i := 2) rfl ?_)); clear hA ac hW; intro w15 hW ac hA
     refine ⟨⟨fun h => absurd h (by decide), fun h => absurd h (by decide)⟩, ?_⟩
     refine sr_done (by kernel_rfl) ?_ _
     exact ⟨n0r7_6, hA.sub ⟨⟨by kernel_rfl, by kernel_rfl⟩, ⟨by kernel_rfl, by kernel_rfl⟩, ⟨by kernel_rfl, by kernel_rfl⟩, ⟨by kernel_rfl, by kernel_rfl⟩, ⟨by kernel_rfl, by kernel_rfl⟩, ⟨by kernel_rfl, by kernel_rfl⟩, ⟨by kernel_rfl, by kernel_rfl⟩, ⟨by kernel_rfl, by kernel_rfl⟩, trivial⟩, (hW.pick [0, 1, 2, 3, 4] (by decide) rfl).pickG [0, 1, 2, 3, 4, 5] rfl⟩
   clear hA ac hW; rintro ac w16 ⟨n0r7_6, hA, hW⟩
   refine blkN ?_
   refine thenN ?_
   have hno := copy_new hn hp hcc12; have hstep := copy_step (b := n0r7_6) hp hcc12; have hlt_ := er_len_ hcc12
   rw [put_end hno, ← outs_snoc y10.1 n0r7_6 c12] at hW
   have hW := Ws.subAdd (f := (fun (c_ : List (Int × Mark)) (b_ : Nat) => mapR b_ (fun a : Int => Value.int .i64 a) Mark.v c_)) (hW.pick [0, 3, 1, 2, 4] (by decide) rfl) y10.1
   replace hW : Ws w No [SubR (fun (c_ : List (Int × Mark)) (b_ : Nat) => mapR b_ (fun a : Int => Value.int .i64 a) Mark.v c_) (W ++ [(y10.1, n0r7_6, c12)]), Cel n2 #[Value.map (some n3)] 62, mapR n3 (fun a : Int => Value.int .i64 a) (fun x_ : Nat => Value.map (some x_)) (outs (W ++ [(y10.1, n0r7_6, c12)])), IterX r4 b es5 ck6 (fun a : Int => Value.int .i64 a) (fun x_ : Nat => Value.map (some x_)) (List.eraseIdx (outs Vl) k9) (some y10)] [mapR y10.2 (fun a : Int => Value.int .i64 a) Mark.v c12, MapX b es5 ck6, Cel p #[Value.map (some b)] 62, mapR b (fun a : Int => Value.int .i64 a) (fun x_ : Nat => Value.map (some x_)) (outs V), SubR (fun (c_ : List (Int × Mark)) (b_ : Nat) => mapR b_ (fun a : Int => Value.int .i64 a) Mark.v c_) V, PoolR p b V] w16 := hW
   rw [← outs_erase] at hW
   exact ⟨(List.eraseIdx Vl k9).length, by omega, List.eraseIdx Vl k9, W ++ [(y10.1, n0r7_6, c12)], (some y10), rfl, by exact hstep, by exact fun e he => hsub e (List.eraseIdx_subset he), hA.sub ⟨⟨by kernel_rfl, by kernel_rfl⟩, ⟨by kernel_rfl, by kernel_rfl⟩, ⟨by kernel_rfl, by kernel_rfl⟩, trivial⟩, (hW.pick [1, 2, 0, 3] (by decide) rfl).pickG [1, 2, 3, 4, 5] rfl⟩

end Go.Proofs.Ytobbocpacacnhaa.L
