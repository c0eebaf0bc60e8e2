/- Contracts, walked by program over the engine's laws. -/
import Derived.Test.YtcokpdlmahlpnaaProg
import Derived.Test.YtcokpdlmahlpnaaT5
namespace Go.Proofs.Ytcokpdlmahlpnaa.L
open Go.RowKit

section
variable {γ : Type} {V W Vl : List (Int × Nat × γ)} {k b : Nat} {y : Int × Nat} {c : γ}
theorem outs_get (h : (outs V)[k]? = some y) : ∃ c, V[k]? = some (y.1, y.2, c) := by
  unfold outs at h
  rw [List.getElem?_map] at h
  cases q : V[k]? with
  | none => rw [q] at h; cases h
  | some e => rw [q] at h; cases h; exact ⟨e.2.2, rfl⟩
theorem outs_erase : outs (V.eraseIdx k) = (outs V).eraseIdx k := by
  induction V generalizing k with
  | nil => cases k <;> rfl
  | cons x V ih =>
    cases k with
    | zero => rfl
    | succ k => simp only [outs, List.eraseIdx_cons_succ, List.map_cons] at ih ⊢; rw [ih]
theorem outs_nil (h : outs V = []) : V = [] := by unfold outs at h; exact List.map_eq_nil_iff.1 h
theorem copy_step (hp : (vals W ++ vals Vl).Perm (vals V)) (h : Vl[k]? = some (y.1, y.2, c)) : (vals (W ++ [(y.1, b, c)]) ++ vals (Vl.eraseIdx k)).Perm (vals V) := by
  rw [vals_snoc, List.append_assoc]
  exact ((((er_perm_ h).map (fun e : Int × Nat × γ => (e.1, e.2.2))).symm).append_left _).trans hp
theorem copy_new (hn : (keys (vals V)).Nodup) (hp : (vals W ++ vals Vl).Perm (vals V)) (h : Vl[k]? = some (y.1, y.2, c)) : look (outs W) y.1 = none := by
  rw [outs_none, look_none]
  intro hm
  have h1 : ((vals W ++ vals Vl).map fun x : Int × γ => x.1).Nodup := ((hp.map (fun x : Int × γ => x.1)).nodup_iff).2 (by unfold keys at hn; exact hn)
  rw [List.map_append, List.nodup_append] at h1
  exact h1.2.2 _ hm _ (List.mem_map.2 ⟨(y.1, c), List.mem_map.2 ⟨_, List.mem_of_getElem? h, rfl⟩, rfl⟩) rfl
end
theorem mem_er {α : Type} {l : List α} {k : Nat} {y x : α} (h : l[k]? = some y) (hx : x ∈ l) : x = y ∨ x ∈ l.eraseIdx k := by
  rcases List.mem_cons.1 ((er_perm_ h).mem_iff.1 hx) with h | h
  · exact .inl h
  · exact .inr h
set_option maxRecDepth 100000 in
theorem e_mcopy (m : Nat) (b : Nat) (V : VT6) (w : World) (ho_p : (MemR m b V).p w) (hl_p : ∀ x_ ∈ (MemR m b V).fp, x_ < w.heap.size) (hn : (keys (vals V)).Nodup) : Calls Try.prog 22 #[Value.pointer (some ⟨m, 0, none⟩)] w (fun e w' => ∃ np : Nat, ∃ nb : Nat, ∃ V' : VT6, e = .returned (Value.pointer (some ⟨np, 0, none⟩)) ∧ ((vals V').Perm (vals V)) ∧ Made (MemR np nb V') w w') := by
 have _hu := ho_p; have _hv := hl_p; clear _hu _hv
 have _hu := hn; clear _hu
 refine enter_E 29 Try.func22 rfl rfl (by kernel_rfl) (L := [(0, Value.pointer (some ⟨m, 0, none⟩))]) (by kernel_rfl) ?_
 intro ac hA
 have hW := Ws.start w No
 have hW := hW.addG (MemR m b V) ho_p hl_p (by simp)
 have hW := hW.objG (L := [Cel m #[Value.map (some b)] 54, mapR b (fun a : Int => Value.int .u32 a) (fun x_ : Nat => Value.pointer (some ⟨x_, 0, none⟩)) (outs V), SubR (fun (c_ : Nat → Int) (b_ : Nat) => PgR .u32 4096 64 c_ b_) V]) ho_p hl_p
 clear ho_p hl_p
 refine wp_seq ?_
 refine wp_region_lit ?_
 refine st_rd (v := Value.pointer none) hA (by kernel_rfl) (by kernel_rfl) (by kernel_rfl) hW.cls (Rd.pure fun _ => by kernel_rfl) ?_; clear hA ac; intro ac hA
 refine wpList_nil ?_
 refine thenN ?_
 refine wp_seq ?_
 refine wp_seq ?_
 refine wp_region_lit ?_
 refine st_rd (v := Value.pointer (some ⟨m, 0, none⟩)) hA (by kernel_rfl) (by kernel_rfl) (by kernel_rfl) hW.cls (Rd.pure fun _ => by kernel_rfl) ?_; clear hA ac; intro ac hA
 refine st hA (by kernel_rfl) (by kernel_rfl) (by kernel_rfl) (Runs.callS (v := Value.bool false) (fun _ => by kernel_rfl) (e_mnone m b w (show _ = _ from (hW).getG 0 rfl)) ?_); clear hA ac; intro  ac hA
 refine wpList_nil ?_
 refine thenN ?_
 refine wp_cond_false (hA.eval (by kernel_rfl)) ?_
 refine wp_skip ?_
 refine thenN ?_
 refine wp_seq ?_
 refine wp_region_lit ?_
 refine st hA (by kernel_rfl) (by kernel_rfl) (by kernel_rfl) (Runs.call (fun _ => by kernel_rfl) (e_mnew w) ?_)
 rintro _ w1 ⟨n2, n3, rfl, hu_⟩; refine ⟨_, rfl, ?_⟩; replace hW := hW.made hu_; clear hA ac; intro ac hA
 refine st_rd (v := Value.pointer (some ⟨n2, 0, none⟩)) hA (by kernel_rfl) (by kernel_rfl) (by kernel_rfl) hW.cls (Rd.pure fun _ => by kernel_rfl) ?_; clear hA ac; intro ac hA
 refine wpList_nil ?_
 refine thenN ?_
 refine wp_seq ?_
 refine wp_seq ?_
 refine wp_region_lit ?_
 refine st_rd (v := Value.pointer (some ⟨m, 0, none⟩)) hA (by kernel_rfl) (by kernel_rfl) (by kernel_rfl) hW.cls (Rd.pure fun _ => by kernel_rfl) ?_; clear hA ac; intro ac hA
 refine st_rd (v := Value.pointer (some ⟨m, 0, none⟩)) hA (by kernel_rfl) (by kernel_rfl) (by kernel_rfl) hW.cls (Rd.pure fun _ => by kernel_rfl) ?_; clear hA ac; intro ac hA
 refine st_rd (v := Value.pointer (some ⟨m, 0, none⟩)) hA (by kernel_rfl) (by kernel_rfl) (by kernel_rfl) hW.cls (Rd.pure fun _ => by kernel_rfl) ?_; clear hA ac; intro ac hA
 refine st_rd (v := Value.map (some b)) hA (by kernel_rfl) (by kernel_rfl) (by kernel_rfl) hW.cls (Rd.load (b := m) (i := 0) (by kernel_rfl) (fun _ hw => show _ = _ from (hw.1).getG 0 rfl) (by kernel_rfl)) ?_; clear hA ac; intro ac hA
 refine st hA (by kernel_rfl) (by kernel_rfl) (by kernel_rfl) (Runs.range (k := 28) (e := 62) (ek := (fun a : Int => Value.int .u32 a)) (ev := (fun x_ : Nat => Value.pointer (some ⟨x_, 0, none⟩))) (m := (outs V)) (by kernel_rfl) (by kernel_rfl) hW 1 rfl ?_); clear hA ac hW; intro r4 es5 ck6 w7 hnr4 hW hfw7 ac hA
 refine wpList_nil ?_
 refine thenN ?_
 refine wp_block ?_
 have hW : Ws w No [Cel n2 #[Value.map (some n3)] 54, mapR n3 (fun a : Int => Value.int .u32 a) (fun x_ : Nat => Value.pointer (some ⟨x_, 0, none⟩)) (outs ([] : VT6)), SubR (fun (c_ : Nat → Int) (b_ : Nat) => PgR .u32 4096 64 c_ b_) ([] : VT6), IterX r4 b es5 ck6 (fun a : Int => Value.int .u32 a) (fun x_ : Nat => Value.pointer (some ⟨x_, 0, none⟩)) (outs V) none] [MapX b es5 ck6, Cel m #[Value.map (some b)] 54, mapR b (fun a : Int => Value.int .u32 a) (fun x_ : Nat => Value.pointer (some ⟨x_, 0, none⟩)) (outs V), SubR (fun (c_ : Nat → Int) (b_ : Nat) => PgR .u32 4096 64 c_ b_) V, MemR m b V] w7 := Ws.unpack (hW.pick [1, 0] (by decide) rfl)
 refine wp_loop_m (fun m_ ac_ wl_ => ∃ Vl : VT6, ∃ W : VT6, ∃ cur : Option (Int × Nat), m_ = Vl.length ∧ ((vals W ++ vals Vl).Perm (vals V)) ∧ (∀ e ∈ Vl, e ∈ V) ∧ Fm 29 [] [(0, Value.pointer (some ⟨m, 0, none⟩)), (3, Value.pointer (some ⟨n2, 0, none⟩)), (14, Value.pointer (some ⟨r4, 0, none⟩))] ac_ ∧ Ws w No [Cel n2 #[Value.map (some n3)] 54, mapR n3 (fun a : Int => Value.int .u32 a) (fun x_ : Nat => Value.pointer (some ⟨x_, 0, none⟩)) (outs W), SubR (fun (c_ : Nat → Int) (b_ : Nat) => PgR .u32 4096 64 c_ b_) W, IterX r4 b es5 ck6 (fun a : Int => Value.int .u32 a) (fun x_ : Nat => Value.pointer (some ⟨x_, 0, none⟩)) (outs Vl) cur] [MapX b es5 ck6, Cel m #[Value.map (some b)] 54, mapR b (fun a : Int => Value.int .u32 a) (fun x_ : Nat => Value.pointer (some ⟨x_, 0, none⟩)) (outs V), SubR (fun (c_ : Nat → Int) (b_ : Nat) => PgR .u32 4096 64 c_ b_) V, MemR m b V] wl_) _ ⟨V, [], none, rfl, by exact List.Perm.refl _, by exact fun _ h => h, hA.sub ⟨⟨by kernel_rfl, by kernel_rfl⟩, ⟨by kernel_rfl, by kernel_rfl⟩, ⟨by kernel_rfl, by kernel_rfl⟩, trivial⟩, (hW.pick [0, 1, 2, 3] (by decide) rfl).pickG [0, 1, 2, 3, 4] rfl⟩ ?_
 clear hA ac hW; rintro m_ ac w8 ⟨Vl, W, cur, rfl, hp, hsub, hA, hW⟩
 refine wp_seq ?_
 refine wp_region_lit ?_
 refine st hA (by kernel_rfl) (by kernel_rfl) (by kernel_rfl) ((Runs.next (ek := (fun a : Int => Value.int .u32 a)) (ev := (fun x_ : Nat => Value.pointer (some ⟨x_, 0, none⟩))) (r := r4) (b := b) (es := es5) (clock := ck6) (left := (outs Vl)) (cur := cur) (by kernel_rfl) hnr4 hW 3 0 rfl rfl ?_ ?_))
 · skip
   intro hdoner4 ac hA
   refine st_rd (v := Value.bool false) hA (by kernel_rfl) (by kernel_rfl) (by kernel_rfl) hW.cls (Rd.pure fun _ => by kernel_rfl) ?_; clear hA ac; intro ac hA
   refine wpList_nil ?_
   refine thenN ?_
   refine wp_seq ?_
   refine wp_cond_false (hA.eval (by kernel_rfl)) ?_
   refine wp_exit ?_
   refine thenX ?_
   refine thenX ?_
   refine blkX ?_
   refine thenN ?_
   refine wp_seq ?_
   refine wp_region_lit ?_
   refine st_rd (v := Value.pointer (some ⟨n2, 0, none⟩)) hA (by kernel_rfl) (by kernel_rfl) (by kernel_rfl) hW.cls (Rd.pure fun _ => by kernel_rfl) ?_; clear hA ac; intro ac hA
   refine st_rd (v := Value.pointer (some ⟨n2, 0, none⟩)) hA (by kernel_rfl) (by kernel_rfl) (by kernel_rfl) hW.cls (Rd.pure fun _ => by kernel_rfl) ?_; clear hA ac; intro ac hA
   refine wpList_nil ?_
   refine thenN ?_
   refine wp_ret ?_
   refine ret1 (v := Value.pointer (some ⟨n2, 0, none⟩)) (by rfl) hA (Got.tmp hA (by kernel_rfl) (by kernel_rfl)) ?_
   clear hA
   have hVl := outs_nil hdoner4; subst hVl
   exact ⟨n2, n3, W, rfl, by exact (by simpa [vals] using hp), (Ws.pack (K := []) (show Ws w No ([Cel n2 #[Value.map (some n3)] 54, mapR n3 (fun a : Int => Value.int .u32 a) (fun x_ : Nat => Value.pointer (some ⟨x_, 0, none⟩)) (outs W), SubR (fun (c_ : Nat → Int) (b_ : Nat) => PgR .u32 4096 64 c_ b_) W] ++ []) [MapX b es5 ck6, Cel m #[Value.map (some b)] 54, mapR b (fun a : Int => Value.int .u32 a) (fun x_ : Nat => Value.pointer (some ⟨x_, 0, none⟩)) (outs V), SubR (fun (c_ : Nat → Int) (b_ : Nat) => PgR .u32 4096 64 c_ b_) V, MemR m b V] _ from hW.pick [0, 1, 2] (by decide) rfl)).madeDone 0 rfl⟩
 · skip
   clear hA ac; intro k9 y10 w11 hkk9 hW ac hA
   refine st_rd (v := Value.bool true) hA (by kernel_rfl) (by kernel_rfl) (by kernel_rfl) hW.cls (Rd.pure fun _ => by kernel_rfl) ?_; clear hA ac; intro ac hA
   refine wpList_nil ?_
   refine thenN ?_
   refine wp_seq ?_
   refine wp_cond_true (hA.eval (by kernel_rfl)) ?_
   refine wp_skip ?_
   refine thenN ?_
   refine wp_block ?_
   refine wp_seq ?_
   refine wp_region_lit ?_
   refine st_rd (v := Value.tuple #[Value.int .u32 y10.1, Value.pointer (some ⟨y10.2, 0, none⟩)]) hA (by kernel_rfl) (by kernel_rfl) (by kernel_rfl) hW.cls (Rd.entry (ek := (fun a : Int => Value.int .u32 a)) (ev := (fun x_ : Nat => Value.pointer (some ⟨x_, 0, none⟩))) (r := r4) (b := b) (es := es5) (clock := ck6) (left := (List.eraseIdx (outs Vl) k9)) (y := y10) (by kernel_rfl) hnr4 (fun _ hw => show _ = _ from (hw.1).getG 0 rfl) (fun _ hw => (hw.1).get 3 rfl)) ?_; clear hA ac; intro ac hA
   refine st_rd (v := Value.int .u32 y10.1) hA (by kernel_rfl) (by kernel_rfl) (by kernel_rfl) hW.cls (Rd.pure fun _ => by kernel_rfl) ?_; clear hA ac; intro ac hA
   refine st_rd (v := Value.pointer (some ⟨y10.2, 0, none⟩)) hA (by kernel_rfl) (by kernel_rfl) (by kernel_rfl) hW.cls (Rd.pure fun _ => by kernel_rfl) ?_; clear hA ac; intro ac hA
   refine st_rd (v := Value.int .u32 y10.1) hA (by kernel_rfl) (by kernel_rfl) (by kernel_rfl) hW.cls (Rd.pure fun _ => by kernel_rfl) ?_; clear hA ac; intro ac hA
   refine st_rd (v := Value.pointer (some ⟨y10.2, 0, none⟩)) hA (by kernel_rfl) (by kernel_rfl) (by kernel_rfl) hW.cls (Rd.pure fun _ => by kernel_rfl) ?_; clear hA ac; intro ac hA
   refine wpList_nil ?_
   refine thenN ?_
   refine wp_seq ?_
   obtain ⟨c12, hcc12⟩ := outs_get hkk9
   obtain ⟨iv_c12, hvc12⟩ := List.getElem?_of_mem (hsub _ (List.mem_of_getElem? hcc12))
   have hW := hW.subG 3 rfl hvc12
   replace hW : Ws w No [Cel n2 #[Value.map (some n3)] 54, mapR n3 (fun a : Int => Value.int .u32 a) (fun x_ : Nat => Value.pointer (some ⟨x_, 0, none⟩)) (outs W), SubR (fun (c_ : Nat → Int) (b_ : Nat) => PgR .u32 4096 64 c_ b_) W, IterX r4 b es5 ck6 (fun a : Int => Value.int .u32 a) (fun x_ : Nat => Value.pointer (some ⟨x_, 0, none⟩)) (List.eraseIdx (outs Vl) k9) (some y10)] [PgR .u32 4096 64 c12 y10.2, MapX b es5 ck6, Cel m #[Value.map (some b)] 54, mapR b (fun a : Int => Value.int .u32 a) (fun x_ : Nat => Value.pointer (some ⟨x_, 0, none⟩)) (outs V), SubR (fun (c_ : Nat → Int) (b_ : Nat) => PgR .u32 4096 64 c_ b_) V, MemR m b V] w11 := hW
   refine wp_region_lit ?_
   refine st_rd (v := Value.pointer (some ⟨y10.2, 0, none⟩)) hA (by kernel_rfl) (by kernel_rfl) (by kernel_rfl) hW.cls (Rd.pure fun _ => by kernel_rfl) ?_; clear hA ac; intro ac hA
   refine st_rd (v := Value.pointer (some ⟨y10.2, 0, none⟩)) hA (by kernel_rfl) (by kernel_rfl) (by kernel_rfl) hW.cls (Rd.pure fun _ => by kernel_rfl) ?_; clear hA ac; intro ac hA
   refine st_rd (v := Value.agg (pgA .u32 4096 c12)) hA (by kernel_rfl) (by kernel_rfl) (by kernel_rfl) hW.cls (Rd.load (b := y10.2) (i := 0) (by kernel_rfl) (fun _ hw => show _ = _ from (hw.1).getG 0 rfl) (ldv_page (e := 28) (by kernel_rfl) (by kernel_rfl))) ?_; clear hA ac; intro ac hA
   refine st hA (by kernel_rfl) (by kernel_rfl) (by kernel_rfl) (Runs.cells (fun b => Value.pointer (some ⟨b, 0, none⟩)) (pgA .u32 4096 (fun _ => 0)) 64 (fun _ => by kernel_rfl) hW ?_); clear hA ac hW; intro b13 w14 hW hb13 hfw14 ac hA
   refine st hA (by kernel_rfl) (by kernel_rfl) (by kernel_rfl) (Runs.storePgAll (k := .u32) (n := 4096) (f := c12) (g := (fun _ => 0)) (b := b13) (by kernel_rfl) (by kernel_rfl) (by kernel_rfl) hW 0 rfl (H' := [PgR .u32 4096 64 c12 b13, Cel n2 #[Value.map (some n3)] 54, mapR n3 (fun a : Int => Value.int .u32 a) (fun x_ : Nat => Value.pointer (some ⟨x_, 0, none⟩)) (outs W), SubR (fun (c_ : Nat → Int) (b_ : Nat) => PgR .u32 4096 64 c_ b_) W, IterX r4 b es5 ck6 (fun a : Int => Value.int .u32 a) (fun x_ : Nat => Value.pointer (some ⟨x_, 0, none⟩)) (List.eraseIdx (outs Vl) k9) (some y10)]) rfl ?_); clear hA ac hW; intro w15 hW ac hA
   refine wpList_nil ?_
   refine thenN ?_
   refine wp_region_lit ?_
   refine st_rd (v := Value.pointer (some ⟨n2, 0, none⟩)) hA (by kernel_rfl) (by kernel_rfl) (by kernel_rfl) hW.cls (Rd.pure fun _ => by kernel_rfl) ?_; clear hA ac; intro ac hA
   refine st_rd (v := Value.pointer (some ⟨n2, 0, none⟩)) hA (by kernel_rfl) (by kernel_rfl) (by kernel_rfl) hW.cls (Rd.pure fun _ => by kernel_rfl) ?_; clear hA ac; intro ac hA
   refine st_rd (v := Value.pointer (some ⟨n2, 0, none⟩)) hA (by kernel_rfl) (by kernel_rfl) (by kernel_rfl) hW.cls (Rd.pure fun _ => by kernel_rfl) ?_; clear hA ac; intro ac hA
   refine st_rd (v := Value.map (some n3)) hA (by kernel_rfl) (by kernel_rfl) (by kernel_rfl) hW.cls (Rd.load (b := n2) (i := 0) (by kernel_rfl) (fun _ hw => (hw.1).cel 1 rfl) (by kernel_rfl)) ?_; clear hA ac; intro ac hA
   refine st_rd (v := Value.int .u32 y10.1) hA (by kernel_rfl) (by kernel_rfl) (by kernel_rfl) hW.cls (Rd.pure fun _ => by kernel_rfl) ?_; clear hA ac; intro ac hA
   refine st hA (by kernel_rfl) (by kernel_rfl) (by kernel_rfl) (Runs.mapUpdate (k := 28) (e := 62) (ek := (fun a : Int => Value.int .u32 a)) (ev := (fun x_ : Nat => Value.pointer (some ⟨x_, 0, none⟩))) (m := (outs W)) (y10.1 : Int) b13 (by kernel_rfl) (by kernel_rfl) (by kernel_rfl) (KeyE.int (by kernel_rfl)) (by kernel_rfl) hW (i := 2) rfl ?_); clear hA ac hW; intro w16 hW ac hA
   refine wpList_nil ?_
   refine blkN ?_
   refine thenN ?_
   have hno := copy_new hn hp hcc12; have hstep := copy_step (b := b13) hp hcc12; have hlt_ := er_len_ hcc12
   rw [put_end hno, ← outs_snoc y10.1 b13 c12] at hW
   have hW := Ws.subAdd (f := (fun (c_ : Nat → Int) (b_ : Nat) => PgR .u32 4096 64 c_ b_)) (hW.pick [0, 3, 1, 2, 4] (by decide) rfl) y10.1
   replace hW : Ws w No [SubR (fun (c_ : Nat → Int) (b_ : Nat) => PgR .u32 4096 64 c_ b_) (W ++ [(y10.1, b13, c12)]), Cel n2 #[Value.map (some n3)] 54, mapR n3 (fun a : Int => Value.int .u32 a) (fun x_ : Nat => Value.pointer (some ⟨x_, 0, none⟩)) (outs (W ++ [(y10.1, b13, c12)])), IterX r4 b es5 ck6 (fun a : Int => Value.int .u32 a) (fun x_ : Nat => Value.pointer (some ⟨x_, 0, none⟩)) (List.eraseIdx (outs Vl) k9) (some y10)] [PgR .u32 4096 64 c12 y10.2, MapX b es5 ck6, Cel m #[Value.map (some b)] 54, mapR b (fun a : Int => Value.int .u32 a) (fun x_ : Nat => Value.pointer (some ⟨x_, 0, none⟩)) (outs V), SubR (fun (c_ : Nat → Int) (b_ : Nat) => PgR .u32 4096 64 c_ b_) V, MemR m b V] w16 := hW
   rw [← outs_erase] at hW
   exact ⟨(List.eraseIdx Vl k9).length, by omega, List.eraseIdx Vl k9, W ++ [(y10.1, b13, c12)], (some y10), rfl, by exact hstep, by exact fun e he => hsub e (List.eraseIdx_subset he), hA.sub ⟨⟨by kernel_rfl, by kernel_rfl⟩, ⟨by kernel_rfl, by kernel_rfl⟩, ⟨by kernel_rfl, by kernel_rfl⟩, trivial⟩, (hW.pick [1, 2, 0, 3] (by decide) rfl).pickG [1, 2, 3, 4, 5] rfl⟩

end Go.Proofs.Ytcokpdlmahlpnaa.L
