/- Contracts, walked by program over the engine's laws. -/
import Derived.Test.YtfkbjfbbigbacaaGreatDoorProg
import Derived.Test.YtfkbjfbbigbacaaGreatDoorSortP21
namespace Go.Proofs.YtfkbjfbbigbacaaGreatDoor.L
open Go.RowKit
open Go.Value renaming int → vI, slice → vS, bool → vB, pointer → vP, func → vF, agg → vA, map → vM, tuple → vT

theorem told_is (p : Pair) : (Pair.told p).ok = true := by unfold Pair.told; split; assumption; decide
theorem race_ok {E : List Event} {x : Race} (h : x ∈ raceL E) : x.p.ok = true := by
  unfold raceL raceP at h
  obtain ⟨j, -, hj⟩ := List.mem_flatMap.1 h
  obtain ⟨i, -, rfl⟩ := List.mem_map.1 hj
  exact told_is _
theorem races_ok {E : List Event} : ∀ x ∈ (raceL E).map Race.p, x.ok = true := fun x hx => by
  obtain ⟨r, hr, rfl⟩ := List.mem_map.1 hx; exact race_ok hr
def pairL (E : List Event) : List Pair := (raceL E).map Race.p
theorem pairL_len (E : List Event) : (pairL E).length = (raceL E).length := by simp [pairL]
theorem withP_eq (E : List Event) (j : Int) : ∀ n : Nat, n ≤ E.length → ((raceP E n).filter fun r => decide (r.j = j)).map Race.i = if 0 ≤ j ∧ j < (n : Int) then withE E j else []
  | 0, _ => by rw [if_neg (by omega)]; simp [raceP]
  | n + 1, h => by
    have h1 : ∀ m : List Int, ((m.map fun i => mkR E i (n : Int)).filter fun r => decide (r.j = j)).map Race.i = if (n : Int) = j then m else [] := by
      intro m
      induction m with
      | nil => simp
      | cons a m ih =>
        rw [List.map_cons, List.filter_cons]
        by_cases q : (n : Int) = j
        · rw [if_pos (by exact decide_eq_true q), List.map_cons, ih, if_pos q, if_pos q]; rfl
        · rw [if_neg (by show ¬ decide ((n : Int) = j) = true; simp [q]), ih, if_neg q, if_neg q]
    rw [raceP_snoc, List.filter_append, List.map_append, withP_eq E j n (by omega), h1]
    by_cases q : (n : Int) = j
    · subst q; rw [if_neg (by omega), if_pos rfl, if_pos (by omega)]; rfl
    · rw [if_neg q, List.append_nil]
      by_cases r : 0 ≤ j ∧ j < (n : Int)
      · rw [if_pos r, if_pos (by omega)]
      · rw [if_neg r, if_neg (by omega)]
theorem with_eq (E : List Event) (j : Int) : ((raceL E).filter fun r => decide (r.j = j)).map Race.i = withE E j := by
  unfold raceL
  rw [withP_eq E j E.length (Nat.le_refl _)]
  split
  · rfl
  · rename_i h; unfold withE; rw [if_neg h]
theorem filt_snoc {l : List Race} {k : Nat} {y : Race} (h : l[k]? = some y) (j : Int) : ((l.take (k + 1)).filter fun r => decide (r.j = j)).map Race.i = ((l.take k).filter fun r => decide (r.j = j)).map Race.i ++ if y.j = j then [y.i] else [] := by
  rw [tk_snoc h, List.filter_append, List.map_append]
  congr 1
  by_cases q : y.j = j <;> simp [q]
set_option maxRecDepth 100000 in
theorem it_107 (b0 b1 : Nat) (m : List (Pair × Int)) : Iter Tryz.prog 107 #[pA b0 0] (fun x_ : Pair => #[x_.v]) (fun l_ => l_.Perm (keys m)) [Cel b0 #[vM (some b1)] 92, mapR b1 Pair.v (fun a : Int => vI .i64 a) m] := by
 intro l_ J_ Jx_ r0 w hOs_ hdis_ hR_ hJ0_ hp_ hlt_
 have hW := iterW hOs_ hdis_ hp_ hlt_; clear hOs_ hdis_ hp_ hlt_
 refine enter_F 14 Tryz.func107 rfl rfl (by kernel_rfl) (L := [(0, vF (.yield l_) #[] #[]), (1, pA b0 0)]) (by kernel_rfl) ?_
 intro ac hA
 refine wpIn_seq <| wpIn_region_lit <| st_rdF (v := vM (some b1)) hA (by kernel_rfl) (by kernel_rfl) (by kernel_rfl) (by kernel_rfl) hW.cls (Rd.load (b := b0) (i := 0) (by kernel_rfl) (fun _ hw => show _ = _ from (hw.1).getG 0 rfl) (by kernel_rfl)) ?_; clear hA ac; intro ac hA
 refine stF hA (by kernel_rfl) (by kernel_rfl) (by kernel_rfl) (by kernel_rfl) (RunsF.of (Runs.range (k := 45) (e := 3) (ek := Pair.v) (ev := (fun a : Int => vI .i64 a)) (m := m) (by kernel_rfl) (by kernel_rfl) hW 1 rfl ?_)); clear hA ac hW; intro r1 es2 ck3 w4 hnr1 hW hfw4 ac hA
 refine wpListIn_nil <| thenN <| wpIn_block <| wpIn_loop_m (fun m_ ac_ wl_ => ∃ left : List (Pair × Int), ∃ cur : Option (Pair × Int), ∃ r_ : Res, ∃ pre : List Pair, m_ = left.length ∧ (J_ pre r_) ∧ ((pre ++ left.map (·.1)).Perm (keys m)) ∧ Fm 14 [] [(0, vF (.yield l_) #[] #[]), (5, pA r1 0)] ac_ ∧ Ws w (· ∈ r0.fp) [IterX r1 b1 es2 ck3 Pair.v (fun a : Int => vI .i64 a) left cur, r_] [MapX b1 es2 ck3, Cel b0 #[vM (some b1)] 92, mapR b1 Pair.v (fun a : Int => vI .i64 a) m] wl_) _ ⟨m, none, r0, [], rfl, by exact hJ0_, by exact List.Perm.refl _, hA.sub ⟨⟨by kernel_rfl, by kernel_rfl⟩, ⟨by kernel_rfl, by kernel_rfl⟩, trivial⟩, (hW.pick [0, 1] (by decide) rfl).pickG [0, 1, 2] rfl⟩ ?_
 clear hA ac hW; rintro m_ ac w5 ⟨left, cur, r_, pre, rfl, hJ, hp, hA, hW⟩
 refine wpIn_seq <| wpIn_region_lit <| stF hA (by kernel_rfl) (by kernel_rfl) (by kernel_rfl) (by kernel_rfl) (RunsF.of (Runs.next (ek := Pair.v) (ev := (fun a : Int => vI .i64 a)) (r := r1) (b := b1) (es := es2) (clock := ck3) (left := left) (cur := cur) (by kernel_rfl) hnr1 hW 0 0 rfl rfl ?_ ?_))
 ·
  intro hdoner1 ac hA
  refine st_rdF (v := vB false) hA (by kernel_rfl) (by kernel_rfl) (by kernel_rfl) (by kernel_rfl) hW.cls (Rd.pure fun _ => by kernel_rfl) ?_; clear hA ac; intro ac hA
  refine wpListIn_nil <| thenN <| wpIn_seq <| wpIn_cond_false (hA.eval (by kernel_rfl)) <| wpIn_exit <| thenX <| thenX <| blkX <| retF (.inr rfl) hA <| leave0 (by rfl)  ?_
  clear hA
  exact ranDone hW 1 rfl (.inl ⟨_, key_done hp hdoner1, hJ⟩)
 ·
  clear hA ac; intro k6 y7 w8 hkk6 hW ac hA
  refine st_rdF (v := vB true) hA (by kernel_rfl) (by kernel_rfl) (by kernel_rfl) (by kernel_rfl) hW.cls (Rd.pure fun _ => by kernel_rfl) ?_; clear hA ac; intro ac hA
  refine wpListIn_nil <| thenN <| wpIn_seq <| wpIn_cond_true (hA.eval (by kernel_rfl)) <| wpIn_skip <| thenN <| wpIn_block <| wpIn_seq <| wpIn_region_lit <| st_rdF (v := vT #[y7.1.v, vI .i64 y7.2]) hA (by kernel_rfl) (by kernel_rfl) (by kernel_rfl) (by kernel_rfl) hW.cls (Rd.entry (ek := Pair.v) (ev := (fun a : Int => vI .i64 a)) (r := r1) (b := b1) (es := es2) (clock := ck3) (left := (List.eraseIdx left k6)) (y := y7) (by kernel_rfl) hnr1 (fun _ hw => show _ = _ from (hw.1).getG 0 rfl) (fun _ hw => (hw.1).get 0 rfl)) ?_; clear hA ac; intro ac hA
  refine st_rdF (v := y7.1.v) hA (by kernel_rfl) (by kernel_rfl) (by kernel_rfl) (by kernel_rfl) hW.cls (Rd.pure fun _ => by kernel_rfl) ?_; clear hA ac; intro ac hA
  refine stF hA (by kernel_rfl) (by kernel_rfl) (by kernel_rfl) (by kernel_rfl) (RunsF.of (Runs.cells (fun b => pA b 0) #[vI .i64 0, vI .i64 0, vI .i64 0, vI .i64 0] 45 (fun _ => by kernel_rfl) hW ?_)); clear hA ac hW; intro b9 w10 hW hb9 hfw10 ac hA
  refine stF hA (by kernel_rfl) (by kernel_rfl) (by kernel_rfl) (by kernel_rfl) (RunsF.of (Runs.store (v := y7.1.v) (b := b9) (j := 0) (n := 4) (cs' := #[vI .i64 y7.1.a.f, vI .i64 y7.1.a.pc, vI .i64 y7.1.b.f, vI .i64 y7.1.b.pc]) (H' := [Cel b9 #[vI .i64 y7.1.a.f, vI .i64 y7.1.a.pc, vI .i64 y7.1.b.f, vI .i64 y7.1.b.pc] 45, IterX r1 b1 es2 ck3 Pair.v (fun a : Int => vI .i64 a) (List.eraseIdx left k6) (some y7), r_]) (by kernel_rfl) (by kernel_rfl) (by kernel_rfl) (by kernel_rfl) (by kernel_rfl) hW 0 (by rfl) (Nat.le_of_ble_eq_true (by kernel_rfl)) (by kernel_rfl) (by rfl) ?_)); clear hA ac hW; intro w11 hW ac hA
  refine wpListIn_nil <| thenN <| wpIn_seq <| wpIn_region_lit <| st_rdF (v := vF (.yield l_) #[] #[]) hA (by kernel_rfl) (by kernel_rfl) (by kernel_rfl) (by kernel_rfl) hW.cls (Rd.pure fun _ => by kernel_rfl) ?_; clear hA ac; intro ac hA
  refine st_rdF (v := vA #[vI .i64 y7.1.a.f, vI .i64 y7.1.a.pc, vI .i64 y7.1.b.f, vI .i64 y7.1.b.pc]) hA (by kernel_rfl) (by kernel_rfl) (by kernel_rfl) (by kernel_rfl) hW.cls (rl b9 0 0) ?_; clear hA ac; intro ac hA
  refine stF hA (by kernel_rfl) (by kernel_rfl) (by kernel_rfl) (by kernel_rfl) (RunsF.yield hR_ (pre) (y7.1) (fun _ => by kernel_rfl) hW 2 rfl (comes_key hp hkk6) (hJ) hW.fr (hW.may _ (List.mem_of_getElem? (i := 2) rfl)) ?_); clear hA ac hW; intro v12 r13 w14 hv12t hv12f hW ac hA
  refine st_rdF (v := vB (!v12)) hA (by kernel_rfl) (by kernel_rfl) (by kernel_rfl) (by kernel_rfl) hW.cls (Rd.pure fun _ => by kernel_rfl) ?_; clear hA ac; intro ac hA
  refine wpListIn_nil <| thenN <| wpIn_cond_split (t := !v12) (hA.eval (by kernel_rfl)) (fun h15 => ?_) (fun h15 => ?_)
  ·
   have h15 := not_t h15
   refine wpIn_ret <| blkR <| thenR <| blkR <| retF (.inl rfl) hA <| leave0 (by rfl)  ?_
   clear hA
   exact ranDone hW 2 rfl (.inr ⟨_, hv12f h15⟩)
  have h15 := not_f h15
  refine wpIn_skip <| blkN <| thenN ?_
  have hJn := hv12t h15; have hlt_ := er_len_ hkk6
  exact ⟨(List.eraseIdx left k6).length, by omega, List.eraseIdx left k6, (some y7), r13, pre ++ [y7.1], rfl, by exact hJn, by exact key_step hp hkk6, hA.sub ⟨⟨by kernel_rfl, by kernel_rfl⟩, ⟨by kernel_rfl, by kernel_rfl⟩, trivial⟩, (hW.pick [1, 2] (by decide) rfl).pickG [0, 1, 2] rfl⟩

set_option maxRecDepth 100000 in
theorem e_keys_75 (b : Nat) (h : List (Pair × Int)) (w : World) (ho_x : (mapR b Pair.v (fun a : Int => vI .i64 a) h).p w) : Calls Tryz.prog 75 #[vM (some b)] w (fun e w' => ∃ (lb : Array Value) (g : Res), e = .returned (vF (.func 107) #[] lb) ∧ Iter Tryz.prog 107 lb (fun x_ : Pair => #[x_.v]) (fun l_ => l_.Perm (keys h)) [g] ∧ g.from_ [mapR b Pair.v (fun a : Int => vI .i64 a) h] w w' ∧ Fr No w w') := by
 have _hu := ho_x; clear _hu
 refine enter_E 4 Tryz.func75 rfl rfl (by kernel_rfl) (L := [(0, vM (some b))]) (by kernel_rfl) ?_
 intro ac hA
 have hW := Ws.start w No
 have hW := hW.mapG ho_x
 refine wr <| st_s hA (Runs.cells (fun b => pA b 0) #[vM (some b)] 92 (fun _ => by kernel_rfl) hW ?_); clear hA ac hW; intro b1 w2 hW hb1 hfw2 ac hA
 refine st_p (Value.nilFunc) hA ?_; clear hA ac; intro ac hA
 refine wn <| wr <| st_p (vF (.func 107) #[] #[pA b1 0]) hA fun ac hA => st_p (vF (.func 107) #[] #[pA b1 0]) hA fun ac hA => wn <| wp_ret <| r1 (vF (.func 107) #[] #[pA b1 0]) hA ?_
 clear hA
 exact ⟨_, _, rfl, iter_many (it_107 b1 b h), from_many (froms_cons (hW.outOwn 0 rfl (fun _ h => h)) (froms_cons (hW.outArg 0 rfl (.head _)) froms_nil)), hW.fr⟩

set_option maxRecDepth 100000 in
theorem e_app_122_107 (lb_q : Array Value) (g_q : Res) (Sx_q : List Pair → Prop) (w : World) (hI_q : Iter Tryz.prog 107 lb_q (fun x_ : Pair => #[x_.v]) Sx_q [g_q]) (hg_q : g_q.p w) (hgl_q : ∀ x_ ∈ g_q.fp, x_ < w.heap.size) (hb_ : ∀ l_, Sx_q l_ → l_.length ≤ 100000) : Calls Tryz.prog 122 #[vS none 0 0, vF (.func 107) #[] lb_q] w (fun e w' => ∃ ks : List Pair, ∃ (A_o : Option Addr) (c_o : Nat), e = .returned (vS A_o ks.length c_o) ∧ (Sx_q ks) ∧ ks.length ≤ c_o ∧ Made (rowR 45 4 enPair (.slice A_o ks.length c_o) ks) w w') := by
 have _hu := hb_; clear _hu
 refine enter_F 13 Tryz.func122 rfl rfl (by kernel_rfl) (L := [(0, vS none 0 0), (1, vF (.func 107) #[] lb_q)]) (by kernel_rfl) ?_
 intro ac hA
 have hW := Ws.start w No
 have hW := hW.addG g_q hg_q hgl_q (by simp)
 refine wpIn_seq <| wpIn_region_lit <| stF hA (by kernel_rfl) (by kernel_rfl) (by kernel_rfl) (by kernel_rfl) (RunsF.of (Runs.cells (fun b => pA b 0) #[vS none 0 0] 73 (fun _ => by kernel_rfl) hW ?_)); clear hA ac hW; intro b1 w2 hW hb1 hfw2 ac hA
 refine st_rdF (v := vS none 0 0) hA (by kernel_rfl) (by kernel_rfl) (by kernel_rfl) (by kernel_rfl) hW.cls (Rd.pure fun _ => by kernel_rfl) ?_; clear hA ac; intro ac hA
 refine wpListIn_nil <| thenN <| wpIn_seq <| wpIn_seq ?_
 have hW := hW.addNil 45 4 enPair
 refine wpIn_region_lit <| st_rdF (v := vF (.func 107) #[] lb_q) hA (by kernel_rfl) (by kernel_rfl) (by kernel_rfl) (by kernel_rfl) hW.cls (Rd.pure fun _ => by kernel_rfl) ?_; clear hA ac; intro ac hA
 refine wpListIn_nil <| thenN <| wpIn_block <| wp_range (encs := (fun x_ : Pair => #[x_.v])) (Sx := Sx_q) hA (by kernel_rfl) (by kernel_rfl) (enters_of Tryz.func107 (by kernel_rfl) rfl) (by kernel_rfl) (fun _ => rfl) hI_q (List.forall_mem_singleton.2 (List.mem_of_getElem? (i := 0) rfl)) (fun pre_ H_ => ∃ A : Option Addr, ∃ c : Nat, True ∧ (pre_.length ≤ c) ∧ H_ = [Cel b1 #[vS A pre_.length c] 73, rowR 45 4 enPair (vS A pre_.length c) pre_]) (fun _ _ _ => False) (H := [Cel b1 #[vS none 0 0] 73, rowR 45 4 enPair (vS none 0 0) ([] : List Pair)]) (K := []) (hW.pick [1, 0] (by decide) rfl) ⟨none, 0, trivial, by simp, rfl⟩ ?_ ?_ ?_
 ·
  clear hA ac hW; intro l_3 rd_3 bs_3 pre_ x_ Hk_ w4 T_3 ac hrd_3 hbs_3 hbr_3 hok_ hJ_ hA hW hB_3 hT_3
  obtain ⟨A, c, _, hcap, rfl⟩ := hJ_
  obtain ⟨y5, h_⟩ : ∃ y_, y_ = x_ := ⟨_, rfl⟩; subst h_
  replace hA : Fm 13 [] [(0, vS none 0 0), (1, vF (.func 107) #[] lb_q), (2, pA b1 0), (4, vS none 0 0), (6, vF (.func 107) #[] lb_q), (7, y5.v)] ac := hA.sub (by and_intros <;> first | kernel_rfl | trivial)
  have hpl_ := comes_lt hok_ hb_
  refine wpIn_region_lit <| stF hA (by kernel_rfl) (by kernel_rfl) (by kernel_rfl) (by kernel_rfl) (RunsF.of (Runs.cells (fun b => pA b 0) #[vI .i64 0, vI .i64 0, vI .i64 0, vI .i64 0] 45 (fun _ => by kernel_rfl) hW ?_)); clear hA ac hW; intro b6 w7 hW hb6 hfw7 ac hA
  refine stF hA (by kernel_rfl) (by kernel_rfl) (by kernel_rfl) (by kernel_rfl) (RunsF.of (Runs.store (v := y5.v) (b := b6) (j := 0) (n := 4) (cs' := #[vI .i64 y5.a.f, vI .i64 y5.a.pc, vI .i64 y5.b.f, vI .i64 y5.b.pc]) (H' := [Cel b6 #[vI .i64 y5.a.f, vI .i64 y5.a.pc, vI .i64 y5.b.f, vI .i64 y5.b.pc] 45, rd_3, Cel b1 #[vS A pre_.length c] 73, rowR 45 4 enPair (vS A pre_.length c) pre_]) (by kernel_rfl) (by kernel_rfl) (by kernel_rfl) (by kernel_rfl) (by kernel_rfl) hW 0 (by rfl) (Nat.le_of_ble_eq_true (by kernel_rfl)) (by kernel_rfl) (by rfl) ?_)); clear hA ac hW; intro w8 hW ac hA
  refine wpListIn_nil <| thenN <| begun (bs := bs_3) (H' := [Cel b6 #[vI .i64 y5.a.f, vI .i64 y5.a.pc, vI .i64 y5.b.f, vI .i64 y5.b.pc] 45, bs_3, Cel b1 #[vS A pre_.length c] 73, rowR 45 4 enPair (vS A pre_.length c) pre_]) hW 1 rfl (fun b hb => by rw [hbs_3] at hb; rw [hrd_3]; exact hb) rfl ?_; clear hW; intro w9 hW
  refine wpIn_block <| wpIn_region_lit <| st_rdF (v := vS A pre_.length c) hA (by kernel_rfl) (by kernel_rfl) (by kernel_rfl) (by kernel_rfl) hW.cls (rl b1 0 2) ?_; clear hA ac; intro ac hA
  refine st_rdF (v := vA #[vI .i64 y5.a.f, vI .i64 y5.a.pc, vI .i64 y5.b.f, vI .i64 y5.b.pc]) hA (by kernel_rfl) (by kernel_rfl) (by kernel_rfl) (by kernel_rfl) hW.cls (rl b6 0 0) ?_; clear hA ac; intro ac hA
  refine stF hA (by kernel_rfl) (by kernel_rfl) (by kernel_rfl) (by kernel_rfl) (RunsF.of (Runs.cells (fun b => vS (some ⟨b, 0, none⟩) 1 1) #[vI .i64 y5.a.f, vI .i64 y5.a.pc, vI .i64 y5.b.f, vI .i64 y5.b.pc] 45 (fun _ => by kernel_rfl) hW ?_)); clear hA ac hW; intro b10 w11 hW hb10 hfw11 ac hA
  refine stF hA (by kernel_rfl) (by kernel_rfl) (by kernel_rfl) (by kernel_rfl) (RunsF.of (Runs.appOwn (B := (some ⟨b10, 0, none⟩)) (k := 1) (E := 45) (sz := 4) (en := enPair) (l := pre_) (m := ([y5] : List Pair)) (i := 4) (by kernel_rfl) (by kernel_rfl) elt_Pair (by kernel_rfl) hW rfl (rowAt_cel ((hW).cel 0 rfl) ([y5] : List Pair) (by rfl) elt_Pair.len) (by first | omega | (simp; done) | (simp; omega)) (by first | omega | (simp; done) | (simp; omega)) ?_)); clear hA ac hW; intro A12 c13 w14 hW hcc13 ac hA
  refine stF hA (by kernel_rfl) (by kernel_rfl) (by kernel_rfl) (by kernel_rfl) (RunsF.of (Runs.store (v := vS A12 (pre_ ++ ([y5] : List Pair)).length c13) (b := b1) (j := 0) (n := 1) (cs' := #[vS A12 (pre_ ++ ([y5] : List Pair)).length c13]) (H' := [Cel b10 #[vI .i64 y5.a.f, vI .i64 y5.a.pc, vI .i64 y5.b.f, vI .i64 y5.b.pc] 45, Cel b6 #[vI .i64 y5.a.f, vI .i64 y5.a.pc, vI .i64 y5.b.f, vI .i64 y5.b.pc] 45, bs_3, Cel b1 #[vS A12 (pre_ ++ ([y5] : List Pair)).length c13] 73, rowR 45 4 enPair (vS A12 (pre_ ++ ([y5] : List Pair)).length c13) (pre_ ++ ([y5] : List Pair))]) (by kernel_rfl) (by kernel_rfl) (by kernel_rfl) (by kernel_rfl) (by kernel_rfl) hW 3 (by rfl) (Nat.le_of_ble_eq_true (by kernel_rfl)) (by kernel_rfl) (by rfl) ?_)); clear hA ac hW; intro w15 hW ac hA
  refine wpListIn_nil <| blkN ?_
  exact ⟨_, ⟨A12, c13, trivial, by exact hcc13, rfl⟩, (hW.pick [2, 3, 4] (by decide) rfl).pickG [0] rfl⟩
 ·
  clear hA ac hW; intro D16 pre_ Hk_ w17 ac hS_ hJ_ hA hW
  obtain ⟨A, c, _, hcap, rfl⟩ := hJ_
  replace hW : Ws w No [Cel b1 #[vS A pre_.length c] 73, rowR 45 4 enPair (vS A pre_.length c) pre_, DefR D16] [g_q] w17 := hW
  refine blkN <| thenN <| wpIn_seq <| wpIn_region_lit <| st_rdF (v := vS A pre_.length c) hA (by kernel_rfl) (by kernel_rfl) (by kernel_rfl) (by kernel_rfl) hW.cls (rl b1 0 0) ?_; clear hA ac; intro ac hA
  refine st_rdF (v := vS A pre_.length c) hA (by kernel_rfl) (by kernel_rfl) (by kernel_rfl) (by kernel_rfl) hW.cls (Rd.pure fun _ => by kernel_rfl) ?_; clear hA ac; intro ac hA
  refine wpListIn_nil <| thenN <| wpIn_ret <| retF (.inl rfl) hA <| leaveD (H' := [Cel b1 #[vS A pre_.length c] 73, rowR 45 4 enPair (vS A pre_.length c) pre_]) hW 2 rfl rfl ?_; clear hW; intro w18 hW
  refine leave1 (v := vS A pre_.length c) (by rfl) (GotF.tmp hA (by kernel_rfl) (by kernel_rfl)) ?_
  clear hA
  exact ⟨pre_, A, c, by first | rfl | (simp; done), by exact hS_, (own_cap ((hW).get 1 rfl)), hW.madeRow 1 rfl⟩
 ·
  clear hA ac hW; intro D19 c_ pre_ Hk_ w20 ac hJ_ hA hW
  exact hJ_.elim

set_option maxRecDepth 100000 in
theorem e_col_105_107 (lb_q : Array Value) (g_q : Res) (Sx_q : List Pair → Prop) (w : World) (hI_q : Iter Tryz.prog 107 lb_q (fun x_ : Pair => #[x_.v]) Sx_q [g_q]) (hg_q : g_q.p w) (hgl_q : ∀ x_ ∈ g_q.fp, x_ < w.heap.size) (hb_ : ∀ l_, Sx_q l_ → l_.length ≤ 100000) : Calls Tryz.prog 105 #[vF (.func 107) #[] lb_q] w (fun e w' => ∃ ks : List Pair, ∃ (A_o : Option Addr) (c_o : Nat), e = .returned (vS A_o ks.length c_o) ∧ (Sx_q ks) ∧ ks.length ≤ c_o ∧ Made (rowR 45 4 enPair (.slice A_o ks.length c_o) ks) w w') := by
 have _hu := hb_; clear _hu
 refine enter_E 5 Tryz.func105 rfl rfl (by kernel_rfl) (L := [(0, vF (.func 107) #[] lb_q)]) (by kernel_rfl) ?_
 intro ac hA
 have hW := Ws.start w No
 have hW := hW.addG g_q hg_q hgl_q (by simp)
 refine wr <| st_p (vS none 0 0) hA ?_; clear hA ac; intro ac hA
 refine wn <| wr <| st_p (vF (.func 107) #[] lb_q) hA ?_; clear hA ac; intro ac hA
 refine st_s hA (Runs.call (fun _ => by kernel_rfl) (e_app_122_107 lb_q g_q Sx_q w hI_q ((hW).getG 0 rfl) ((hW).glt _ (List.mem_of_getElem? (i := 0) rfl)) (by assumption)) ?_)
 rintro _ w1 ⟨g2, Ao3, co4, rfl, hw1_hS, hcco4, hu_⟩; refine ⟨_, rfl, ?_⟩; replace hW := hW.made hu_; clear hA ac; intro ac hA
 refine st_p (vS Ao3 g2.length co4) hA ?_; clear hA ac; intro ac hA
 refine wn <| wp_ret <| r1 (vS Ao3 g2.length co4) hA ?_
 clear hA
 exact ⟨g2, Ao3, co4, by first | rfl | (simp; done), by assumption, (own_cap ((hW).get 0 rfl)), hW.madeRow 0 rfl⟩

set_option maxRecDepth 100000 in
theorem e_sortedFunc (lb_q : Array Value) (g_q : Res) (Sx_q : List Pair → Prop) (w : World) (hI_q : Iter Tryz.prog 107 lb_q (fun x_ : Pair => #[x_.v]) Sx_q [g_q]) (hg_q : g_q.p w) (hgl_q : ∀ x_ ∈ g_q.fp, x_ < w.heap.size) (hb_ : ∀ l_, Sx_q l_ → l_.length ≤ 100000) : Calls Tryz.prog 74 #[vF (.func 107) #[] lb_q, vF (.func 76) #[] #[]] w (fun e w' => ∃ ks : List Pair, ∃ (A_o : Option Addr) (c_o : Nat), e = .returned (vS A_o ks.length c_o) ∧ (∃ l, Sx_q l ∧ ks.Perm l) ∧ (ks.Pairwise fun x y => ¬ ltP y x) ∧ ks.length ≤ c_o ∧ Made (rowR 45 4 enPair (.slice A_o ks.length c_o) ks) w w') := by
 have _hu := hb_; clear _hu
 refine enter_E 12 Tryz.func74 rfl rfl (by kernel_rfl) (L := [(0, vF (.func 107) #[] lb_q), (1, vF (.func 76) #[] #[])]) (by kernel_rfl) ?_
 intro ac hA
 have hW := Ws.start w No
 have hW := hW.addG g_q hg_q hgl_q (by simp)
 refine wr <| st_p (vS none 0 0) hA ?_; clear hA ac; intro ac hA
 refine wn <| wr <| st_p (vF (.func 107) #[] lb_q) hA ?_; clear hA ac; intro ac hA
 refine st_s hA (Runs.call (fun _ => by kernel_rfl) (e_col_105_107 lb_q g_q Sx_q w hI_q ((hW).getG 0 rfl) ((hW).glt _ (List.mem_of_getElem? (i := 0) rfl)) (by assumption)) ?_)
 rintro _ w1 ⟨g2, Ao3, co4, rfl, hw1_hS, hcco4, hu_⟩; refine ⟨_, rfl, ?_⟩; replace hW := hW.made hu_; clear hA ac; intro ac hA
 refine st_p (vS Ao3 g2.length co4) hA ?_; clear hA ac; intro ac hA
 refine wn <| wp_seq ?_
 have hkl_ := hb_ _ hw1_hS
 refine wp_region_lit <| st_p (vS Ao3 g2.length co4) hA fun ac hA => st_p (vF (.func 76) #[] #[]) hA fun ac hA => st_s hA (Runs.call (fun _ => by kernel_rfl) (e_sortPair (A := Ao3) (c := co4) (l := g2) w1 (hW.get 0 rfl) (by omega) trivial) ?_)
 rintro _ w6 ⟨rfl, l7, hperm_, hsort_, hu_⟩; refine ⟨_, rfl, ?_⟩; have hlen_ := hperm_.length_eq; replace hW := hW.upd 0 rfl hu_ rfl; rw [← hlen_] at hW ⊢; clear hA ac; intro ac hA
 refine wn <| wr <| st_p (vS Ao3 l7.length co4) hA fun ac hA => st_p (vS Ao3 l7.length co4) hA fun ac hA => wn <| wp_ret <| r1 (vS Ao3 l7.length co4) hA ?_
 clear hA
 exact ⟨l7, Ao3, co4, by first | rfl | (simp; done), by exact ⟨_, hw1_hS, hperm_⟩, by exact hsort_, (own_cap ((hW).get 0 rfl)), hW.madeRow 0 rfl⟩

set_option maxRecDepth 100000 in
theorem e_prising (b : Nat) (h : List (Pair × Int)) (w : World) (ho_x : (mapR b Pair.v (fun a : Int => vI .i64 a) h).p w) (hl : h.length ≤ 100000) : Calls Tryz.prog 49 #[vM (some b)] w (fun e w' => ∃ ks : List Pair, ∃ (A_o : Option Addr) (c_o : Nat), e = .returned (vS A_o ks.length c_o) ∧ (ks.Perm (keys h)) ∧ (ks.Pairwise fun x y => ¬ ltP y x) ∧ ks.length ≤ c_o ∧ Made (rowR 45 4 enPair (.slice A_o ks.length c_o) ks) w w') := by
 have _hu := ho_x; clear _hu
 have _hu := hl; clear _hu
 refine enter_E 6 Tryz.func49 rfl rfl (by kernel_rfl) (L := [(0, vM (some b))]) (by kernel_rfl) ?_
 intro ac hA
 have hW := Ws.start w No
 have hW := hW.mapG ho_x
 refine wr <| st_p (vS none 0 0) hA ?_; clear hA ac; intro ac hA
 refine wn <| wr <| st_p (vM (some b)) hA ?_; clear hA ac; intro ac hA
 refine st_s hA ((Runs.call (fun _ => by kernel_rfl) (e_keys_75 b h w ((hW).getG 0 rfl)) ?_))
 rintro _ w1 ⟨lb2, g3, rfl, hIg3, hfg3, hfw1⟩; refine ⟨_, rfl, ?_⟩; have hW0 := hW; have hW := hW0.call hfw1; have hW := hW0.addFromAt hW hfg3 (in_cons (in_at 0 rfl) in_nil); clear hW0 hA ac; intro ac hA
 refine st_s hA (Runs.call (fun _ => by kernel_rfl) (e_sortedFunc lb2 g3 (fun l_ => l_.Perm (keys h)) w1 hIg3 ((hW).getG 0 rfl) ((hW).glt _ (List.mem_of_getElem? (i := 0) rfl)) (fun l_ h_ => by have h2_ := h_.length_eq; simp only [keys, List.length_map] at h2_; omega)) ?_)
 rintro _ w4 ⟨g5, Ao6, co7, rfl, hw4_hp, hw4_hs, hcco7, hu_⟩; refine ⟨_, rfl, ?_⟩; replace hW := hW.made hu_; clear hA ac; intro ac hA
 refine st_p (vS Ao6 g5.length co7) hA ?_; clear hA ac; intro ac hA
 refine wn <| wp_ret <| r1 (vS Ao6 g5.length co7) hA ?_
 clear hA
 exact ⟨g5, Ao6, co7, by first | rfl | (simp; done), by obtain ⟨l_, h1_, h2_⟩ := hw4_hp; exact h2_.trans h1_, by exact hw4_hs, (own_cap ((hW).get 0 rfl)), hW.madeRow 0 rfl⟩

set_option maxRecDepth 100000 in
theorem it_all_Pair (b : Nat) (A : Option Addr) (c : Nat) (l : List Pair) (hc : l.length ≤ c) (hl : l.length ≤ 1000000) : Iter Tryz.prog 79 #[pA b 0] (fun x_ : Pair × Nat => #[vI .i64 ((x_.2 : Nat) : Int), x_.1.v]) (· = l.zipIdx) [Cel b #[vS A l.length c] 73, roR A 4 enPair l] := by
 intro l_ J_ Jx_ r0 w hOs_ hdis_ hR_ hJ0_ hp_ hlt_
 have hW := iterW hOs_ hdis_ hp_ hlt_; clear hOs_ hdis_ hp_ hlt_
 have _hu := hc; clear _hu
 have _hu := hl; clear _hu
 refine enter_F 18 Tryz.func79 rfl rfl (by kernel_rfl) (L := [(0, vF (.yield l_) #[] #[]), (1, pA b 0)]) (by kernel_rfl) ?_
 intro ac hA
 refine wpIn_seq <| wpIn_region_lit <| st_rdF (v := vS A l.length c) hA (by kernel_rfl) (by kernel_rfl) (by kernel_rfl) (by kernel_rfl) hW.cls (Rd.load (b := b) (i := 0) (by kernel_rfl) (fun _ hw => show _ = _ from (hw.1).getG 0 rfl) (by kernel_rfl)) ?_; clear hA ac; intro ac hA
 refine st_rdF (v := vI .i64 (l.length : Int)) hA (by kernel_rfl) (by kernel_rfl) (by kernel_rfl) (by kernel_rfl) hW.cls (Rd.pure fun _ => by kernel_rfl) ?_; clear hA ac; intro ac hA
 refine st_rdF (v := vI .i64 0) hA (by kernel_rfl) (by kernel_rfl) (by kernel_rfl) (by kernel_rfl) hW.cls (Rd.pure fun _ => by kernel_rfl) ?_; clear hA ac; intro ac hA
 refine wpListIn_nil <| thenN <| wpIn_block <| wpIn_loop_m (fun m_ ac_ wl_ => ∃ k : Nat, ∃ r_ : Res, m_ = l.length - k ∧ (k ≤ l.length) ∧ (J_ (l.zipIdx.take k) r_) ∧ Fm 18 [] [(0, vF (.yield l_) #[] #[]), (1, pA b 0), (5, vS A l.length c), (6, vI .i64 (l.length : Int)), (7, vI .i64 (k : Int))] ac_ ∧ Ws w (· ∈ r0.fp) [r_] [Cel b #[vS A l.length c] 73, roR A 4 enPair l] wl_) _ ⟨0, r0, rfl, by omega, by exact hJ0_, hA.sub (by and_intros <;> first | kernel_rfl | trivial), (hW.pick [0] (by decide) rfl).pickG [0, 1] rfl⟩ ?_
 clear hA ac hW; rintro m_ ac w1 ⟨k, r_, rfl, hk, hJ, hA, hW⟩
 refine wpIn_seq <| wpIn_region_lit <| st_rdF (v := vB (decide ((k : Int) < (l.length : Int)))) hA (by kernel_rfl) (by kernel_rfl) (by kernel_rfl) (by kernel_rfl) hW.cls (Rd.pure fun _ => by kernel_rfl) ?_; clear hA ac; intro ac hA
 refine wpListIn_nil <| thenN <| wpIn_seq <| wpIn_cond_split (t := decide ((k : Int) < (l.length : Int))) (hA.eval (by kernel_rfl)) (fun h2 => ?_) (fun h2 => ?_)
 ·
  have h2 := of_decide_eq_true h2
  refine wpIn_skip <| thenN <| wpIn_seq <| wpIn_block <| wpIn_seq <| wpIn_region_lit <| st_rdF (v := vI .i64 (k : Int)) hA (by kernel_rfl) (by kernel_rfl) (by kernel_rfl) (by kernel_rfl) hW.cls (Rd.pure fun _ => by kernel_rfl) ?_; clear hA ac; intro ac hA
  obtain ⟨y3, hy3⟩ : ∃ y, l[k]? = some y := ⟨_, List.getElem?_eq_getElem (by first | omega | (simp; done) | (simp; omega))⟩
  obtain ⟨b4, o5, rfl, hbb4⟩ := row_some ((hW).getG 1 rfl) hy3
  refine st_rdF (v := vP (some ⟨b4, o5 + k * 4, none⟩)) hA (by kernel_rfl) (by kernel_rfl) (by kernel_rfl) (by kernel_rfl) hW.cls (Rd.indexAddr (e := 45) (sz := 4) (b := b4) (off := o5) (n := l.length) (c := c) (k := k) (by kernel_rfl) (by kernel_rfl) (by first | omega | (simp; done) | (simp; omega)) (fun _ => by kernel_rfl) (fun _ => by kernel_rfl)) ?_; clear hA ac; intro ac hA
  refine st_rdF (v := vA #[vI .i64 y3.a.f, vI .i64 y3.a.pc, vI .i64 y3.b.f, vI .i64 y3.b.pc]) hA (by kernel_rfl) (by kernel_rfl) (by kernel_rfl) (by kernel_rfl) hW.cls (Rd.loadRow (b := b4) (i := o5 + k * 4) (xs := [vI .i64 y3.a.f, vI .i64 y3.a.pc, vI .i64 y3.b.f, vI .i64 y3.b.pc]) (by kernel_rfl) (fun _ hw => row_ld ((hw.1).getG 1 rfl) hy3 (Fr.refl No _) (fun h => h) 0 4 (by kernel_rfl)) (by kernel_rfl)) ?_; clear hA ac; intro ac hA
  refine stF hA (by kernel_rfl) (by kernel_rfl) (by kernel_rfl) (by kernel_rfl) (RunsF.of (Runs.cells (fun b => pA b 0) #[vI .i64 0, vI .i64 0, vI .i64 0, vI .i64 0] 45 (fun _ => by kernel_rfl) hW ?_)); clear hA ac hW; intro b6 w7 hW hb6 hfw7 ac hA
  refine st_rdF (v := vI .i64 (k : Int)) hA (by kernel_rfl) (by kernel_rfl) (by kernel_rfl) (by kernel_rfl) hW.cls (Rd.pure fun _ => by kernel_rfl) ?_; clear hA ac; intro ac hA
  refine stF hA (by kernel_rfl) (by kernel_rfl) (by kernel_rfl) (by kernel_rfl) (RunsF.of (Runs.store (v := vA #[vI .i64 y3.a.f, vI .i64 y3.a.pc, vI .i64 y3.b.f, vI .i64 y3.b.pc]) (b := b6) (j := 0) (n := 4) (cs' := #[vI .i64 y3.a.f, vI .i64 y3.a.pc, vI .i64 y3.b.f, vI .i64 y3.b.pc]) (H' := [Cel b6 #[vI .i64 y3.a.f, vI .i64 y3.a.pc, vI .i64 y3.b.f, vI .i64 y3.b.pc] 45, r_]) (by kernel_rfl) (by kernel_rfl) (by kernel_rfl) (by kernel_rfl) (by kernel_rfl) hW 0 (by rfl) (Nat.le_of_ble_eq_true (by kernel_rfl)) (by kernel_rfl) (by rfl) ?_)); clear hA ac hW; intro w8 hW ac hA
  refine wpListIn_nil <| thenN <| wpIn_seq <| wpIn_region_lit <| st_rdF (v := vF (.yield l_) #[] #[]) hA (by kernel_rfl) (by kernel_rfl) (by kernel_rfl) (by kernel_rfl) hW.cls (Rd.pure fun _ => by kernel_rfl) ?_; clear hA ac; intro ac hA
  refine st_rdF (v := vI .i64 (k : Int)) hA (by kernel_rfl) (by kernel_rfl) (by kernel_rfl) (by kernel_rfl) hW.cls (Rd.pure fun _ => by kernel_rfl) ?_; clear hA ac; intro ac hA
  refine st_rdF (v := vA #[vI .i64 y3.a.f, vI .i64 y3.a.pc, vI .i64 y3.b.f, vI .i64 y3.b.pc]) hA (by kernel_rfl) (by kernel_rfl) (by kernel_rfl) (by kernel_rfl) hW.cls (rl b6 0 0) ?_; clear hA ac; intro ac hA
  refine stF hA (by kernel_rfl) (by kernel_rfl) (by kernel_rfl) (by kernel_rfl) (RunsF.yield hR_ (l.zipIdx.take k) ((y3, k)) (fun _ => by kernel_rfl) hW 1 rfl (comes_at hy3) (hJ) hW.fr (hW.may _ (List.mem_of_getElem? (i := 1) rfl)) ?_); clear hA ac hW; intro v9 r10 w11 hv9t hv9f hW ac hA
  refine st_rdF (v := vB (!v9)) hA (by kernel_rfl) (by kernel_rfl) (by kernel_rfl) (by kernel_rfl) hW.cls (Rd.pure fun _ => by kernel_rfl) ?_; clear hA ac; intro ac hA
  refine wpListIn_nil <| thenN <| wpIn_cond_split (t := !v9) (hA.eval (by kernel_rfl)) (fun h12 => ?_) (fun h12 => ?_)
  ·
   have h12 := not_t h12
   refine wpIn_ret <| blkR <| thenR <| thenR <| blkR <| retF (.inl rfl) hA <| leave0 (by rfl)  ?_
   clear hA
   exact ranDone hW 1 rfl (.inr ⟨_, hv9f h12⟩)
  have h12 := not_f h12
  refine wpIn_skip <| blkN <| thenN <| wpIn_region_lit <| st_rdF (v := vI .i64 ((k + 1 : Nat) : Int)) hA (by kernel_rfl) (by kernel_rfl) (by kernel_rfl) (by kernel_rfl) hW.cls (Rd.pureE (v0 := vI .i64 (IntKind.i64.wrap ((k : Int) + 1))) (fun _ => by kernel_rfl) (congrArg (vI .i64) ((w_i64 (x := (k : Int) + 1) (by omega) (by omega)).trans (by omega)))) ?_; clear hA ac; intro ac hA
  refine st_rdF (v := vI .i64 ((k + 1 : Nat) : Int)) hA (by kernel_rfl) (by kernel_rfl) (by kernel_rfl) (by kernel_rfl) hW.cls (Rd.pure fun _ => by kernel_rfl) ?_; clear hA ac; intro ac hA
  refine wpListIn_nil <| thenN ?_
  have hJn := hv9t h12; rw [zip_snoc hy3] at hJn
  exact ⟨l.length - (k + 1), by omega, k + 1, r10, rfl, by omega, by exact hJn, hA.sub (by and_intros <;> first | kernel_rfl | trivial), (hW.pick [1] (by decide) rfl).pickG [0, 1] rfl⟩
 have h2 := of_decide_eq_false h2
 refine wpIn_exit <| thenX <| thenX <| blkX <| retF (.inr rfl) hA <| leave0 (by rfl)  ?_
 clear hA
 rw [zip_all (by omega)] at hJ; exact ranDone hW 0 rfl (.inl ⟨_, rfl, hJ⟩)

set_option maxRecDepth 100000 in
theorem e_all_Pair (A_l : Option Addr) (c_l : Nat) (l : List Pair) (w : World) (hr_l : RowAt w A_l 4 enPair l) (hc_l : l.length ≤ c_l) (hl : l.length ≤ 1000000) : Calls Tryz.prog 51 #[vS A_l l.length c_l] w (fun e w' => ∃ (lb : Array Value) (g : Res), e = .returned (vF (.func 79) #[] lb) ∧ Iter Tryz.prog 79 lb (fun x_ : Pair × Nat => #[vI .i64 ((x_.2 : Nat) : Int), x_.1.v]) (· = l.zipIdx) [g] ∧ g.from_ [roR A_l 4 enPair l] w w' ∧ Fr No w w') := by
 have _hu := hc_l; have _hv := hr_l; clear _hu _hv
 have _hu := hl; clear _hu
 refine enter_E 4 Tryz.func51 rfl rfl (by kernel_rfl) (L := [(0, vS A_l l.length c_l)]) (by kernel_rfl) ?_
 intro ac hA
 have hW := Ws.start w No
 have hW := hW.arg hr_l
 refine wr <| st_s hA (Runs.cells (fun b => pA b 0) #[vS A_l l.length c_l] 73 (fun _ => by kernel_rfl) hW ?_); clear hA ac hW; intro b1 w2 hW hb1 hfw2 ac hA
 refine st_p (Value.nilFunc) hA ?_; clear hA ac; intro ac hA
 refine wn <| wr <| st_p (vF (.func 79) #[] #[pA b1 0]) hA fun ac hA => st_p (vF (.func 79) #[] #[pA b1 0]) hA fun ac hA => wn <| wp_ret <| r1 (vF (.func 79) #[] #[pA b1 0]) hA ?_
 clear hA
 exact ⟨_, _, rfl, iter_many (it_all_Pair b1 _ _ l hc_l hl), from_many (froms_cons (hW.outOwn 0 rfl (fun _ h => h)) (froms_cons (hW.outArg 0 rfl (.head _)) froms_nil)), hW.fr⟩

set_option maxRecDepth 100000 in
theorem it_50 (b : Nat) (A : Option Addr) (c : Nat) (l : List Pair) (hc : l.length ≤ c) (hl : l.length ≤ 1000000) : Iter Tryz.prog 50 #[pA b 0] (fun x_ : Pair × Nat => #[vI .i64 ((x_.2 : Nat) : Int), x_.1.v]) (· = l.zipIdx) [Cel b #[vS A l.length c] 73, roR A 4 enPair l] := by
 intro l_ J_ Jx_ r0 w hOs_ hdis_ hR_ hJ0_ hp_ hlt_
 have hW := iterW hOs_ hdis_ hp_ hlt_; clear hOs_ hdis_ hp_ hlt_
 have _hu := hc; clear _hu
 have _hu := hl; clear _hu
 refine enter_F 14 Tryz.func50 rfl rfl (by kernel_rfl) (L := [(0, vF (.yield l_) #[] #[]), (1, pA b 0)]) (by kernel_rfl) ?_
 intro ac hA
 refine wpIn_seq <| wpIn_region_lit <| stF hA (by kernel_rfl) (by kernel_rfl) (by kernel_rfl) (by kernel_rfl) (RunsF.of (Runs.cells (fun b => pA b 0) #[vF (.yield l_) #[] #[]] 100 (fun _ => by kernel_rfl) hW ?_)); clear hA ac hW; intro b1 w2 hW hb1 hfw2 ac hA
 refine wpListIn_nil <| thenN <| wpIn_scope <| wpIn_seq <| wpIn_label <| thenN <| wpIn_seq <| wpIn_region_lit <| st_rdF (v := vS A l.length c) hA (by kernel_rfl) (by kernel_rfl) (by kernel_rfl) (by kernel_rfl) hW.cls (Rd.load (b := b) (i := 0) (by kernel_rfl) (fun _ hw => show _ = _ from (hw.1).getG 0 rfl) (by kernel_rfl)) ?_; clear hA ac; intro ac hA
 refine stF hA (by kernel_rfl) (by kernel_rfl) (by kernel_rfl) (by kernel_rfl) (RunsF.of (Runs.call (fun _ => by kernel_rfl) (e_all_Pair A c l w2 ((hW).getG 1 rfl) (by first | assumption | omega | (simp; omega) | simp) (by first | omega | (simp; done))) ?_))
 rintro _ w3 ⟨lb4, g5, rfl, hIg5, hfg5, hfw3⟩; refine ⟨_, rfl, ?_⟩; have hW0 := hW; have hW := hW0.call hfw3; have hW := hW0.addFromAt hW hfg5 (in_cons (in_at 1 rfl) in_nil); clear hW0 hA ac; intro ac hA
 refine wpListIn_nil <| thenN <| wpIn_block ?_
 have hW := hW.share 0 rfl (H' := [r0]) rfl
 refine wp_range (encs := (fun x_ : Pair × Nat => #[vI .i64 ((x_.2 : Nat) : Int), x_.1.v])) (Sx := (· = l.zipIdx)) hA (by kernel_rfl) (by kernel_rfl) (enters_of Tryz.func79 (by kernel_rfl) rfl) (by kernel_rfl) (fun _ => rfl) hIg5 (List.forall_mem_singleton.2 (List.mem_of_getElem? (i := 1) rfl)) (fun pre_ H_ => ∃ k : Nat, ∃ r_ : Res, pre_ = l.zipIdx.take k ∧ k ≤ l.length ∧ (J_ (l.zipIdx.take k) r_) ∧ H_ = [r_]) (fun c_ _ H_ => (c_ = .exit 0 ∧ ∃ q_ : List (Pair × Nat), ∃ r_ : Res, (Jx_ q_ r_) ∧ H_ = [r_])) (H := [r0]) (K := []) (hW.pick [0] (by decide) rfl) ⟨0, r0, rfl, Nat.zero_le _, by exact hJ0_, rfl⟩ ?_ ?_ ?_
 ·
  clear hA ac hW; intro l_6 rd_6 bs_6 pre_ x_ Hk_ w7 T_6 ac hrd_6 hbs_6 hbr_6 hok_ hJ_ hA hW hB_6 hT_6
  obtain ⟨k, r_, rfl, hk_, hJ, rfl⟩ := hJ_
  obtain ⟨y8, rfl, hy8, hlty8, hsny8⟩ := comes_zip hok_ hk_
  replace hA : Fm 14 [] [(0, vF (.yield l_) #[] #[]), (1, pA b 0), (2, pA b1 0), (5, vS A l.length c), (6, vF (.func 79) #[] lb4), (7, vI .i64 (k : Int)), (8, y8.v)] ac := hA.sub (by and_intros <;> first | kernel_rfl | trivial)
  refine wpIn_seq <| wpIn_region_lit <| st_rdF (v := vI .i64 (k : Int)) hA (by kernel_rfl) (by kernel_rfl) (by kernel_rfl) (by kernel_rfl) hW.cls (Rd.pure fun _ => by kernel_rfl) ?_; clear hA ac; intro ac hA
  refine wpListIn_nil <| thenN <| wpIn_region_lit <| stF hA (by kernel_rfl) (by kernel_rfl) (by kernel_rfl) (by kernel_rfl) (RunsF.of (Runs.cells (fun b => pA b 0) #[vI .i64 0, vI .i64 0, vI .i64 0, vI .i64 0] 45 (fun _ => by kernel_rfl) hW ?_)); clear hA ac hW; intro b9 w10 hW hb9 hfw10 ac hA
  refine stF hA (by kernel_rfl) (by kernel_rfl) (by kernel_rfl) (by kernel_rfl) (RunsF.of (Runs.store (v := y8.v) (b := b9) (j := 0) (n := 4) (cs' := #[vI .i64 y8.a.f, vI .i64 y8.a.pc, vI .i64 y8.b.f, vI .i64 y8.b.pc]) (H' := [Cel b9 #[vI .i64 y8.a.f, vI .i64 y8.a.pc, vI .i64 y8.b.f, vI .i64 y8.b.pc] 45, rd_6, r_]) (by kernel_rfl) (by kernel_rfl) (by kernel_rfl) (by kernel_rfl) (by kernel_rfl) hW 0 (by rfl) (Nat.le_of_ble_eq_true (by kernel_rfl)) (by kernel_rfl) (by rfl) ?_)); clear hA ac hW; intro w11 hW ac hA
  refine wpListIn_nil <| thenN <| begun (bs := bs_6) (H' := [Cel b9 #[vI .i64 y8.a.f, vI .i64 y8.a.pc, vI .i64 y8.b.f, vI .i64 y8.b.pc] 45, bs_6, r_]) hW 1 rfl (fun b hb => by rw [hbs_6] at hb; rw [hrd_6]; exact hb) rfl ?_; clear hW; intro w12 hW
  refine wpIn_block <| wpIn_seq <| wpIn_region_lit <| st_rdF (v := vF (.yield l_) #[] #[]) hA (by kernel_rfl) (by kernel_rfl) (by kernel_rfl) (by kernel_rfl) hW.cls (Rd.load (b := b1) (i := 0) (by kernel_rfl) (fun _ hw => show _ = _ from (hw.1).getG 0 rfl) (by kernel_rfl)) ?_; clear hA ac; intro ac hA
  refine st_rdF (v := vI .i64 (k : Int)) hA (by kernel_rfl) (by kernel_rfl) (by kernel_rfl) (by kernel_rfl) hW.cls (Rd.pure fun _ => by kernel_rfl) ?_; clear hA ac; intro ac hA
  refine st_rdF (v := vA #[vI .i64 y8.a.f, vI .i64 y8.a.pc, vI .i64 y8.b.f, vI .i64 y8.b.pc]) hA (by kernel_rfl) (by kernel_rfl) (by kernel_rfl) (by kernel_rfl) hW.cls (rl b9 0 0) ?_; clear hA ac; intro ac hA
  refine stF hA (by kernel_rfl) (by kernel_rfl) (by kernel_rfl) (by kernel_rfl) (RunsF.yield hR_ (l.zipIdx.take k) ((y8, k)) (fun _ => by kernel_rfl) hW 2 rfl (comes_at hy8) (hJ) (chainFr hB_6 hT_6 hW.fr) (chainMay hB_6 hT_6 (hW.may _ (List.mem_of_getElem? (i := 2) rfl))) ?_); clear hA ac hW; intro v13 r14 w15 hv13t hv13f hW ac hA
  refine st_rdF (v := vB (!v13)) hA (by kernel_rfl) (by kernel_rfl) (by kernel_rfl) (by kernel_rfl) hW.cls (Rd.pure fun _ => by kernel_rfl) ?_; clear hA ac; intro ac hA
  refine wpListIn_nil <| thenN <| wpIn_cond_split (t := !v13) (hA.eval (by kernel_rfl)) (fun h16 => ?_) (fun h16 => ?_)
  ·
   have h16 := not_t h16
   refine wpIn_exit <| blkY (by kernel_rfl) ?_
   exact ⟨_, ⟨rfl, _, r14, by exact hv13f h16, rfl⟩, (hW.pick [1, 2] (by decide) rfl).pickG [0, 1, 2, 3] rfl⟩
  have h16 := not_f h16
  refine wpIn_skip <| blkN ?_
  have hJn := hv13t h16; rw [zip_snoc hy8] at hJn
  exact ⟨_, ⟨k + 1, r14, hsny8, hlty8, by exact hJn, rfl⟩, (hW.pick [1, 2] (by decide) rfl).pickG [0, 1, 2, 3] rfl⟩
 ·
  clear hA ac hW; intro D17 xs_ Hk_ w18 ac hS_ hJ_ hA hW
  obtain ⟨k, r_, hpre_, hk_, hJ, rfl⟩ := hJ_
  have hke : k = l.length := by have := congrArg List.length (hS_.symm.trans hpre_); simp at this; omega
  clear hpre_ hS_
  replace hW : Ws w (· ∈ r0.fp) [r_, DefR D17] [Cel b1 #[vF (.yield l_) #[] #[]] 100, g5, Cel b #[vS A l.length c] 73, roR A 4 enPair l] w18 := hW
  refine blkN <| nogN <| retF (.inr rfl) hA <| leaveD (H' := [r_]) hW 1 rfl rfl ?_; clear hW; intro w19 hW
  refine leave0 (by rfl)  ?_
  clear hA
  rw [zip_all (by omega)] at hJ; exact ranDone hW 0 rfl (.inl ⟨_, rfl, hJ⟩)
 ·
  clear hA ac hW; intro D20 c_ pre_ Hk_ w21 ac hJ_ hA hW
  rcases hJ_ with ⟨rfl, q_, r_, hJx, rfl⟩
  ·
   replace hW : Ws w (· ∈ r0.fp) [r_, DefR D20] [Cel b1 #[vF (.yield l_) #[] #[]] 100, g5, Cel b #[vS A l.length c] 73, roR A 4 enPair l] w21 := hW
   refine wpIn_exit <| blkX <| nogN <| retF (.inr rfl) hA <| leaveD (H' := [r_]) hW 1 rfl rfl ?_; clear hW; intro w22 hW
   refine leave0 (by rfl)  ?_
   clear hA
   exact ranDone hW 0 rfl (.inr ⟨_, hJx⟩)

set_option maxRecDepth 100000 in
theorem e_pall (p : Nat) (b : Nat) (lq : List Pair) (w : World) (ho_p : (PairsR p b (cntM lq)).p w) (hl_p : ∀ x_ ∈ (PairsR p b (cntM lq)).fp, x_ < w.heap.size) (hl : (allP lq).length ≤ 100000) : Calls Tryz.prog 28 #[pA p 0] w (fun e w' => ∃ (lb : Array Value) (g : Res), e = .returned (vF (.func 50) #[] lb) ∧ Iter Tryz.prog 50 lb (fun x_ : Pair × Nat => #[vI .i64 ((x_.2 : Nat) : Int), x_.1.v]) (· = (allP lq).zipIdx) [g] ∧ g.from_ [] w w' ∧ Fr No w w') := by
 have _hu := ho_p; have _hv := hl_p; clear _hu _hv
 have _hu := hl; clear _hu
 refine enter_E 13 Tryz.func28 rfl rfl (by kernel_rfl) (L := [(0, pA p 0)]) (by kernel_rfl) ?_
 intro ac hA
 have hW := Ws.start w No
 have hW := hW.objG (L := [Cel p #[vM (some b)] 94, mapR b Pair.v (fun a : Int => vI .i64 a) (cntM lq)]) ho_p hl_p
 clear ho_p hl_p
 refine wr <| st_p (Value.nilFunc) hA ?_; clear hA ac; intro ac hA
 refine wn <| wr <| st_s hA (Runs.cells (fun b => pA b 0) #[vS none 0 0] 73 (fun _ => by kernel_rfl) hW ?_); clear hA ac hW; intro b1 w2 hW hb1 hfw2 ac hA
 refine wn <| wp_seq <| wp_seq ?_
 have hkn : (keys (cntM lq)).Nodup := mapAt.keysNodup (hW.getG 1 rfl)
 have hcl_ := cntP_len hkn
 refine wp_region_lit <| st_p (pA p 0) hA ?_; clear hA ac; intro ac hA
 refine st_s hA (Runs.callS (v := vB false) (fun _ => by kernel_rfl) (e_spnone p b w2 (show _ = _ from (hW).getG 0 rfl)) ?_); clear hA ac; intro  ac hA
 refine st_p (vB true) hA ?_; clear hA ac; intro ac hA
 refine wn <| wp_cond_true (hA.eval (by kernel_rfl)) <| wp_region_lit <| st_p (pA p 0) hA fun ac hA => st_p (pA p 0) hA fun ac hA => st_p (pA p 0) hA fun ac hA => st_q (vM (some b)) hA hW.cls (Rd.load (b := p) (i := 0) (by kernel_rfl) (fun _ hw => show _ = _ from (hw.1).getG 0 rfl) (by kernel_rfl)) fun ac hA => st_s hA (Runs.call (fun _ => by kernel_rfl) (e_prising b (cntM lq) w2 ((hW).getG 1 rfl) (by first | omega | assumption)) ?_)
 rintro _ w3 ⟨g4, Ao5, co6, rfl, hw3_hp, hw3_hs, hcco6, hu_⟩; refine ⟨_, rfl, ?_⟩; replace hW := hW.made hu_; clear hA ac; intro ac hA
 refine st_s hA (Runs.store (v := vS Ao5 g4.length co6) (b := b1) (j := 0) (n := 1) (cs' := #[vS Ao5 g4.length co6]) (H' := [rowR 45 4 enPair (vS Ao5 g4.length co6) g4, Cel b1 #[vS Ao5 g4.length co6] 73]) (by kernel_rfl) (by kernel_rfl) (by kernel_rfl) (by kernel_rfl) (by kernel_rfl) hW 1 (by rfl) (Nat.le_of_ble_eq_true (by kernel_rfl)) (by kernel_rfl) (by rfl) ?_); clear hA ac hW; intro w8 hW ac hA
 refine wn <| wr <| st_p (vF (.func 50) #[] #[pA b1 0]) hA fun ac hA => st_p (vF (.func 50) #[] #[pA b1 0]) hA fun ac hA => wn <| wp_ret <| r1 (vF (.func 50) #[] #[pA b1 0]) hA ?_
 clear hA
 have hkl_ : g4.length ≤ 100000 := by have h2_ := hw3_hp.length_eq; simp only [keys, List.length_map] at h2_; omega
 rw [← pairs_eq hw3_hp hw3_hs hkn]
 exact ⟨_, _, rfl, iter_many (it_50 b1 _ _ g4 (own_cap (hW.get 0 rfl)) (by omega)), from_many (froms_cons (hW.outOwn 1 rfl (fun _ h => h)) (froms_cons (hW.outRow 0 rfl elt_Pair.len (fun _ h => h)) froms_nil)), hW.fr⟩

set_option maxRecDepth 100000 in
theorem e_splenC (p : Nat) (b : Nat) (lq : List Pair) (w : World) (ho_p : (PairsR p b (cntM lq)).p w) (hl_p : ∀ x_ ∈ (PairsR p b (cntM lq)).fp, x_ < w.heap.size) : Calls Tryz.prog 23 #[pA p 0] w (fun e w' => e = .returned (vI .i64 (((allP lq).length : Nat) : Int)) ∧ Fr No w w') := by
 have _hu := ho_p; have _hv := hl_p; clear _hu _hv
 refine enter_E 10 Tryz.func23 rfl rfl (by kernel_rfl) (L := [(0, pA p 0)]) (by kernel_rfl) ?_
 intro ac hA
 have hW := Ws.start w No
 have hW := hW.objG (L := [Cel p #[vM (some b)] 94, mapR b Pair.v (fun a : Int => vI .i64 a) (cntM lq)]) ho_p hl_p
 clear ho_p hl_p
 refine wr <| st_p (vI .i64 0) hA ?_; clear hA ac; intro ac hA
 refine wn <| wp_seq <| wr <| st_p (pA p 0) hA ?_; clear hA ac; intro ac hA
 refine st_s hA (Runs.callS (v := vB false) (fun _ => by kernel_rfl) (e_spnone p b w (show _ = _ from (hW).getG 0 rfl)) ?_); clear hA ac; intro  ac hA
 refine wn <| wp_cond_false (hA.eval (by kernel_rfl)) <| wp_skip <| thenN <| wr <| st_p (pA p 0) hA fun ac hA => st_p (pA p 0) hA fun ac hA => st_p (pA p 0) hA fun ac hA => st_q (vM (some b)) hA hW.cls (Rd.load (b := p) (i := 0) (by kernel_rfl) (fun _ hw => show _ = _ from (hw.1).getG 0 rfl) (by kernel_rfl)) fun ac hA => st_q (vI .i64 (((cntM lq).length : Nat) : Int)) hA hW.cls (Rd.mapLen (k := 45) (e := 3) (ek := Pair.v) (ev := (fun a : Int => vI .i64 a)) (m := (cntM lq)) (by kernel_rfl) (by kernel_rfl) (fun _ hw => (hw.1).getG 1 rfl)) fun ac hA => st_p (vI .i64 (((cntM lq).length : Nat) : Int)) hA fun ac hA => wn <| wp_ret <| r1 (vI .i64 (((cntM lq).length : Nat) : Int)) hA ?_
 clear hA
 have hkn : (keys (cntM lq)).Nodup := mapAt.keysNodup (hW.getG 1 rfl)
 exact ⟨retv (by rw [cntP_len hkn]), hW.fr⟩

set_option maxRecDepth 100000 in
theorem e_pnew (A_l : Option Addr) (c_l : Nat) (l : List Pair) (w : World) (hr_l : RowAt w A_l 4 enPair l) (hc_l : l.length ≤ c_l) (hl : l.length ≤ 100000) (hok : ∀ x ∈ l, x.ok = true) : Calls Tryz.prog 45 #[vS A_l l.length c_l] w (fun e w' => ∃ np : Nat, ∃ nb : Nat, e = .returned (vT #[pA np 0, vI .i64 0]) ∧ Made (PairsR np nb (cntM l)) w w') := by
 have _hu := hc_l; have _hv := hr_l; clear _hu _hv
 have _hu := hl; clear _hu
 have _hu := hok; clear _hu
 refine enter_E 29 Tryz.func45 rfl rfl (by kernel_rfl) (L := [(0, vS A_l l.length c_l)]) (by kernel_rfl) ?_
 intro ac hA
 have hW := Ws.start w No
 have hW := hW.arg hr_l
 refine wr <| st_p (vP none) hA fun ac hA => st_p (vI .i64 0) hA fun ac hA => wn <| wr <| st_s hA (Runs.makeMap Pair.v (fun a : Int => vI .i64 a) hW ?_); clear hA ac hW; intro b1 w2 hW hb1 hfw2 ac hA
 refine st_p (vA #[vM (some b1)]) hA ?_; clear hA ac; intro ac hA
 refine st_s hA (Runs.cells (fun b => pA b 0) #[vM (some b1)] 94 (fun _ => by kernel_rfl) hW ?_); clear hA ac hW; intro b3 w4 hW hb3 hfw4 ac hA
 refine st_p (pA b3 0) hA ?_; clear hA ac; intro ac hA
 refine wn <| wp_seq <| wr <| st_p (vS A_l l.length c_l) hA fun ac hA => st_p (vI .i64 (l.length : Int)) hA fun ac hA => st_p (vI .i64 0) hA fun ac hA => wn <| wp_block ?_
 have hW : Ws w No [PairsR b3 b1 ([])] [roR A_l 4 enPair l] w4 := Ws.pack (L := [Cel b3 #[vM (some b1)] 94, mapR b1 Pair.v (fun a : Int => vI .i64 a) ([])]) (hW.pick [0, 1] (by decide) rfl)
 refine wp_loop_m (fun m_ ac_ wl_ => ∃ k : Nat, m_ = l.length - k ∧ (k ≤ l.length) ∧ Fm 29 [] [(0, vS A_l l.length c_l), (4, pA b3 0), (11, pA b3 0), (12, vS A_l l.length c_l), (13, vI .i64 (l.length : Int)), (14, vI .i64 (k : Int))] ac_ ∧ Ws w No [PairsR b3 b1 (cntM (l.take k))] [roR A_l 4 enPair l] wl_) _ ⟨0, rfl, by omega, hA.sub (by and_intros <;> first | kernel_rfl | trivial), (hW.pick [0] (by decide) rfl).pickG [0] rfl⟩ ?_
 clear hA ac hW; rintro m_ ac w5 ⟨k, rfl, hk, hA, hW⟩
 refine wr <| st_p (vB (decide ((k : Int) < (l.length : Int)))) hA ?_; clear hA ac; intro ac hA
 refine wn <| wp_seq <| wp_cond_split (t := decide ((k : Int) < (l.length : Int))) (hA.eval (by kernel_rfl)) (fun h6 => ?_) (fun h6 => ?_)
 ·
  have h6 := of_decide_eq_true h6
  refine wp_skip <| thenN <| wp_seq <| wp_block <| wr ?_
  obtain ⟨y7, hy7⟩ : ∃ y, l[k]? = some y := ⟨_, List.getElem?_eq_getElem (by first | omega | (simp; done) | (simp; omega))⟩
  obtain ⟨b8, o9, rfl, hbb8⟩ := row_some ((hW).getG 0 rfl) hy7
  refine st_q (vP (some ⟨b8, o9 + k * 4, none⟩)) hA hW.cls (Rd.indexAddr (e := 45) (sz := 4) (b := b8) (off := o9) (n := l.length) (c := c_l) (k := k) (by kernel_rfl) (by kernel_rfl) (by first | omega | (simp; done) | (simp; omega)) (fun _ => by kernel_rfl) (fun _ => by kernel_rfl)) fun ac hA => st_q (vA #[vI .i64 y7.a.f, vI .i64 y7.a.pc, vI .i64 y7.b.f, vI .i64 y7.b.pc]) hA hW.cls (Rd.loadRow (b := b8) (i := o9 + k * 4) (xs := [vI .i64 y7.a.f, vI .i64 y7.a.pc, vI .i64 y7.b.f, vI .i64 y7.b.pc]) (by kernel_rfl) (fun _ hw => row_ld ((hw.1).getG 0 rfl) hy7 (Fr.refl No _) (fun h => h) 0 4 (by kernel_rfl)) (by kernel_rfl)) fun ac hA => st_s hA (Runs.cells (fun b => pA b 0) #[vI .i64 0, vI .i64 0, vI .i64 0, vI .i64 0] 45 (fun _ => by kernel_rfl) hW ?_); clear hA ac hW; intro b10 w11 hW hb10 hfw11 ac hA
  refine st_s hA (Runs.store (v := vA #[vI .i64 y7.a.f, vI .i64 y7.a.pc, vI .i64 y7.b.f, vI .i64 y7.b.pc]) (b := b10) (j := 0) (n := 4) (cs' := #[vI .i64 y7.a.f, vI .i64 y7.a.pc, vI .i64 y7.b.f, vI .i64 y7.b.pc]) (H' := [Cel b10 #[vI .i64 y7.a.f, vI .i64 y7.a.pc, vI .i64 y7.b.f, vI .i64 y7.b.pc] 45, PairsR b3 b1 (cntM (l.take k))]) (by kernel_rfl) (by kernel_rfl) (by kernel_rfl) (by kernel_rfl) (by kernel_rfl) hW 0 (by rfl) (Nat.le_of_ble_eq_true (by kernel_rfl)) (by kernel_rfl) (by rfl) ?_); clear hA ac hW; intro w12 hW ac hA
  refine wn <| wp_seq ?_
  have hc0_ : 0 ≤ came (cntM (l.take k)) y7 ∧ came (cntM (l.take k)) y7 ≤ 1000000 := by have q_ := (cntP_inv (l.take k)).2 y7; rw [List.length_take] at q_; omega
  refine wp_region_lit <| st_p (pA b3 0) hA fun ac hA => st_q (vA #[vI .i64 y7.a.f, vI .i64 y7.a.pc, vI .i64 y7.b.f, vI .i64 y7.b.pc]) hA hW.cls (rl b10 0 0) fun ac hA => st_s hA (Runs.call (fun _ => by kernel_rfl) (e_padd b3 b1 (cntM (l.take k)) y7 w12 ((hW).get 1 rfl) ((hW).lt _ (List.mem_of_getElem? (i := 1) rfl)) (by first | assumption | exact hok _ (List.mem_of_getElem? ‹_›)) (by first | assumption | exact hok _ (List.mem_of_getElem? ‹_›))) ?_)
  rintro _ w13 ⟨rfl, hu_⟩; refine ⟨_, rfl, ?_⟩; replace hW := hW.upd (H' := [Cel b10 #[vI .i64 y7.a.f, vI .i64 y7.a.pc, vI .i64 y7.b.f, vI .i64 y7.b.pc] 45, PairsR b3 b1 (put (cntM (l.take k)) y7 (came (cntM (l.take k)) y7 + 1))]) 1 rfl hu_ rfl; clear hA ac; intro ac hA
  refine st_p (vT #[vB (came (cntM (l.take k)) y7 == 0), vI .i64 0]) hA fun ac hA => st_p (vB (came (cntM (l.take k)) y7 == 0)) hA fun ac hA => st_p (vI .i64 0) hA fun ac hA => st_p (vB (came (cntM (l.take k)) y7 == 0)) hA fun ac hA => st_p (vI .i64 0) hA fun ac hA => wn <| wr <| st_p (vI .i64 0) hA fun ac hA => st_p (vB false) hA fun ac hA => wn <| wp_cond_false (hA.eval (by kernel_rfl)) <| wp_skip <| blkN <| thenN <| wp_region_lit <| st_q (vI .i64 ((k + 1 : Nat) : Int)) hA hW.cls (Rd.pureE (v0 := vI .i64 (IntKind.i64.wrap ((k : Int) + 1))) (fun _ => by kernel_rfl) (congrArg (vI .i64) ((w_i64 (x := (k : Int) + 1) (by omega) (by omega)).trans (by omega)))) fun ac hA => st_p (vI .i64 ((k + 1 : Nat) : Int)) hA fun ac hA => wn ?_
  rw [← cntP_snoc hy7] at hW
  exact ⟨l.length - (k + 1), by omega, k + 1, rfl, by omega, hA.sub (by and_intros <;> first | kernel_rfl | trivial), (hW.pick [1] (by decide) rfl).pickG [0] rfl⟩
 have h6 := of_decide_eq_false h6
 refine wp_exit <| thenX <| thenX <| blkX <| thenN <| wr <| st_p (pA b3 0) hA fun ac hA => st_p (pA b3 0) hA fun ac hA => st_p (vI .i64 0) hA fun ac hA => wn <| wp_ret <| ret2 (v1 := pA b3 0) (v2 := vI .i64 0) (by rfl) hA (Got.tmp hA (by kernel_rfl) (by kernel_rfl)) (Got.tmp hA (by kernel_rfl) (by kernel_rfl)) ?_
 clear hA
 rw [List.take_of_length_le (by omega)] at hW
 exact ⟨b3, b1, rfl, hW.madeDone 0 rfl⟩

set_option maxRecDepth 100000 in
theorem e_rPairs (m : Nat) (Ae : Option Addr) (ce : Nat) (E : List Event) (Ak : Option Addr) (ck : Nat) (C : List SV) (bg : Nat) (G : List (Int × SV)) (bt : Nat) (T : List (Thing × SV)) (w : World) (ho_o : (OrdR m Ae ce E Ak ck C bg G bt T).p w) (hl_o : ∀ x_ ∈ (OrdR m Ae ce E Ak ck C bg G bt T).fp, x_ < w.heap.size) (hok : OrdOk E C G T) (hE100 : E.length ≤ 100) : Calls Tryz.prog 22 #[pA m 0] w (fun e w' => ∃ np : Nat, ∃ nb : Nat, e = .returned (pA np 0) ∧ Made (PairsR np nb (cntM (pairL E))) w w') := by
 have _hu := ho_o; have _hv := hl_o; clear _hu _hv
 have _hu := hok; clear _hu
 have _hu := hE100; clear _hu
 have hbg_ := race_lil hE100
 refine enter_E 27 Tryz.func22 rfl rfl (by kernel_rfl) (L := [(0, pA m 0)]) (by kernel_rfl) ?_
 intro ac hA
 have hW := Ws.start w No
 have hW := hW.addG (OrdR m Ae ce E Ak ck C bg G bt T) ho_o hl_o (by simp)
 clear ho_o hl_o
 refine wr <| st_p (vP none) hA ?_; clear hA ac; intro ac hA
 refine wn <| wr <| st_p (vS none 0 0) hA ?_; clear hA ac; intro ac hA
 refine wn <| wp_seq <| wr <| st_p (pA m 0) hA ?_; clear hA ac; intro ac hA
 refine st_s hA (Runs.callRow (E := 47) (sz := 7) (en := enRace) (l := (raceL E)) (fun _ => by kernel_rfl) hW (e_rall_ m Ae ce E Ak ck C bg G bt T w ((hW).getG 0 rfl) ((hW).glt _ (List.mem_of_getElem? (i := 0) rfl)) (by first | omega | assumption) (by first | omega | assumption)) ?_); clear hA ac hW; intro A2 c3 w1 hW hcc3 hfw1 ac hA
 refine st_p (vI .i64 (((raceL E).length : Nat) : Int)) hA fun ac hA => st_p (vI .i64 0) hA fun ac hA => wn <| wp_block ?_
 have hW := hW.addNil 45 4 enPair
 refine wp_loop_m (fun m_ ac_ wl_ => ∃ k : Nat, ∃ d : List Pair, ∃ A : Option Addr, ∃ cc : Nat, m_ = (raceL E).length - k ∧ (k ≤ (raceL E).length) ∧ (d = ((raceL E).take k).map Race.p) ∧ (d.length ≤ cc) ∧ Fm 27 [] [(0, pA m 0), (3, vS A d.length cc), (9, vS A2 (raceL E).length c3), (10, vI .i64 (((raceL E).length : Nat) : Int)), (11, vI .i64 (k : Int))] ac_ ∧ Ws w No [rowR 45 4 enPair (vS A d.length cc) d, rowR 47 7 enRace (vS A2 (raceL E).length c3) (raceL E)] [OrdR m Ae ce E Ak ck C bg G bt T] wl_) _ ⟨0, [], none, 0, rfl, by omega, by rfl, by simp, hA.sub (by and_intros <;> first | kernel_rfl | trivial), (hW.pick [0, 1] (by decide) rfl).pickG [0] rfl⟩ ?_
 clear hA ac hW; rintro m_ ac w5 ⟨k, d, A, cc, rfl, hk, hd, hcc, hA, hW⟩
 have hdl_ : d.length ≤ 10000 := by rw [hd, List.length_map, List.length_take]; omega
 refine wr <| st_p (vB (decide ((k : Int) < ((((raceL E).length : Nat) : Int) : Int)))) hA ?_; clear hA ac; intro ac hA
 refine wn <| wp_seq <| wp_cond_split (t := decide ((k : Int) < ((((raceL E).length : Nat) : Int) : Int))) (hA.eval (by kernel_rfl)) (fun h6 => ?_) (fun h6 => ?_)
 ·
  have h6 := of_decide_eq_true h6
  refine wp_skip <| thenN <| wp_seq <| wp_block <| wr ?_
  obtain ⟨y7, hy7⟩ : ∃ y, (raceL E)[k]? = some y := ⟨_, List.getElem?_eq_getElem (by first | omega | (simp; done) | (simp; omega))⟩
  obtain ⟨b8, o9, rfl, hbb8⟩ := row_some (rowR_at ((hW).get 1 rfl) elt_Race.len) hy7
  refine st_q (vP (some ⟨b8, o9 + k * 7, none⟩)) hA hW.cls (Rd.indexAddr (e := 47) (sz := 7) (b := b8) (off := o9) (n := (raceL E).length) (c := c3) (k := k) (by kernel_rfl) (by kernel_rfl) (by first | omega | (simp; done) | (simp; omega)) (fun _ => by kernel_rfl) (fun _ => by kernel_rfl)) fun ac hA => st_q (vA #[vI .i64 y7.i, vI .i64 y7.j, vI .u32 y7.addr, vI .i64 y7.p.a.f, vI .i64 y7.p.a.pc, vI .i64 y7.p.b.f, vI .i64 y7.p.b.pc]) hA hW.cls (Rd.loadRow (b := b8) (i := o9 + k * 7) (xs := [vI .i64 y7.i, vI .i64 y7.j, vI .u32 y7.addr, vI .i64 y7.p.a.f, vI .i64 y7.p.a.pc, vI .i64 y7.p.b.f, vI .i64 y7.p.b.pc]) (by kernel_rfl) (fun _ hw => row_ld (rowR_at ((hw.1).get 1 rfl) elt_Race.len) hy7 (Fr.refl No _) (fun h => h) 0 7 (by kernel_rfl)) (by kernel_rfl)) fun ac hA => st_s hA (Runs.cells (fun b => pA b 0) #[vI .i64 0, vI .i64 0, vI .u32 0, vI .i64 0, vI .i64 0, vI .i64 0, vI .i64 0] 47 (fun _ => by kernel_rfl) hW ?_); clear hA ac hW; intro b10 w11 hW hb10 hfw11 ac hA
  refine st_s hA (Runs.store (v := vA #[vI .i64 y7.i, vI .i64 y7.j, vI .u32 y7.addr, vI .i64 y7.p.a.f, vI .i64 y7.p.a.pc, vI .i64 y7.p.b.f, vI .i64 y7.p.b.pc]) (b := b10) (j := 0) (n := 7) (cs' := #[vI .i64 y7.i, vI .i64 y7.j, vI .u32 y7.addr, vI .i64 y7.p.a.f, vI .i64 y7.p.a.pc, vI .i64 y7.p.b.f, vI .i64 y7.p.b.pc]) (H' := [Cel b10 #[vI .i64 y7.i, vI .i64 y7.j, vI .u32 y7.addr, vI .i64 y7.p.a.f, vI .i64 y7.p.a.pc, vI .i64 y7.p.b.f, vI .i64 y7.p.b.pc] 47, rowR 45 4 enPair (vS A d.length cc) d, rowR 47 7 enRace (vS (some ⟨b8, o9, none⟩) (raceL E).length c3) (raceL E)]) (by kernel_rfl) (by kernel_rfl) (by kernel_rfl) (by kernel_rfl) (by kernel_rfl) hW 0 (by rfl) (Nat.le_of_ble_eq_true (by kernel_rfl)) (by kernel_rfl) (by rfl) ?_); clear hA ac hW; intro w12 hW ac hA
  refine wn <| wp_region_lit <| st_p (vS A d.length cc) hA fun ac hA => st_p (pA b10 3) hA fun ac hA => st_q (vA #[vI .i64 y7.p.a.f, vI .i64 y7.p.a.pc, vI .i64 y7.p.b.f, vI .i64 y7.p.b.pc]) hA hW.cls (rl b10 3 0) fun ac hA => st_s hA (Runs.cells (fun b => vS (some ⟨b, 0, none⟩) 1 1) #[vI .i64 y7.p.a.f, vI .i64 y7.p.a.pc, vI .i64 y7.p.b.f, vI .i64 y7.p.b.pc] 45 (fun _ => by kernel_rfl) hW ?_); clear hA ac hW; intro b13 w14 hW hb13 hfw14 ac hA
  refine st_s hA (Runs.appOwn (B := (some ⟨b13, 0, none⟩)) (k := 1) (E := 45) (sz := 4) (en := enPair) (l := d) (m := ([y7.p] : List Pair)) (i := 2) (by kernel_rfl) (by kernel_rfl) elt_Pair (by kernel_rfl) hW rfl (rowAt_cel ((hW).cel 0 rfl) ([y7.p] : List Pair) (by rfl) elt_Pair.len) (by first | omega | (simp; done) | (simp; omega)) (by first | omega | (simp; done) | (simp; omega)) ?_); clear hA ac hW; intro A15 c16 w17 hW hcc16 ac hA
  refine st_p (vS A15 (d ++ ([y7.p] : List Pair)).length c16) hA ?_; clear hA ac; intro ac hA
  refine wpList_nil <| blkN <| thenN <| wp_region_lit <| st_q (vI .i64 ((k + 1 : Nat) : Int)) hA hW.cls (Rd.pureE (v0 := vI .i64 (IntKind.i64.wrap ((k : Int) + 1))) (fun _ => by kernel_rfl) (congrArg (vI .i64) ((w_i64 (x := (k : Int) + 1) (by omega) (by omega)).trans (by omega)))) fun ac hA => st_p (vI .i64 ((k + 1 : Nat) : Int)) hA fun ac hA => wn ?_
  exact ⟨(raceL E).length - (k + 1), by omega, k + 1, d ++ ([y7.p] : List Pair), A15, c16, rfl, by omega, by rw [tk_snoc hy7, List.map_append, ← hd]; rfl, by exact hcc16, hA.sub (by and_intros <;> first | kernel_rfl | trivial), (hW.pick [2, 3] (by decide) rfl).pickG [0] rfl⟩
 have h6 := of_decide_eq_false h6
 refine wp_exit <| thenX <| thenX <| blkX <| thenN <| wp_seq ?_
 rw [List.take_of_length_le (by omega)] at hd; have hdp_ : d = pairL E := hd; have hdo_ : ∀ x ∈ d, x.ok = true := by rw [hd]; exact races_ok
 refine wp_region_lit <| st_p (vS A d.length cc) hA ?_; clear hA ac; intro ac hA
 refine st_s hA (Runs.call (fun _ => by kernel_rfl) (e_pnew A cc d w5 (rowR_at ((hW).get 0 rfl) elt_Pair.len) (own_cap ((hW).get 0 rfl)) (by first | omega | assumption) (by first | omega | assumption)) ?_)
 rintro _ w18 ⟨n19, n20, rfl, hu_⟩; refine ⟨_, rfl, ?_⟩; replace hW := hW.made hu_; clear hA ac; intro ac hA
 refine st_p (vT #[pA n19 0, vI .i64 0]) hA fun ac hA => st_p (pA n19 0) hA fun ac hA => st_p (vI .i64 0) hA fun ac hA => st_p (pA n19 0) hA fun ac hA => st_p (vI .i64 0) hA fun ac hA => wn <| wr <| st_p (pA n19 0) hA fun ac hA => st_p (pA n19 0) hA fun ac hA => wn <| wp_ret <| r1 (pA n19 0) hA ?_
 clear hA
 rw [hdp_] at hW; exact ⟨n19, n20, rfl, hW.madeDone 0 rfl⟩

set_option maxRecDepth 100000 in
theorem e_has07 (A_l : Option Addr) (c_l : Nat) (l : List Pair) (p : Pair) (w : World) (hr_l : RowAt w A_l 4 enPair l) (hc_l : l.length ≤ c_l) (hl : l.length ≤ 100000) : Calls Tryz.prog 73 #[vS A_l l.length c_l, p.v] w (fun e w' => e = .returned (vB (decide (p ∈ l))) ∧ Fr No w w') := by
 have _hu := hc_l; have _hv := hr_l; clear _hu _hv
 have _hu := hl; clear _hu
 refine enter_E 18 Tryz.func73 rfl rfl (by kernel_rfl) (L := [(0, vS A_l l.length c_l), (1, p.v)]) (by kernel_rfl) ?_
 intro ac hA
 have hW := Ws.start w No
 have hW := hW.arg hr_l
 refine wr <| st_s hA (Runs.cells (fun b => pA b 0) #[vI .i64 p.a.f, vI .i64 p.a.pc, vI .i64 p.b.f, vI .i64 p.b.pc] 45 (fun _ => by kernel_rfl) hW ?_); clear hA ac hW; intro b1 w2 hW hb1 hfw2 ac hA
 refine st_p (vB false) hA ?_; clear hA ac; intro ac hA
 refine wn <| wp_seq <| wr <| st_p (vI .i64 0) hA ?_; clear hA ac; intro ac hA
 refine wn <| wp_block <| wp_loop_m (fun m_ ac_ wl_ => ∃ k : Nat, m_ = l.length - k ∧ (k ≤ l.length) ∧ (∀ j, j < k → l[j]? ≠ some p) ∧ Fm 18 [] [(0, vS A_l l.length c_l), (3, pA b1 0), (5, vI .i64 (k : Int))] ac_ ∧ Ws w No [Cel b1 #[vI .i64 p.a.f, vI .i64 p.a.pc, vI .i64 p.b.f, vI .i64 p.b.pc] 45] [roR A_l 4 enPair l] wl_) _ ⟨0, rfl, by omega, by intro j hj; omega, hA.sub (by and_intros <;> first | kernel_rfl | trivial), (hW.pick [0] (by decide) rfl).pickG [0] rfl⟩ ?_
 clear hA ac hW; rintro m_ ac w3 ⟨k, rfl, hk, hn, hA, hW⟩
 refine wp_seq <| wr <| st_p (vI .i64 (k : Int)) hA fun ac hA => st_p (vS A_l l.length c_l) hA fun ac hA => st_p (vI .i64 (l.length : Int)) hA fun ac hA => st_p (vB (decide ((k : Int) < (l.length : Int)))) hA fun ac hA => wn <| wp_cond_split (t := decide ((k : Int) < (l.length : Int))) (hA.eval (by kernel_rfl)) (fun h4 => ?_) (fun h4 => ?_)
 ·
  have h4 := of_decide_eq_true h4
  refine wp_skip <| thenN <| wp_seq <| wp_block <| wp_seq <| q_region (by kernel_rfl) (by kernel_rfl) hW <| sq_p (vS A_l l.length c_l) hA fun ac hA => sq_p (vI .i64 (k : Int)) hA fun ac hA => ?_
  obtain ⟨y5, hy5⟩ : ∃ y, l[k]? = some y := ⟨_, List.getElem?_eq_getElem (by first | omega | (simp; done) | (simp; omega))⟩
  obtain ⟨b6, o7, rfl, hbb6⟩ := row_some ((hW).getG 0 rfl) hy5
  refine sq_q (vP (some ⟨b6, o7 + k * 4, none⟩)) hA (Rd.indexAddr (e := 45) (sz := 4) (b := b6) (off := o7) (n := l.length) (c := c_l) (k := k) (by kernel_rfl) (by kernel_rfl) (by first | omega | (simp; done) | (simp; omega)) (fun _ => by kernel_rfl) (fun _ => by kernel_rfl)) fun ac hA => sq_q (vA #[vI .i64 y5.a.f, vI .i64 y5.a.pc, vI .i64 y5.b.f, vI .i64 y5.b.pc]) hA (Rd.loadRow (b := b6) (i := o7 + k * 4) (xs := [vI .i64 y5.a.f, vI .i64 y5.a.pc, vI .i64 y5.b.f, vI .i64 y5.b.pc]) (by kernel_rfl) (fun _ hw => row_ld ((hw.1).getG 0 rfl) hy5 (Fr.refl No _) (fun h => h) 0 4 (by kernel_rfl)) (by kernel_rfl)) fun ac hA => sq_q (vA #[vI .i64 p.a.f, vI .i64 p.a.pc, vI .i64 p.b.f, vI .i64 p.b.pc]) hA (rl b1 0 0) fun ac hA => sq_q (vB (decide (y5 = p))) hA (Rd.eqS (u := y5.v) (v := p.v) (by kernel_rfl) (by kernel_rfl) rfl rfl (by kernel_rfl) (fun w => eq_Pair w y5 p)) fun ac hA => sq_nil ?_; intro w8 hww8; have hW := hww8.1; have hfw8 := hww8.2; clear hww8
  refine thenN <| wp_cond_split (t := decide (y5 = p)) (hA.eval (by kernel_rfl)) (fun h9 => ?_) (fun h9 => ?_)
  ·
   have h9 := of_decide_eq_true h9
   have h9e := (Pair.eqi _ _).1 h9
   refine wr <| st_p (vB true) hA ?_; clear hA ac; intro ac hA
   refine wn <| wp_ret <| blkR <| thenR <| thenR <| blkR <| thenR <| r1 (vB true) hA ?_
   clear hA
   refine ⟨retv (congrArg vB (decide_eq_true ?_).symm), hW.fr⟩
   rw [← h9]; exact List.mem_of_getElem? hy5
  have h9 := of_decide_eq_false h9
  have h9e := fun e => h9 ((Pair.eqi _ _).2 e)
  refine wp_skip <| blkN <| thenN <| wp_region_lit <| st_p (vI .i64 (k : Int)) hA fun ac hA => st_q (vI .i64 ((k + 1 : Nat) : Int)) hA hW.cls (Rd.pureE (v0 := vI .i64 (IntKind.i64.wrap ((k : Int) + 1))) (fun _ => by kernel_rfl) (congrArg (vI .i64) ((w_i64 (x := (k : Int) + 1) (by omega) (by omega)).trans (by omega)))) fun ac hA => st_p (vI .i64 ((k + 1 : Nat) : Int)) hA fun ac hA => wn ?_
  exact ⟨l.length - (k + 1), by omega, k + 1, rfl, by omega, by intro j hj; rcases Nat.lt_succ_iff_lt_or_eq.1 hj with h | h; exact hn j h; subst h; rw [hy5]; intro e; exact h9 (Option.some.inj e), hA.sub (by and_intros <;> first | kernel_rfl | trivial), (hW.pick [0] (by decide) rfl).pickG [0] rfl⟩
 have h4 := of_decide_eq_false h4
 refine wp_exit <| thenX <| thenX <| blkX <| thenN <| wr <| st_p (vB false) hA ?_; clear hA ac; intro ac hA
 refine wn <| wp_ret <| r1 (vB false) hA ?_
 clear hA
 refine ⟨retv (congrArg vB (decide_eq_false ?_).symm), hW.fr⟩
 intro hm; obtain ⟨j, hj⟩ := List.mem_iff_getElem?.1 hm; have := (List.getElem?_eq_some_iff.1 hj).1; exact hn j (by omega) hj

set_option maxRecDepth 100000 in
theorem e_add07 (A_l : Option Addr) (c_l : Nat) (l : List Pair) (p : Pair) (w : World) (hr_l : RowAt w A_l 4 enPair l) (hc_l : l.length ≤ c_l) (hl : l.length ≤ 100000) : Calls Tryz.prog 48 #[vS A_l l.length c_l, p.v] w (fun e w' => ∃ (A_o : Option Addr) (c_o : Nat), e = .returned (vS A_o (addP l p).length c_o) ∧ (addP l p).length ≤ c_o ∧ (roR A_o 4 enPair (addP l p)).from_ [roR A_l 4 enPair l] w w' ∧ Fr No w w') := by
 have _hu := hc_l; have _hv := hr_l; clear _hu _hv
 have _hu := hl; clear _hu
 refine enter_E 60 Tryz.func48 rfl rfl (by kernel_rfl) (L := [(0, vS A_l l.length c_l), (1, p.v)]) (by kernel_rfl) ?_
 intro ac hA
 have hW := Ws.start w No
 have hW := hW.arg hr_l
 refine wr <| st_s hA (Runs.cells (fun b => pA b 0) #[vI .i64 p.a.f, vI .i64 p.a.pc, vI .i64 p.b.f, vI .i64 p.b.pc] 45 (fun _ => by kernel_rfl) hW ?_); clear hA ac hW; intro b1 w2 hW hb1 hfw2 ac hA
 refine st_p (vS none 0 0) hA ?_; clear hA ac; intro ac hA
 refine wn <| wp_seq <| wr <| st_p (vS A_l l.length c_l) hA fun ac hA => st_q (vA #[vI .i64 p.a.f, vI .i64 p.a.pc, vI .i64 p.b.f, vI .i64 p.b.pc]) hA hW.cls (rl b1 0 0) fun ac hA => st_s hA (Runs.callN (v := vB (decide (p ∈ l))) (fun _ => by kernel_rfl) hW (e_has07 A_l c_l l p w2 ((hW).getG 0 rfl) (by first | assumption | omega | (simp; omega) | simp) (by first | omega | (simp; done))) ?_); clear hA ac hW; intro w3 hW hfw3 ac hA
 refine wn <| wp_cond_split (t := decide (p ∈ l)) (hA.eval (by kernel_rfl)) (fun h4 => ?_) (fun h4 => ?_)
 ·
  refine wr <| st_p (vS A_l l.length c_l) hA fun ac hA => st_p (vS A_l l.length c_l) hA fun ac hA => wn <| wp_ret <| thenR <| r1 (vS A_l l.length c_l) hA ?_
  clear hA
  have hq_ : addP l p = l := by unfold addP; rw [if_pos (of_decide_eq_true ‹decide (p ∈ l) = true›)]
  rw [hq_]
  exact ⟨A_l, c_l, by first | rfl | (simp; done), (by first | assumption | omega | (simp; omega) | simp), (hW.outSrc 0 rfl (src_arg (.head _))), hW.fr⟩
 refine wp_skip <| thenN <| wr <| st_p (vI .i64 0) hA ?_; clear hA ac; intro ac hA
 refine wn <| wp_seq <| wp_block <| wp_loop_m (fun m_ ac_ wl_ => ∃ k : Nat, m_ = l.length - k ∧ (k ≤ l.length) ∧ (∀ x ∈ l.take k, ltP x p) ∧ Fm 60 [] [(0, vS A_l l.length c_l), (3, pA b1 0), (5, vI .i64 (k : Int))] ac_ ∧ Ws w No [Cel b1 #[vI .i64 p.a.f, vI .i64 p.a.pc, vI .i64 p.b.f, vI .i64 p.b.pc] 45] [roR A_l 4 enPair l] wl_) _ ⟨0, rfl, by omega, by simp, hA.sub (by and_intros <;> first | kernel_rfl | trivial), (hW.pick [0] (by decide) rfl).pickG [0] rfl⟩ ?_
 clear hA ac hW; rintro m_ ac w5 ⟨k, rfl, hk, hn, hA, hW⟩
 refine wp_seq <| wp_seq <| q_region (by kernel_rfl) (by kernel_rfl) hW <| sq_p (vI .i64 (k : Int)) hA fun ac hA => sq_p (vS A_l l.length c_l) hA fun ac hA => sq_p (vI .i64 (l.length : Int)) hA fun ac hA => sq_p (vB (decide ((k : Int) < (l.length : Int)))) hA fun ac hA => sq_p (vB (decide ((k : Int) < (l.length : Int)))) hA fun ac hA => ?_
 rcases Bool.eq_false_or_eq_true (decide ((k : Int) < (l.length : Int))) with h6 | h6
 ·
  rw [h6] at hA
  have h6 := of_decide_eq_true h6
  refine sq_p (vS A_l l.length c_l) hA fun ac hA => sq_p (vI .i64 (k : Int)) hA fun ac hA => ?_
  obtain ⟨y7, hy7⟩ : ∃ y, l[k]? = some y := ⟨_, List.getElem?_eq_getElem (by first | omega | (simp; done) | (simp; omega))⟩
  obtain ⟨b8, o9, rfl, hbb8⟩ := row_some ((hW).getG 0 rfl) hy7
  refine sq_q (vP (some ⟨b8, o9 + k * 4, none⟩)) hA (Rd.indexAddr (e := 45) (sz := 4) (b := b8) (off := o9) (n := l.length) (c := c_l) (k := k) (by kernel_rfl) (by kernel_rfl) (by first | omega | (simp; done) | (simp; omega)) (fun _ => by kernel_rfl) (fun _ => by kernel_rfl)) fun ac hA => sq_p (vP (some ⟨b8, o9 + k * 4, none⟩)) hA fun ac hA => sq_q (vA #[vI .i64 y7.a.f, vI .i64 y7.a.pc]) hA (Rd.loadRow (b := b8) (i := o9 + k * 4) (xs := [vI .i64 y7.a.f, vI .i64 y7.a.pc]) (by kernel_rfl) (fun _ hw => row_ld ((hw.1).getG 0 rfl) hy7 (Fr.refl No _) (fun h => h) 0 2 (by kernel_rfl)) (by kernel_rfl)) fun ac hA => sq_p (pA b1 0) hA fun ac hA => sq_q (vA #[vI .i64 p.a.f, vI .i64 p.a.pc]) hA (rl b1 0 0) fun ac hA => sq_call (v := vI .i64 (Site.cmp y7.a p.a)) hA (by kernel_rfl) (by kernel_rfl) (by kernel_rfl) (fun _ => by kernel_rfl) (Cls.callNC fun wx hwx => e_order07 y7.a p.a wx) ?_; clear hA ac; intro ac hA
  refine sq_p (vB (decide ((Site.cmp y7.a p.a : Int) < (0 : Int)))) hA fun ac hA => sq_p (vB (decide ((Site.cmp y7.a p.a : Int) < (0 : Int)))) hA fun ac hA => ?_
  rcases Bool.eq_false_or_eq_true (decide ((Site.cmp y7.a p.a : Int) < (0 : Int))) with h10 | h10
  ·
   rw [h10] at hA
   have h10 := of_decide_eq_true h10
   refine sq_k hA fun ac hA => sq_k hA fun ac hA => sq_k hA fun ac hA => sq_k hA fun ac hA => sq_k hA fun ac hA => sq_k hA fun ac hA => sq_k hA fun ac hA => sq_k hA fun ac hA => sq_k hA fun ac hA => sq_k hA fun ac hA => sq_k hA fun ac hA => sq_k hA fun ac hA => sq_k hA fun ac hA => sq_k hA fun ac hA => sq_k hA fun ac hA => sq_k hA fun ac hA => sq_k hA fun ac hA => sq_k hA fun ac hA => sq_k hA fun ac hA => sq_p (vB true) hA fun ac hA => sq_p (vB true) hA fun ac hA => sq_nil ?_; intro w11 hww11; have hW := hww11.1; have hfw11 := hww11.2; clear hww11
   refine thenN <| wp_cond_true (hA.eval (by kernel_rfl)) <| wp_skip <| thenN <| wp_block <| wp_region_lit <| st_p (vI .i64 (k : Int)) hA fun ac hA => st_q (vI .i64 ((k + 1 : Nat) : Int)) hA hW.cls (Rd.pureE (v0 := vI .i64 (IntKind.i64.wrap ((k : Int) + 1))) (fun _ => by kernel_rfl) (congrArg (vI .i64) ((w_i64 (x := (k : Int) + 1) (by omega) (by omega)).trans (by omega)))) fun ac hA => st_p (vI .i64 ((k + 1 : Nat) : Int)) hA fun ac hA => wpList_nil <| blkN <| thenN ?_
   exact ⟨l.length - (k + 1), by omega, k + 1, rfl, by omega, by intro x_ hx_; rw [tk_snoc hy7] at hx_; rcases List.mem_append.1 hx_ with hx_ | hx_; exact hn x_ hx_; (rw [List.mem_singleton.1 hx_]; exact ltP_cmp.2 (.inl (by first | assumption | omega))), hA.sub (by and_intros <;> first | kernel_rfl | trivial), (hW.pick [0] (by decide) rfl).pickG [0] rfl⟩
  rw [h10] at hA
  have h10 := of_decide_eq_false h10
  refine sq_p (vS (some ⟨b8, o9, none⟩) l.length c_l) hA fun ac hA => sq_p (vI .i64 (k : Int)) hA fun ac hA => sq_q (vP (some ⟨b8, o9 + k * 4, none⟩)) hA (Rd.indexAddr (e := 45) (sz := 4) (b := b8) (off := o9) (n := l.length) (c := c_l) (k := k) (by kernel_rfl) (by kernel_rfl) (by first | omega | (simp; done) | (simp; omega)) (fun _ => by kernel_rfl) (fun _ => by kernel_rfl)) fun ac hA => sq_p (vP (some ⟨b8, o9 + k * 4, none⟩)) hA fun ac hA => sq_q (vA #[vI .i64 y7.a.f, vI .i64 y7.a.pc]) hA (Rd.loadRow (b := b8) (i := o9 + k * 4) (xs := [vI .i64 y7.a.f, vI .i64 y7.a.pc]) (by kernel_rfl) (fun _ hw => row_ld ((hw.1).getG 0 rfl) hy7 (Fr.refl No _) (fun h => h) 0 2 (by kernel_rfl)) (by kernel_rfl)) fun ac hA => sq_p (pA b1 0) hA fun ac hA => sq_q (vA #[vI .i64 p.a.f, vI .i64 p.a.pc]) hA (rl b1 0 0) fun ac hA => sq_q (vB (decide (y7.a = p.a))) hA (Rd.eqS (u := y7.a.v) (v := p.a.v) (by kernel_rfl) (by kernel_rfl) rfl rfl (by kernel_rfl) (fun w => eq_Site w y7.a p.a)) fun ac hA => sq_p (vB (decide (y7.a = p.a))) hA fun ac hA => ?_
  rcases Bool.eq_false_or_eq_true (decide (y7.a = p.a)) with h12 | h12
  ·
   rw [h12] at hA
   have h12 := of_decide_eq_true h12
   have h12e := (Site.eqi _ _).1 h12
   refine sq_p (vS (some ⟨b8, o9, none⟩) l.length c_l) hA fun ac hA => sq_p (vI .i64 (k : Int)) hA fun ac hA => sq_q (vP (some ⟨b8, o9 + k * 4, none⟩)) hA (Rd.indexAddr (e := 45) (sz := 4) (b := b8) (off := o9) (n := l.length) (c := c_l) (k := k) (by kernel_rfl) (by kernel_rfl) (by first | omega | (simp; done) | (simp; omega)) (fun _ => by kernel_rfl) (fun _ => by kernel_rfl)) fun ac hA => sq_p (vP (some ⟨b8, o9 + k * 4 + 2, none⟩)) hA fun ac hA => sq_q (vA #[vI .i64 y7.b.f, vI .i64 y7.b.pc]) hA (Rd.loadRow (b := b8) (i := o9 + k * 4 + 2) (xs := [vI .i64 y7.b.f, vI .i64 y7.b.pc]) (by kernel_rfl) (fun _ hw => row_ld ((hw.1).getG 0 rfl) hy7 (Fr.refl No _) (fun h => h) 2 2 (by kernel_rfl)) (by kernel_rfl)) fun ac hA => sq_p (pA b1 2) hA fun ac hA => sq_q (vA #[vI .i64 p.b.f, vI .i64 p.b.pc]) hA (rl b1 2 0) fun ac hA => sq_call (v := vI .i64 (Site.cmp y7.b p.b)) hA (by kernel_rfl) (by kernel_rfl) (by kernel_rfl) (fun _ => by kernel_rfl) (Cls.callNC fun wx hwx => e_order07 y7.b p.b wx) ?_; clear hA ac; intro ac hA
   refine sq_p (vB (decide ((Site.cmp y7.b p.b : Int) < (0 : Int)))) hA fun ac hA => sq_p (vB (decide ((Site.cmp y7.b p.b : Int) < (0 : Int)))) hA fun ac hA => sq_p (vB (decide ((Site.cmp y7.b p.b : Int) < (0 : Int)))) hA fun ac hA => sq_p (vB (decide ((Site.cmp y7.b p.b : Int) < (0 : Int)))) hA fun ac hA => sq_nil ?_; intro w13 hww13; have hW := hww13.1; have hfw13 := hww13.2; clear hww13
   refine thenN <| wp_cond_split (t := decide ((Site.cmp y7.b p.b : Int) < (0 : Int))) (hA.eval (by kernel_rfl)) (fun h14 => ?_) (fun h14 => ?_)
   ·
    have h14 := of_decide_eq_true h14
    refine wp_skip <| thenN <| wp_block <| wp_region_lit <| st_p (vI .i64 (k : Int)) hA fun ac hA => st_q (vI .i64 ((k + 1 : Nat) : Int)) hA hW.cls (Rd.pureE (v0 := vI .i64 (IntKind.i64.wrap ((k : Int) + 1))) (fun _ => by kernel_rfl) (congrArg (vI .i64) ((w_i64 (x := (k : Int) + 1) (by omega) (by omega)).trans (by omega)))) fun ac hA => st_p (vI .i64 ((k + 1 : Nat) : Int)) hA fun ac hA => wpList_nil <| blkN <| thenN ?_
    exact ⟨l.length - (k + 1), by omega, k + 1, rfl, by omega, by intro x_ hx_; rw [tk_snoc hy7] at hx_; rcases List.mem_append.1 hx_ with hx_ | hx_; exact hn x_ hx_; (rw [List.mem_singleton.1 hx_]; exact ltP_cmp.2 (.inr ⟨h12, by first | assumption | omega⟩)), hA.sub (by and_intros <;> first | kernel_rfl | trivial), (hW.pick [0] (by decide) rfl).pickG [0] rfl⟩
   have h14 := of_decide_eq_false h14
   refine wp_exit <| thenX <| thenX <| blkX <| thenN <| wp_seq <| wp_cut (fun ac_ wl_ => ∃ Ar6_11 : Option Addr, ∃ Ar6_4 : Option Addr, ∃ Ar6_7 : Option Addr, ∃ br6_0 : Nat, ∃ br6_6 : Nat, ∃ cr6_11 : Nat, ∃ cr6_4 : Nat, ∃ cr6_7 : Nat, ((((([] : List Pair) ++ (l.take k)) ++ ([p] : List Pair)) ++ (l.drop k)).length ≤ cr6_11) ∧ ((([] : List Pair) ++ (l.take k)).length ≤ cr6_4) ∧ (((([] : List Pair) ++ (l.take k)) ++ ([p] : List Pair)).length ≤ cr6_7) ∧ Fm 60 [] [(0, vS (some ⟨b8, o9, none⟩) l.length c_l), (3, pA b1 0), (4, vS Ar6_11 (((([] : List Pair) ++ (l.take k)) ++ ([p] : List Pair)) ++ (l.drop k)).length cr6_11), (5, vI .i64 (k : Int)), (10, vI .i64 (k : Int)), (11, vS (some ⟨b8, o9, none⟩) l.length c_l), (12, vI .i64 (l.length : Int)), (13, vB true), (14, vB true), (15, vS (some ⟨b8, o9, none⟩) l.length c_l), (16, vI .i64 (k : Int)), (17, vP (some ⟨b8, o9 + k * 4, none⟩)), (18, vP (some ⟨b8, o9 + k * 4, none⟩)), (19, vA #[vI .i64 y7.a.f, vI .i64 y7.a.pc]), (20, pA b1 0), (21, vA #[vI .i64 p.a.f, vI .i64 p.a.pc]), (22, vI .i64 (Site.cmp y7.a p.a)), (23, vB false), (24, vB false), (25, vS (some ⟨b8, o9, none⟩) l.length c_l), (26, vI .i64 (k : Int)), (27, vP (some ⟨b8, o9 + k * 4, none⟩)), (28, vP (some ⟨b8, o9 + k * 4, none⟩)), (29, vA #[vI .i64 y7.a.f, vI .i64 y7.a.pc]), (30, pA b1 0), (31, vA #[vI .i64 p.a.f, vI .i64 p.a.pc]), (32, vB true), (33, vB true), (34, vS (some ⟨b8, o9, none⟩) l.length c_l), (35, vI .i64 (k : Int)), (36, vP (some ⟨b8, o9 + k * 4, none⟩)), (37, vP (some ⟨b8, o9 + k * 4 + 2, none⟩)), (38, vA #[vI .i64 y7.b.f, vI .i64 y7.b.pc]), (39, pA b1 2), (40, vA #[vI .i64 p.b.f, vI .i64 p.b.pc]), (41, vI .i64 (Site.cmp y7.b p.b)), (42, vB (decide ((Site.cmp y7.b p.b : Int) < (0 : Int)))), (43, vB (decide ((Site.cmp y7.b p.b : Int) < (0 : Int)))), (44, vB (decide ((Site.cmp y7.b p.b : Int) < (0 : Int)))), (45, vB (decide ((Site.cmp y7.b p.b : Int) < (0 : Int))))] ac_ ∧ Ws w No [Cel br6_6 #[vI .i64 p.a.f, vI .i64 p.a.pc, vI .i64 p.b.f, vI .i64 p.b.pc] 45, rowR 45 4 enPair (vS Ar6_11 (((([] : List Pair) ++ (l.take k)) ++ ([p] : List Pair)) ++ (l.drop k)).length cr6_11) (((([] : List Pair) ++ (l.take k)) ++ ([p] : List Pair)) ++ (l.drop k)), Cel b1 #[vI .i64 p.a.f, vI .i64 p.a.pc, vI .i64 p.b.f, vI .i64 p.b.pc] 45] [roR (some ⟨b8, o9, none⟩) 4 enPair l] wl_) ?_ ?_
   · refine sr_region (m := 13) (C := Ws w No [Cel b1 #[vI .i64 p.a.f, vI .i64 p.a.pc, vI .i64 p.b.f, vI .i64 p.b.pc] 45] [roR (some ⟨b8, o9, none⟩) 4 enPair l]) (fun i => [5].contains i) (fun i => [0, 4, 5].contains i) (fun i => [1, 2, 3, 8, 9, 10, 12].contains i) (by kernel_rfl) (by kernel_rfl) (by kernel_rfl) (by kernel_rfl) hW ?_; clear hW; intro w15 hW hfw15 hR; have hC : Ws w No [Cel b1 #[vI .i64 p.a.f, vI .i64 p.a.pc, vI .i64 p.b.f, vI .i64 p.b.pc] 45] [roR (some ⟨b8, o9, none⟩) 4 enPair l] w15 := hW.pick [0] (by decide) rfl
     refine sr_p 1 (vS (some ⟨b8, o9, none⟩) l.length c_l) hR rfl hA fun ac hA => sr_p 2 (vI .i64 (k : Int)) hR rfl hA fun ac hA => sr_q 3 (vS (some ⟨b8, o9, none⟩) (l.take k).length c_l) hR rfl hA ((Rd.slice (E := 45) (A := (some ⟨b8, o9, none⟩)) (n := l.length) (c := c_l) (l := 0) (h := k) (m := c_l) (sz := 4) (by kernel_rfl) (fun _ => by kernel_rfl) (fun _ => by kernel_rfl) (fun w => bounds_hi (by omega) w)).cast (slice_eq (addr_zero _ _ _) (by first | omega | (simp; done) | (simp; omega)) (by first | omega | (simp; done) | (simp; omega)))) fun ac hA => sr_t 5 (vA #[vI .i64 p.a.f, vI .i64 p.a.pc, vI .i64 p.b.f, vI .i64 p.b.pc]) hR rfl hA hC (Rd.load (b := b1) (i := 0) (by kernel_rfl) (fun _ hw => (hw).cel 0 rfl) (by kernel_rfl)) fun ac hA => sr_p 8 (vS (some ⟨b8, o9, none⟩) l.length c_l) hR rfl hA fun ac hA => sr_p 9 (vI .i64 (k : Int)) hR rfl hA fun ac hA => sr_q 10 (vS (if c_l = k then ((some ⟨b8, o9, none⟩) : Option Addr) else Option.map (fun a_ => Addr.add a_ (k * 4)) ((some ⟨b8, o9, none⟩) : Option Addr)) (l.drop k).length (c_l - k)) hR rfl hA ((Rd.slice (E := 45) (A := (some ⟨b8, o9, none⟩)) (n := l.length) (c := c_l) (l := k) (h := l.length) (m := c_l) (sz := 4) (by kernel_rfl) (fun _ => by kernel_rfl) (fun _ => by kernel_rfl) (fun w => bounds_lo (by omega) w)).cast (slice_eq rfl (by first | omega | (simp; done) | (simp; omega)) rfl)) fun ac hA => sr_two (i := 0) (j := 6) (by kernel_rfl) ?_ ?_
     ·
      refine (sr_d rfl hA (Runs.cells (fun b => vS (some ⟨b, 0, none⟩) 0 0) #[] 45 (fun _ => by kernel_rfl) hW ?_)); clear hA ac hW; intro br6_0 w16 hW hbr6_0 hfw16 ac hA
      refine ⟨⟨fun _ => (hW.pick [1] (by decide) rfl).pickG [0] rfl, fun h => absurd h (by decide)⟩, ?_⟩; have hC : Ws w No [Cel b1 #[vI .i64 p.a.f, vI .i64 p.a.pc, vI .i64 p.b.f, vI .i64 p.b.pc] 45] [roR (some ⟨b8, o9, none⟩) 4 enPair l] w16 := (hW.pick [1] (by decide) rfl).pickG [0] rfl
      refine sr_two (i := 4) (j := 6) (by kernel_rfl) ?_ ?_
      ·
       have hW := hW.celRow (en := enPair) (H' := [rowR 45 4 enPair (vS (some ⟨br6_0, 0, none⟩) ([] : List Pair).length ([] : List Pair).length) ([] : List Pair), Cel b1 #[vI .i64 p.a.f, vI .i64 p.a.pc, vI .i64 p.b.f, vI .i64 p.b.pc] 45]) 0 rfl ([] : List Pair) (by rfl) elt_Pair.len (by decide) rfl
       refine (sr_d rfl hA (Runs.appOwn (B := (some ⟨b8, o9, none⟩)) (k := c_l) (E := 45) (sz := 4) (en := enPair) (l := ([] : List Pair)) (m := (l.take k)) (i := 0) (by kernel_rfl) (by kernel_rfl) elt_Pair (by kernel_rfl) hW rfl (((hW).getG 0 rfl).takeE k) (by first | omega | (simp; done) | (simp; omega)) (by first | omega | (simp; done) | (simp; omega)) ?_)); clear hA ac hW; intro Ar6_4 cr6_4 w17 hW hccr6_4 ac hA
       refine ⟨⟨fun _ => (hW.pick [1] (by decide) rfl).pickG [0] rfl, fun h => absurd h (by decide)⟩, ?_⟩; have hC : Ws w No [Cel b1 #[vI .i64 p.a.f, vI .i64 p.a.pc, vI .i64 p.b.f, vI .i64 p.b.pc] 45] [roR (some ⟨b8, o9, none⟩) 4 enPair l] w17 := (hW.pick [1] (by decide) rfl).pickG [0] rfl
       refine sr_one (i := 6) (by kernel_rfl) (sr_d rfl hA (Runs.cells (fun b => vS (some ⟨b, 0, none⟩) 1 1) #[vI .i64 p.a.f, vI .i64 p.a.pc, vI .i64 p.b.f, vI .i64 p.b.pc] 45 (fun _ => by kernel_rfl) hW ?_)); clear hA ac hW; intro br6_6 w18 hW hbr6_6 hfw18 ac hA
       refine qn <| sr_one (i := 7) (by kernel_rfl) (sr_d rfl hA (Runs.appOwn (B := (some ⟨br6_6, 0, none⟩)) (k := 1) (E := 45) (sz := 4) (en := enPair) (l := (([] : List Pair) ++ (l.take k))) (m := ([p] : List Pair)) (i := 1) (by kernel_rfl) (by kernel_rfl) elt_Pair (by kernel_rfl) hW rfl (rowAt_cel ((hW).cel 0 rfl) ([p] : List Pair) (by rfl) elt_Pair.len) (by first | omega | (simp; done) | (simp; omega)) (by first | omega | (simp; done) | (simp; omega)) ?_)); clear hA ac hW; intro Ar6_7 cr6_7 w19 hW hccr6_7 ac hA
       refine qn <| sr_one (i := 11) (by kernel_rfl) (sr_d rfl hA (Runs.appOwn (B := (if c_l = k then ((some ⟨b8, o9, none⟩) : Option Addr) else Option.map (fun a_ => Addr.add a_ (k * 4)) ((some ⟨b8, o9, none⟩) : Option Addr))) (k := c_l - k) (E := 45) (sz := 4) (en := enPair) (l := ((([] : List Pair) ++ (l.take k)) ++ ([p] : List Pair))) (m := (l.drop k)) (i := 1) (by kernel_rfl) (by kernel_rfl) elt_Pair (by kernel_rfl) hW rfl (((hW).getG 0 rfl).dropE (by first | assumption | omega) k) (by first | omega | (simp; done) | (simp; omega)) (by first | omega | (simp; done) | (simp; omega)) ?_)); clear hA ac hW; intro Ar6_11 cr6_11 w20 hW hccr6_11 ac hA
       refine qn <| sr_p 12 (vS Ar6_11 (((([] : List Pair) ++ (l.take k)) ++ ([p] : List Pair)) ++ (l.drop k)).length cr6_11) hR rfl hA ?_; clear hA ac; intro ac hA
       refine sr_done (by kernel_rfl) ?_ _
       exact ⟨Ar6_11, Ar6_4, Ar6_7, br6_0, br6_6, cr6_11, cr6_4, cr6_7, hccr6_11, hccr6_4, hccr6_7, hA.sub (by and_intros <;> first | kernel_rfl | trivial), (hW.pick [0, 1, 2] (by decide) rfl).pickG [0] rfl⟩
      ·
       refine (sr_d rfl hA (Runs.cells (fun b => vS (some ⟨b, 0, none⟩) 1 1) #[vI .i64 p.a.f, vI .i64 p.a.pc, vI .i64 p.b.f, vI .i64 p.b.pc] 45 (fun _ => by kernel_rfl) hW ?_)); clear hA ac hW; intro br6_6 w21 hW hbr6_6 hfw21 ac hA
       refine qn ?_
       have hW := hW.celRow (en := enPair) (H' := [Cel br6_6 #[vI .i64 p.a.f, vI .i64 p.a.pc, vI .i64 p.b.f, vI .i64 p.b.pc] 45, rowR 45 4 enPair (vS (some ⟨br6_0, 0, none⟩) ([] : List Pair).length ([] : List Pair).length) ([] : List Pair), Cel b1 #[vI .i64 p.a.f, vI .i64 p.a.pc, vI .i64 p.b.f, vI .i64 p.b.pc] 45]) 1 rfl ([] : List Pair) (by rfl) elt_Pair.len (by decide) rfl
       refine sr_one (i := 4) (by kernel_rfl) (sr_d rfl hA (Runs.appOwn (B := (some ⟨b8, o9, none⟩)) (k := c_l) (E := 45) (sz := 4) (en := enPair) (l := ([] : List Pair)) (m := (l.take k)) (i := 1) (by kernel_rfl) (by kernel_rfl) elt_Pair (by kernel_rfl) hW rfl (((hW).getG 0 rfl).takeE k) (by first | omega | (simp; done) | (simp; omega)) (by first | omega | (simp; done) | (simp; omega)) ?_)); clear hA ac hW; intro Ar6_4 cr6_4 w22 hW hccr6_4 ac hA
       refine ⟨⟨fun _ => (hW.pick [2] (by decide) rfl).pickG [0] rfl, fun h => absurd h (by decide)⟩, ?_⟩; have hC : Ws w No [Cel b1 #[vI .i64 p.a.f, vI .i64 p.a.pc, vI .i64 p.b.f, vI .i64 p.b.pc] 45] [roR (some ⟨b8, o9, none⟩) 4 enPair l] w22 := (hW.pick [2] (by decide) rfl).pickG [0] rfl
       refine sr_one (i := 7) (by kernel_rfl) (sr_d rfl hA (Runs.appOwn (B := (some ⟨br6_6, 0, none⟩)) (k := 1) (E := 45) (sz := 4) (en := enPair) (l := (([] : List Pair) ++ (l.take k))) (m := ([p] : List Pair)) (i := 1) (by kernel_rfl) (by kernel_rfl) elt_Pair (by kernel_rfl) hW rfl (rowAt_cel ((hW).cel 0 rfl) ([p] : List Pair) (by rfl) elt_Pair.len) (by first | omega | (simp; done) | (simp; omega)) (by first | omega | (simp; done) | (simp; omega)) ?_)); clear hA ac hW; intro Ar6_7 cr6_7 w23 hW hccr6_7 ac hA
       refine qn <| sr_one (i := 11) (by kernel_rfl) (sr_d rfl hA (Runs.appOwn (B := (if c_l = k then ((some ⟨b8, o9, none⟩) : Option Addr) else Option.map (fun a_ => Addr.add a_ (k * 4)) ((some ⟨b8, o9, none⟩) : Option Addr))) (k := c_l - k) (E := 45) (sz := 4) (en := enPair) (l := ((([] : List Pair) ++ (l.take k)) ++ ([p] : List Pair))) (m := (l.drop k)) (i := 1) (by kernel_rfl) (by kernel_rfl) elt_Pair (by kernel_rfl) hW rfl (((hW).getG 0 rfl).dropE (by first | assumption | omega) k) (by first | omega | (simp; done) | (simp; omega)) (by first | omega | (simp; done) | (simp; omega)) ?_)); clear hA ac hW; intro Ar6_11 cr6_11 w24 hW hccr6_11 ac hA
       refine qn <| sr_p 12 (vS Ar6_11 (((([] : List Pair) ++ (l.take k)) ++ ([p] : List Pair)) ++ (l.drop k)).length cr6_11) hR rfl hA ?_; clear hA ac; intro ac hA
       refine sr_done (by kernel_rfl) ?_ _
       exact ⟨Ar6_11, Ar6_4, Ar6_7, br6_0, br6_6, cr6_11, cr6_4, cr6_7, hccr6_11, hccr6_4, hccr6_7, hA.sub (by and_intros <;> first | kernel_rfl | trivial), (hW.pick [0, 1, 2] (by decide) rfl).pickG [0] rfl⟩
     ·
      refine (sr_d rfl hA (Runs.cells (fun b => vS (some ⟨b, 0, none⟩) 1 1) #[vI .i64 p.a.f, vI .i64 p.a.pc, vI .i64 p.b.f, vI .i64 p.b.pc] 45 (fun _ => by kernel_rfl) hW ?_)); clear hA ac hW; intro br6_6 w25 hW hbr6_6 hfw25 ac hA
      refine qn <| sr_one (i := 0) (by kernel_rfl) (sr_d rfl hA (Runs.cells (fun b => vS (some ⟨b, 0, none⟩) 0 0) #[] 45 (fun _ => by kernel_rfl) hW ?_)); clear hA ac hW; intro br6_0 w26 hW hbr6_0 hfw26 ac hA
      refine ⟨⟨fun _ => (hW.pick [2] (by decide) rfl).pickG [0] rfl, fun h => absurd h (by decide)⟩, ?_⟩; have hC : Ws w No [Cel b1 #[vI .i64 p.a.f, vI .i64 p.a.pc, vI .i64 p.b.f, vI .i64 p.b.pc] 45] [roR (some ⟨b8, o9, none⟩) 4 enPair l] w26 := (hW.pick [2] (by decide) rfl).pickG [0] rfl
      have hW := hW.celRow (en := enPair) (H' := [rowR 45 4 enPair (vS (some ⟨br6_0, 0, none⟩) ([] : List Pair).length ([] : List Pair).length) ([] : List Pair), Cel br6_6 #[vI .i64 p.a.f, vI .i64 p.a.pc, vI .i64 p.b.f, vI .i64 p.b.pc] 45, Cel b1 #[vI .i64 p.a.f, vI .i64 p.a.pc, vI .i64 p.b.f, vI .i64 p.b.pc] 45]) 0 rfl ([] : List Pair) (by rfl) elt_Pair.len (by decide) rfl
      refine sr_one (i := 4) (by kernel_rfl) (sr_d rfl hA (Runs.appOwn (B := (some ⟨b8, o9, none⟩)) (k := c_l) (E := 45) (sz := 4) (en := enPair) (l := ([] : List Pair)) (m := (l.take k)) (i := 0) (by kernel_rfl) (by kernel_rfl) elt_Pair (by kernel_rfl) hW rfl (((hW).getG 0 rfl).takeE k) (by first | omega | (simp; done) | (simp; omega)) (by first | omega | (simp; done) | (simp; omega)) ?_)); clear hA ac hW; intro Ar6_4 cr6_4 w27 hW hccr6_4 ac hA
      refine ⟨⟨fun _ => (hW.pick [2] (by decide) rfl).pickG [0] rfl, fun h => absurd h (by decide)⟩, ?_⟩; have hC : Ws w No [Cel b1 #[vI .i64 p.a.f, vI .i64 p.a.pc, vI .i64 p.b.f, vI .i64 p.b.pc] 45] [roR (some ⟨b8, o9, none⟩) 4 enPair l] w27 := (hW.pick [2] (by decide) rfl).pickG [0] rfl
      refine sr_one (i := 7) (by kernel_rfl) (sr_d rfl hA (Runs.appOwn (B := (some ⟨br6_6, 0, none⟩)) (k := 1) (E := 45) (sz := 4) (en := enPair) (l := (([] : List Pair) ++ (l.take k))) (m := ([p] : List Pair)) (i := 0) (by kernel_rfl) (by kernel_rfl) elt_Pair (by kernel_rfl) hW rfl (rowAt_cel ((hW).cel 1 rfl) ([p] : List Pair) (by rfl) elt_Pair.len) (by first | omega | (simp; done) | (simp; omega)) (by first | omega | (simp; done) | (simp; omega)) ?_)); clear hA ac hW; intro Ar6_7 cr6_7 w28 hW hccr6_7 ac hA
      refine qn <| sr_one (i := 11) (by kernel_rfl) (sr_d rfl hA (Runs.appOwn (B := (if c_l = k then ((some ⟨b8, o9, none⟩) : Option Addr) else Option.map (fun a_ => Addr.add a_ (k * 4)) ((some ⟨b8, o9, none⟩) : Option Addr))) (k := c_l - k) (E := 45) (sz := 4) (en := enPair) (l := ((([] : List Pair) ++ (l.take k)) ++ ([p] : List Pair))) (m := (l.drop k)) (i := 0) (by kernel_rfl) (by kernel_rfl) elt_Pair (by kernel_rfl) hW rfl (((hW).getG 0 rfl).dropE (by first | assumption | omega) k) (by first | omega | (simp; done) | (simp; omega)) (by first | omega | (simp; done) | (simp; omega)) ?_)); clear hA ac hW; intro Ar6_11 cr6_11 w29 hW hccr6_11 ac hA
      refine qn <| sr_p 12 (vS Ar6_11 (((([] : List Pair) ++ (l.take k)) ++ ([p] : List Pair)) ++ (l.drop k)).length cr6_11) hR rfl hA ?_; clear hA ac; intro ac hA
      refine sr_done (by kernel_rfl) ?_ _
      exact ⟨Ar6_11, Ar6_4, Ar6_7, br6_0, br6_6, cr6_11, cr6_4, cr6_7, hccr6_11, hccr6_4, hccr6_7, hA.sub (by and_intros <;> first | kernel_rfl | trivial), (hW.pick [1, 0, 2] (by decide) rfl).pickG [0] rfl⟩
   clear hA ac hW; rintro ac w30 ⟨Ar6_11, Ar6_4, Ar6_7, br6_0, br6_6, cr6_11, cr6_4, cr6_7, hccr6_11, hccr6_4, hccr6_7, hA, hW⟩
   refine thenN <| wp_ret <| r1 (vS Ar6_11 (((([] : List Pair) ++ (l.take k)) ++ ([p] : List Pair)) ++ (l.drop k)).length cr6_11) hA ?_
   clear hA
   have hq_ : addP l p = ((([] : List Pair) ++ (l.take k)) ++ ([p] : List Pair)) ++ (l.drop k) := addP_at (of_decide_eq_false (by assumption)) hk hn (fun y_ hy_ q_ => by have e_ := Option.some.inj (hy_.symm.trans hy7); subst e_; rcases ltP_cmp.1 q_ with q_ | q_; (first | omega | exact absurd q_ (by assumption)); (first | exact absurd q_.1 (by assumption) | (have q2_ := q_.2; omega) | exact absurd q_.2 (by assumption)))
   rw [hq_]
   exact ⟨Ar6_11, cr6_11, by first | rfl | (simp; done), (own_cap ((hW).get 1 rfl)), (hW.outRow 1 rfl elt_Pair.len (fun _ h => h)), hW.fr⟩
  rw [h12] at hA
  have h12 := of_decide_eq_false h12
  have h12e := fun e => h12 ((Site.eqi _ _).2 e)
  refine sq_k hA fun ac hA => sq_k hA fun ac hA => sq_k hA fun ac hA => sq_k hA fun ac hA => sq_k hA fun ac hA => sq_k hA fun ac hA => sq_k hA fun ac hA => sq_k hA fun ac hA => sq_k hA fun ac hA => sq_p (vB false) hA fun ac hA => sq_p (vB false) hA fun ac hA => sq_p (vB false) hA fun ac hA => sq_nil ?_; intro w31 hww31; have hW := hww31.1; have hfw31 := hww31.2; clear hww31
  refine thenN <| wp_cond_false (hA.eval (by kernel_rfl)) <| wp_exit <| thenX <| thenX <| blkX <| thenN <| wp_seq <| wp_cut (fun ac_ wl_ => ∃ Ar6_11 : Option Addr, ∃ Ar6_4 : Option Addr, ∃ Ar6_7 : Option Addr, ∃ br6_0 : Nat, ∃ br6_6 : Nat, ∃ cr6_11 : Nat, ∃ cr6_4 : Nat, ∃ cr6_7 : Nat, ((((([] : List Pair) ++ (l.take k)) ++ ([p] : List Pair)) ++ (l.drop k)).length ≤ cr6_11) ∧ ((([] : List Pair) ++ (l.take k)).length ≤ cr6_4) ∧ (((([] : List Pair) ++ (l.take k)) ++ ([p] : List Pair)).length ≤ cr6_7) ∧ Fm 60 [] [(0, vS (some ⟨b8, o9, none⟩) l.length c_l), (3, pA b1 0), (4, vS Ar6_11 (((([] : List Pair) ++ (l.take k)) ++ ([p] : List Pair)) ++ (l.drop k)).length cr6_11), (5, vI .i64 (k : Int)), (10, vI .i64 (k : Int)), (11, vS (some ⟨b8, o9, none⟩) l.length c_l), (12, vI .i64 (l.length : Int)), (13, vB true), (14, vB true), (15, vS (some ⟨b8, o9, none⟩) l.length c_l), (16, vI .i64 (k : Int)), (17, vP (some ⟨b8, o9 + k * 4, none⟩)), (18, vP (some ⟨b8, o9 + k * 4, none⟩)), (19, vA #[vI .i64 y7.a.f, vI .i64 y7.a.pc]), (20, pA b1 0), (21, vA #[vI .i64 p.a.f, vI .i64 p.a.pc]), (22, vI .i64 (Site.cmp y7.a p.a)), (23, vB false), (24, vB false), (25, vS (some ⟨b8, o9, none⟩) l.length c_l), (26, vI .i64 (k : Int)), (27, vP (some ⟨b8, o9 + k * 4, none⟩)), (28, vP (some ⟨b8, o9 + k * 4, none⟩)), (29, vA #[vI .i64 y7.a.f, vI .i64 y7.a.pc]), (30, pA b1 0), (31, vA #[vI .i64 p.a.f, vI .i64 p.a.pc]), (32, vB false), (33, vB false), (34, undef), (35, undef), (36, undef), (37, undef), (38, undef), (39, undef), (40, undef), (41, undef), (42, undef), (43, vB false), (44, vB false), (45, vB false)] ac_ ∧ Ws w No [Cel br6_6 #[vI .i64 p.a.f, vI .i64 p.a.pc, vI .i64 p.b.f, vI .i64 p.b.pc] 45, rowR 45 4 enPair (vS Ar6_11 (((([] : List Pair) ++ (l.take k)) ++ ([p] : List Pair)) ++ (l.drop k)).length cr6_11) (((([] : List Pair) ++ (l.take k)) ++ ([p] : List Pair)) ++ (l.drop k)), Cel b1 #[vI .i64 p.a.f, vI .i64 p.a.pc, vI .i64 p.b.f, vI .i64 p.b.pc] 45] [roR (some ⟨b8, o9, none⟩) 4 enPair l] wl_) ?_ ?_
  · refine sr_region (m := 13) (C := Ws w No [Cel b1 #[vI .i64 p.a.f, vI .i64 p.a.pc, vI .i64 p.b.f, vI .i64 p.b.pc] 45] [roR (some ⟨b8, o9, none⟩) 4 enPair l]) (fun i => [5].contains i) (fun i => [0, 4, 5].contains i) (fun i => [1, 2, 3, 8, 9, 10, 12].contains i) (by kernel_rfl) (by kernel_rfl) (by kernel_rfl) (by kernel_rfl) hW ?_; clear hW; intro w32 hW hfw32 hR; have hC : Ws w No [Cel b1 #[vI .i64 p.a.f, vI .i64 p.a.pc, vI .i64 p.b.f, vI .i64 p.b.pc] 45] [roR (some ⟨b8, o9, none⟩) 4 enPair l] w32 := hW.pick [0] (by decide) rfl
    refine sr_p 1 (vS (some ⟨b8, o9, none⟩) l.length c_l) hR rfl hA fun ac hA => sr_p 2 (vI .i64 (k : Int)) hR rfl hA fun ac hA => sr_q 3 (vS (some ⟨b8, o9, none⟩) (l.take k).length c_l) hR rfl hA ((Rd.slice (E := 45) (A := (some ⟨b8, o9, none⟩)) (n := l.length) (c := c_l) (l := 0) (h := k) (m := c_l) (sz := 4) (by kernel_rfl) (fun _ => by kernel_rfl) (fun _ => by kernel_rfl) (fun w => bounds_hi (by omega) w)).cast (slice_eq (addr_zero _ _ _) (by first | omega | (simp; done) | (simp; omega)) (by first | omega | (simp; done) | (simp; omega)))) fun ac hA => sr_t 5 (vA #[vI .i64 p.a.f, vI .i64 p.a.pc, vI .i64 p.b.f, vI .i64 p.b.pc]) hR rfl hA hC (Rd.load (b := b1) (i := 0) (by kernel_rfl) (fun _ hw => (hw).cel 0 rfl) (by kernel_rfl)) fun ac hA => sr_p 8 (vS (some ⟨b8, o9, none⟩) l.length c_l) hR rfl hA fun ac hA => sr_p 9 (vI .i64 (k : Int)) hR rfl hA fun ac hA => sr_q 10 (vS (if c_l = k then ((some ⟨b8, o9, none⟩) : Option Addr) else Option.map (fun a_ => Addr.add a_ (k * 4)) ((some ⟨b8, o9, none⟩) : Option Addr)) (l.drop k).length (c_l - k)) hR rfl hA ((Rd.slice (E := 45) (A := (some ⟨b8, o9, none⟩)) (n := l.length) (c := c_l) (l := k) (h := l.length) (m := c_l) (sz := 4) (by kernel_rfl) (fun _ => by kernel_rfl) (fun _ => by kernel_rfl) (fun w => bounds_lo (by omega) w)).cast (slice_eq rfl (by first | omega | (simp; done) | (simp; omega)) rfl)) fun ac hA => sr_two (i := 0) (j := 6) (by kernel_rfl) ?_ ?_
    ·
     refine (sr_d rfl hA (Runs.cells (fun b => vS (some ⟨b, 0, none⟩) 0 0) #[] 45 (fun _ => by kernel_rfl) hW ?_)); clear hA ac hW; intro br6_0 w33 hW hbr6_0 hfw33 ac hA
     refine ⟨⟨fun _ => (hW.pick [1] (by decide) rfl).pickG [0] rfl, fun h => absurd h (by decide)⟩, ?_⟩; have hC : Ws w No [Cel b1 #[vI .i64 p.a.f, vI .i64 p.a.pc, vI .i64 p.b.f, vI .i64 p.b.pc] 45] [roR (some ⟨b8, o9, none⟩) 4 enPair l] w33 := (hW.pick [1] (by decide) rfl).pickG [0] rfl
     refine sr_two (i := 4) (j := 6) (by kernel_rfl) ?_ ?_
     ·
      have hW := hW.celRow (en := enPair) (H' := [rowR 45 4 enPair (vS (some ⟨br6_0, 0, none⟩) ([] : List Pair).length ([] : List Pair).length) ([] : List Pair), Cel b1 #[vI .i64 p.a.f, vI .i64 p.a.pc, vI .i64 p.b.f, vI .i64 p.b.pc] 45]) 0 rfl ([] : List Pair) (by rfl) elt_Pair.len (by decide) rfl
      refine (sr_d rfl hA (Runs.appOwn (B := (some ⟨b8, o9, none⟩)) (k := c_l) (E := 45) (sz := 4) (en := enPair) (l := ([] : List Pair)) (m := (l.take k)) (i := 0) (by kernel_rfl) (by kernel_rfl) elt_Pair (by kernel_rfl) hW rfl (((hW).getG 0 rfl).takeE k) (by first | omega | (simp; done) | (simp; omega)) (by first | omega | (simp; done) | (simp; omega)) ?_)); clear hA ac hW; intro Ar6_4 cr6_4 w34 hW hccr6_4 ac hA
      refine ⟨⟨fun _ => (hW.pick [1] (by decide) rfl).pickG [0] rfl, fun h => absurd h (by decide)⟩, ?_⟩; have hC : Ws w No [Cel b1 #[vI .i64 p.a.f, vI .i64 p.a.pc, vI .i64 p.b.f, vI .i64 p.b.pc] 45] [roR (some ⟨b8, o9, none⟩) 4 enPair l] w34 := (hW.pick [1] (by decide) rfl).pickG [0] rfl
      refine sr_one (i := 6) (by kernel_rfl) (sr_d rfl hA (Runs.cells (fun b => vS (some ⟨b, 0, none⟩) 1 1) #[vI .i64 p.a.f, vI .i64 p.a.pc, vI .i64 p.b.f, vI .i64 p.b.pc] 45 (fun _ => by kernel_rfl) hW ?_)); clear hA ac hW; intro br6_6 w35 hW hbr6_6 hfw35 ac hA
      refine qn <| sr_one (i := 7) (by kernel_rfl) (sr_d rfl hA (Runs.appOwn (B := (some ⟨br6_6, 0, none⟩)) (k := 1) (E := 45) (sz := 4) (en := enPair) (l := (([] : List Pair) ++ (l.take k))) (m := ([p] : List Pair)) (i := 1) (by kernel_rfl) (by kernel_rfl) elt_Pair (by kernel_rfl) hW rfl (rowAt_cel ((hW).cel 0 rfl) ([p] : List Pair) (by rfl) elt_Pair.len) (by first | omega | (simp; done) | (simp; omega)) (by first | omega | (simp; done) | (simp; omega)) ?_)); clear hA ac hW; intro Ar6_7 cr6_7 w36 hW hccr6_7 ac hA
      refine qn <| sr_one (i := 11) (by kernel_rfl) (sr_d rfl hA (Runs.appOwn (B := (if c_l = k then ((some ⟨b8, o9, none⟩) : Option Addr) else Option.map (fun a_ => Addr.add a_ (k * 4)) ((some ⟨b8, o9, none⟩) : Option Addr))) (k := c_l - k) (E := 45) (sz := 4) (en := enPair) (l := ((([] : List Pair) ++ (l.take k)) ++ ([p] : List Pair))) (m := (l.drop k)) (i := 1) (by kernel_rfl) (by kernel_rfl) elt_Pair (by kernel_rfl) hW rfl (((hW).getG 0 rfl).dropE (by first | assumption | omega) k) (by first | omega | (simp; done) | (simp; omega)) (by first | omega | (simp; done) | (simp; omega)) ?_)); clear hA ac hW; intro Ar6_11 cr6_11 w37 hW hccr6_11 ac hA
      refine qn <| sr_p 12 (vS Ar6_11 (((([] : List Pair) ++ (l.take k)) ++ ([p] : List Pair)) ++ (l.drop k)).length cr6_11) hR rfl hA ?_; clear hA ac; intro ac hA
      refine sr_done (by kernel_rfl) ?_ _
      exact ⟨Ar6_11, Ar6_4, Ar6_7, br6_0, br6_6, cr6_11, cr6_4, cr6_7, hccr6_11, hccr6_4, hccr6_7, hA.sub (by and_intros <;> first | kernel_rfl | trivial), (hW.pick [0, 1, 2] (by decide) rfl).pickG [0] rfl⟩
     ·
      refine (sr_d rfl hA (Runs.cells (fun b => vS (some ⟨b, 0, none⟩) 1 1) #[vI .i64 p.a.f, vI .i64 p.a.pc, vI .i64 p.b.f, vI .i64 p.b.pc] 45 (fun _ => by kernel_rfl) hW ?_)); clear hA ac hW; intro br6_6 w38 hW hbr6_6 hfw38 ac hA
      refine qn ?_
      have hW := hW.celRow (en := enPair) (H' := [Cel br6_6 #[vI .i64 p.a.f, vI .i64 p.a.pc, vI .i64 p.b.f, vI .i64 p.b.pc] 45, rowR 45 4 enPair (vS (some ⟨br6_0, 0, none⟩) ([] : List Pair).length ([] : List Pair).length) ([] : List Pair), Cel b1 #[vI .i64 p.a.f, vI .i64 p.a.pc, vI .i64 p.b.f, vI .i64 p.b.pc] 45]) 1 rfl ([] : List Pair) (by rfl) elt_Pair.len (by decide) rfl
      refine sr_one (i := 4) (by kernel_rfl) (sr_d rfl hA (Runs.appOwn (B := (some ⟨b8, o9, none⟩)) (k := c_l) (E := 45) (sz := 4) (en := enPair) (l := ([] : List Pair)) (m := (l.take k)) (i := 1) (by kernel_rfl) (by kernel_rfl) elt_Pair (by kernel_rfl) hW rfl (((hW).getG 0 rfl).takeE k) (by first | omega | (simp; done) | (simp; omega)) (by first | omega | (simp; done) | (simp; omega)) ?_)); clear hA ac hW; intro Ar6_4 cr6_4 w39 hW hccr6_4 ac hA
      refine ⟨⟨fun _ => (hW.pick [2] (by decide) rfl).pickG [0] rfl, fun h => absurd h (by decide)⟩, ?_⟩; have hC : Ws w No [Cel b1 #[vI .i64 p.a.f, vI .i64 p.a.pc, vI .i64 p.b.f, vI .i64 p.b.pc] 45] [roR (some ⟨b8, o9, none⟩) 4 enPair l] w39 := (hW.pick [2] (by decide) rfl).pickG [0] rfl
      refine sr_one (i := 7) (by kernel_rfl) (sr_d rfl hA (Runs.appOwn (B := (some ⟨br6_6, 0, none⟩)) (k := 1) (E := 45) (sz := 4) (en := enPair) (l := (([] : List Pair) ++ (l.take k))) (m := ([p] : List Pair)) (i := 1) (by kernel_rfl) (by kernel_rfl) elt_Pair (by kernel_rfl) hW rfl (rowAt_cel ((hW).cel 0 rfl) ([p] : List Pair) (by rfl) elt_Pair.len) (by first | omega | (simp; done) | (simp; omega)) (by first | omega | (simp; done) | (simp; omega)) ?_)); clear hA ac hW; intro Ar6_7 cr6_7 w40 hW hccr6_7 ac hA
      refine qn <| sr_one (i := 11) (by kernel_rfl) (sr_d rfl hA (Runs.appOwn (B := (if c_l = k then ((some ⟨b8, o9, none⟩) : Option Addr) else Option.map (fun a_ => Addr.add a_ (k * 4)) ((some ⟨b8, o9, none⟩) : Option Addr))) (k := c_l - k) (E := 45) (sz := 4) (en := enPair) (l := ((([] : List Pair) ++ (l.take k)) ++ ([p] : List Pair))) (m := (l.drop k)) (i := 1) (by kernel_rfl) (by kernel_rfl) elt_Pair (by kernel_rfl) hW rfl (((hW).getG 0 rfl).dropE (by first | assumption | omega) k) (by first | omega | (simp; done) | (simp; omega)) (by first | omega | (simp; done) | (simp; omega)) ?_)); clear hA ac hW; intro Ar6_11 cr6_11 w41 hW hccr6_11 ac hA
      refine qn <| sr_p 12 (vS Ar6_11 (((([] : List Pair) ++ (l.take k)) ++ ([p] : List Pair)) ++ (l.drop k)).length cr6_11) hR rfl hA ?_; clear hA ac; intro ac hA
      refine sr_done (by kernel_rfl) ?_ _
      exact ⟨Ar6_11, Ar6_4, Ar6_7, br6_0, br6_6, cr6_11, cr6_4, cr6_7, hccr6_11, hccr6_4, hccr6_7, hA.sub (by and_intros <;> first | kernel_rfl | trivial), (hW.pick [0, 1, 2] (by decide) rfl).pickG [0] rfl⟩
    ·
     refine (sr_d rfl hA (Runs.cells (fun b => vS (some ⟨b, 0, none⟩) 1 1) #[vI .i64 p.a.f, vI .i64 p.a.pc, vI .i64 p.b.f, vI .i64 p.b.pc] 45 (fun _ => by kernel_rfl) hW ?_)); clear hA ac hW; intro br6_6 w42 hW hbr6_6 hfw42 ac hA
     refine qn <| sr_one (i := 0) (by kernel_rfl) (sr_d rfl hA (Runs.cells (fun b => vS (some ⟨b, 0, none⟩) 0 0) #[] 45 (fun _ => by kernel_rfl) hW ?_)); clear hA ac hW; intro br6_0 w43 hW hbr6_0 hfw43 ac hA
     refine ⟨⟨fun _ => (hW.pick [2] (by decide) rfl).pickG [0] rfl, fun h => absurd h (by decide)⟩, ?_⟩; have hC : Ws w No [Cel b1 #[vI .i64 p.a.f, vI .i64 p.a.pc, vI .i64 p.b.f, vI .i64 p.b.pc] 45] [roR (some ⟨b8, o9, none⟩) 4 enPair l] w43 := (hW.pick [2] (by decide) rfl).pickG [0] rfl
     have hW := hW.celRow (en := enPair) (H' := [rowR 45 4 enPair (vS (some ⟨br6_0, 0, none⟩) ([] : List Pair).length ([] : List Pair).length) ([] : List Pair), Cel br6_6 #[vI .i64 p.a.f, vI .i64 p.a.pc, vI .i64 p.b.f, vI .i64 p.b.pc] 45, Cel b1 #[vI .i64 p.a.f, vI .i64 p.a.pc, vI .i64 p.b.f, vI .i64 p.b.pc] 45]) 0 rfl ([] : List Pair) (by rfl) elt_Pair.len (by decide) rfl
     refine sr_one (i := 4) (by kernel_rfl) (sr_d rfl hA (Runs.appOwn (B := (some ⟨b8, o9, none⟩)) (k := c_l) (E := 45) (sz := 4) (en := enPair) (l := ([] : List Pair)) (m := (l.take k)) (i := 0) (by kernel_rfl) (by kernel_rfl) elt_Pair (by kernel_rfl) hW rfl (((hW).getG 0 rfl).takeE k) (by first | omega | (simp; done) | (simp; omega)) (by first | omega | (simp; done) | (simp; omega)) ?_)); clear hA ac hW; intro Ar6_4 cr6_4 w44 hW hccr6_4 ac hA
     refine ⟨⟨fun _ => (hW.pick [2] (by decide) rfl).pickG [0] rfl, fun h => absurd h (by decide)⟩, ?_⟩; have hC : Ws w No [Cel b1 #[vI .i64 p.a.f, vI .i64 p.a.pc, vI .i64 p.b.f, vI .i64 p.b.pc] 45] [roR (some ⟨b8, o9, none⟩) 4 enPair l] w44 := (hW.pick [2] (by decide) rfl).pickG [0] rfl
     refine sr_one (i := 7) (by kernel_rfl) (sr_d rfl hA (Runs.appOwn (B := (some ⟨br6_6, 0, none⟩)) (k := 1) (E := 45) (sz := 4) (en := enPair) (l := (([] : List Pair) ++ (l.take k))) (m := ([p] : List Pair)) (i := 0) (by kernel_rfl) (by kernel_rfl) elt_Pair (by kernel_rfl) hW rfl (rowAt_cel ((hW).cel 1 rfl) ([p] : List Pair) (by rfl) elt_Pair.len) (by first | omega | (simp; done) | (simp; omega)) (by first | omega | (simp; done) | (simp; omega)) ?_)); clear hA ac hW; intro Ar6_7 cr6_7 w45 hW hccr6_7 ac hA
     refine qn <| sr_one (i := 11) (by kernel_rfl) (sr_d rfl hA (Runs.appOwn (B := (if c_l = k then ((some ⟨b8, o9, none⟩) : Option Addr) else Option.map (fun a_ => Addr.add a_ (k * 4)) ((some ⟨b8, o9, none⟩) : Option Addr))) (k := c_l - k) (E := 45) (sz := 4) (en := enPair) (l := ((([] : List Pair) ++ (l.take k)) ++ ([p] : List Pair))) (m := (l.drop k)) (i := 0) (by kernel_rfl) (by kernel_rfl) elt_Pair (by kernel_rfl) hW rfl (((hW).getG 0 rfl).dropE (by first | assumption | omega) k) (by first | omega | (simp; done) | (simp; omega)) (by first | omega | (simp; done) | (simp; omega)) ?_)); clear hA ac hW; intro Ar6_11 cr6_11 w46 hW hccr6_11 ac hA
     refine qn <| sr_p 12 (vS Ar6_11 (((([] : List Pair) ++ (l.take k)) ++ ([p] : List Pair)) ++ (l.drop k)).length cr6_11) hR rfl hA ?_; clear hA ac; intro ac hA
     refine sr_done (by kernel_rfl) ?_ _
     exact ⟨Ar6_11, Ar6_4, Ar6_7, br6_0, br6_6, cr6_11, cr6_4, cr6_7, hccr6_11, hccr6_4, hccr6_7, hA.sub (by and_intros <;> first | kernel_rfl | trivial), (hW.pick [1, 0, 2] (by decide) rfl).pickG [0] rfl⟩
  clear hA ac hW; rintro ac w47 ⟨Ar6_11, Ar6_4, Ar6_7, br6_0, br6_6, cr6_11, cr6_4, cr6_7, hccr6_11, hccr6_4, hccr6_7, hA, hW⟩
  refine thenN <| wp_ret <| r1 (vS Ar6_11 (((([] : List Pair) ++ (l.take k)) ++ ([p] : List Pair)) ++ (l.drop k)).length cr6_11) hA ?_
  clear hA
  have hq_ : addP l p = ((([] : List Pair) ++ (l.take k)) ++ ([p] : List Pair)) ++ (l.drop k) := addP_at (of_decide_eq_false (by assumption)) hk hn (fun y_ hy_ q_ => by have e_ := Option.some.inj (hy_.symm.trans hy7); subst e_; rcases ltP_cmp.1 q_ with q_ | q_; (first | omega | exact absurd q_ (by assumption)); (first | exact absurd q_.1 (by assumption) | (have q2_ := q_.2; omega) | exact absurd q_.2 (by assumption)))
  rw [hq_]
  exact ⟨Ar6_11, cr6_11, by first | rfl | (simp; done), (own_cap ((hW).get 1 rfl)), (hW.outRow 1 rfl elt_Pair.len (fun _ h => h)), hW.fr⟩
 rw [h6] at hA
 have h6 := of_decide_eq_false h6
 refine sq_k hA fun ac hA => sq_k hA fun ac hA => sq_k hA fun ac hA => sq_k hA fun ac hA => sq_k hA fun ac hA => sq_k hA fun ac hA => sq_k hA fun ac hA => sq_k hA fun ac hA => sq_k hA fun ac hA => sq_k hA fun ac hA => sq_k hA fun ac hA => sq_k hA fun ac hA => sq_k hA fun ac hA => sq_k hA fun ac hA => sq_k hA fun ac hA => sq_k hA fun ac hA => sq_k hA fun ac hA => sq_k hA fun ac hA => sq_k hA fun ac hA => sq_k hA fun ac hA => sq_k hA fun ac hA => sq_k hA fun ac hA => sq_k hA fun ac hA => sq_k hA fun ac hA => sq_k hA fun ac hA => sq_k hA fun ac hA => sq_k hA fun ac hA => sq_k hA fun ac hA => sq_k hA fun ac hA => sq_k hA fun ac hA => sq_p (vB false) hA fun ac hA => sq_nil ?_; intro w48 hww48; have hW := hww48.1; have hfw48 := hww48.2; clear hww48
 refine thenN <| wp_cond_false (hA.eval (by kernel_rfl)) <| wp_exit <| thenX <| thenX <| blkX <| thenN <| wp_seq <| wp_cut (fun ac_ wl_ => ∃ Ar6_11 : Option Addr, ∃ Ar6_4 : Option Addr, ∃ Ar6_7 : Option Addr, ∃ br6_0 : Nat, ∃ br6_6 : Nat, ∃ cr6_11 : Nat, ∃ cr6_4 : Nat, ∃ cr6_7 : Nat, ((((([] : List Pair) ++ (l.take k)) ++ ([p] : List Pair)) ++ (l.drop k)).length ≤ cr6_11) ∧ ((([] : List Pair) ++ (l.take k)).length ≤ cr6_4) ∧ (((([] : List Pair) ++ (l.take k)) ++ ([p] : List Pair)).length ≤ cr6_7) ∧ Fm 60 [] [(0, vS A_l l.length c_l), (3, pA b1 0), (4, vS Ar6_11 (((([] : List Pair) ++ (l.take k)) ++ ([p] : List Pair)) ++ (l.drop k)).length cr6_11), (5, vI .i64 (k : Int)), (10, vI .i64 (k : Int)), (11, vS A_l l.length c_l), (12, vI .i64 (l.length : Int)), (13, vB false), (14, vB false), (15, undef), (16, undef), (17, undef), (18, undef), (19, undef), (20, undef), (21, undef), (22, undef), (23, undef), (24, undef), (25, undef), (26, undef), (27, undef), (28, undef), (29, undef), (30, undef), (31, undef), (32, undef), (33, undef), (34, undef), (35, undef), (36, undef), (37, undef), (38, undef), (39, undef), (40, undef), (41, undef), (42, undef), (43, undef), (44, undef), (45, vB false)] ac_ ∧ Ws w No [Cel br6_6 #[vI .i64 p.a.f, vI .i64 p.a.pc, vI .i64 p.b.f, vI .i64 p.b.pc] 45, rowR 45 4 enPair (vS Ar6_11 (((([] : List Pair) ++ (l.take k)) ++ ([p] : List Pair)) ++ (l.drop k)).length cr6_11) (((([] : List Pair) ++ (l.take k)) ++ ([p] : List Pair)) ++ (l.drop k)), Cel b1 #[vI .i64 p.a.f, vI .i64 p.a.pc, vI .i64 p.b.f, vI .i64 p.b.pc] 45] [roR A_l 4 enPair l] wl_) ?_ ?_
 · refine sr_region (m := 13) (C := Ws w No [Cel b1 #[vI .i64 p.a.f, vI .i64 p.a.pc, vI .i64 p.b.f, vI .i64 p.b.pc] 45] [roR A_l 4 enPair l]) (fun i => [5].contains i) (fun i => [0, 4, 5].contains i) (fun i => [1, 2, 3, 8, 9, 10, 12].contains i) (by kernel_rfl) (by kernel_rfl) (by kernel_rfl) (by kernel_rfl) hW ?_; clear hW; intro w49 hW hfw49 hR; have hC : Ws w No [Cel b1 #[vI .i64 p.a.f, vI .i64 p.a.pc, vI .i64 p.b.f, vI .i64 p.b.pc] 45] [roR A_l 4 enPair l] w49 := hW.pick [0] (by decide) rfl
   refine sr_p 1 (vS A_l l.length c_l) hR rfl hA fun ac hA => sr_p 2 (vI .i64 (k : Int)) hR rfl hA fun ac hA => sr_q 3 (vS A_l (l.take k).length c_l) hR rfl hA ((Rd.slice (E := 45) (A := A_l) (n := l.length) (c := c_l) (l := 0) (h := k) (m := c_l) (sz := 4) (by kernel_rfl) (fun _ => by kernel_rfl) (fun _ => by kernel_rfl) (fun w => bounds_hi (by omega) w)).cast (slice_eq (addr_zero _ _ _) (by first | omega | (simp; done) | (simp; omega)) (by first | omega | (simp; done) | (simp; omega)))) fun ac hA => sr_t 5 (vA #[vI .i64 p.a.f, vI .i64 p.a.pc, vI .i64 p.b.f, vI .i64 p.b.pc]) hR rfl hA hC (Rd.load (b := b1) (i := 0) (by kernel_rfl) (fun _ hw => (hw).cel 0 rfl) (by kernel_rfl)) fun ac hA => sr_p 8 (vS A_l l.length c_l) hR rfl hA fun ac hA => sr_p 9 (vI .i64 (k : Int)) hR rfl hA fun ac hA => sr_q 10 (vS (if c_l = k then (A_l : Option Addr) else Option.map (fun a_ => Addr.add a_ (k * 4)) (A_l : Option Addr)) (l.drop k).length (c_l - k)) hR rfl hA ((Rd.slice (E := 45) (A := A_l) (n := l.length) (c := c_l) (l := k) (h := l.length) (m := c_l) (sz := 4) (by kernel_rfl) (fun _ => by kernel_rfl) (fun _ => by kernel_rfl) (fun w => bounds_lo (by omega) w)).cast (slice_eq rfl (by first | omega | (simp; done) | (simp; omega)) rfl)) fun ac hA => sr_two (i := 0) (j := 6) (by kernel_rfl) ?_ ?_
   ·
    refine (sr_d rfl hA (Runs.cells (fun b => vS (some ⟨b, 0, none⟩) 0 0) #[] 45 (fun _ => by kernel_rfl) hW ?_)); clear hA ac hW; intro br6_0 w50 hW hbr6_0 hfw50 ac hA
    refine ⟨⟨fun _ => (hW.pick [1] (by decide) rfl).pickG [0] rfl, fun h => absurd h (by decide)⟩, ?_⟩; have hC : Ws w No [Cel b1 #[vI .i64 p.a.f, vI .i64 p.a.pc, vI .i64 p.b.f, vI .i64 p.b.pc] 45] [roR A_l 4 enPair l] w50 := (hW.pick [1] (by decide) rfl).pickG [0] rfl
    refine sr_two (i := 4) (j := 6) (by kernel_rfl) ?_ ?_
    ·
     have hW := hW.celRow (en := enPair) (H' := [rowR 45 4 enPair (vS (some ⟨br6_0, 0, none⟩) ([] : List Pair).length ([] : List Pair).length) ([] : List Pair), Cel b1 #[vI .i64 p.a.f, vI .i64 p.a.pc, vI .i64 p.b.f, vI .i64 p.b.pc] 45]) 0 rfl ([] : List Pair) (by rfl) elt_Pair.len (by decide) rfl
     refine (sr_d rfl hA (Runs.appOwn (B := A_l) (k := c_l) (E := 45) (sz := 4) (en := enPair) (l := ([] : List Pair)) (m := (l.take k)) (i := 0) (by kernel_rfl) (by kernel_rfl) elt_Pair (by kernel_rfl) hW rfl (((hW).getG 0 rfl).takeE k) (by first | omega | (simp; done) | (simp; omega)) (by first | omega | (simp; done) | (simp; omega)) ?_)); clear hA ac hW; intro Ar6_4 cr6_4 w51 hW hccr6_4 ac hA
     refine ⟨⟨fun _ => (hW.pick [1] (by decide) rfl).pickG [0] rfl, fun h => absurd h (by decide)⟩, ?_⟩; have hC : Ws w No [Cel b1 #[vI .i64 p.a.f, vI .i64 p.a.pc, vI .i64 p.b.f, vI .i64 p.b.pc] 45] [roR A_l 4 enPair l] w51 := (hW.pick [1] (by decide) rfl).pickG [0] rfl
     refine sr_one (i := 6) (by kernel_rfl) (sr_d rfl hA (Runs.cells (fun b => vS (some ⟨b, 0, none⟩) 1 1) #[vI .i64 p.a.f, vI .i64 p.a.pc, vI .i64 p.b.f, vI .i64 p.b.pc] 45 (fun _ => by kernel_rfl) hW ?_)); clear hA ac hW; intro br6_6 w52 hW hbr6_6 hfw52 ac hA
     refine qn <| sr_one (i := 7) (by kernel_rfl) (sr_d rfl hA (Runs.appOwn (B := (some ⟨br6_6, 0, none⟩)) (k := 1) (E := 45) (sz := 4) (en := enPair) (l := (([] : List Pair) ++ (l.take k))) (m := ([p] : List Pair)) (i := 1) (by kernel_rfl) (by kernel_rfl) elt_Pair (by kernel_rfl) hW rfl (rowAt_cel ((hW).cel 0 rfl) ([p] : List Pair) (by rfl) elt_Pair.len) (by first | omega | (simp; done) | (simp; omega)) (by first | omega | (simp; done) | (simp; omega)) ?_)); clear hA ac hW; intro Ar6_7 cr6_7 w53 hW hccr6_7 ac hA
     refine qn <| sr_one (i := 11) (by kernel_rfl) (sr_d rfl hA (Runs.appOwn (B := (if c_l = k then (A_l : Option Addr) else Option.map (fun a_ => Addr.add a_ (k * 4)) (A_l : Option Addr))) (k := c_l - k) (E := 45) (sz := 4) (en := enPair) (l := ((([] : List Pair) ++ (l.take k)) ++ ([p] : List Pair))) (m := (l.drop k)) (i := 1) (by kernel_rfl) (by kernel_rfl) elt_Pair (by kernel_rfl) hW rfl (((hW).getG 0 rfl).dropE (by first | assumption | omega) k) (by first | omega | (simp; done) | (simp; omega)) (by first | omega | (simp; done) | (simp; omega)) ?_)); clear hA ac hW; intro Ar6_11 cr6_11 w54 hW hccr6_11 ac hA
     refine qn <| sr_p 12 (vS Ar6_11 (((([] : List Pair) ++ (l.take k)) ++ ([p] : List Pair)) ++ (l.drop k)).length cr6_11) hR rfl hA ?_; clear hA ac; intro ac hA
     refine sr_done (by kernel_rfl) ?_ _
     exact ⟨Ar6_11, Ar6_4, Ar6_7, br6_0, br6_6, cr6_11, cr6_4, cr6_7, hccr6_11, hccr6_4, hccr6_7, hA.sub (by and_intros <;> first | kernel_rfl | trivial), (hW.pick [0, 1, 2] (by decide) rfl).pickG [0] rfl⟩
    ·
     refine (sr_d rfl hA (Runs.cells (fun b => vS (some ⟨b, 0, none⟩) 1 1) #[vI .i64 p.a.f, vI .i64 p.a.pc, vI .i64 p.b.f, vI .i64 p.b.pc] 45 (fun _ => by kernel_rfl) hW ?_)); clear hA ac hW; intro br6_6 w55 hW hbr6_6 hfw55 ac hA
     refine qn ?_
     have hW := hW.celRow (en := enPair) (H' := [Cel br6_6 #[vI .i64 p.a.f, vI .i64 p.a.pc, vI .i64 p.b.f, vI .i64 p.b.pc] 45, rowR 45 4 enPair (vS (some ⟨br6_0, 0, none⟩) ([] : List Pair).length ([] : List Pair).length) ([] : List Pair), Cel b1 #[vI .i64 p.a.f, vI .i64 p.a.pc, vI .i64 p.b.f, vI .i64 p.b.pc] 45]) 1 rfl ([] : List Pair) (by rfl) elt_Pair.len (by decide) rfl
     refine sr_one (i := 4) (by kernel_rfl) (sr_d rfl hA (Runs.appOwn (B := A_l) (k := c_l) (E := 45) (sz := 4) (en := enPair) (l := ([] : List Pair)) (m := (l.take k)) (i := 1) (by kernel_rfl) (by kernel_rfl) elt_Pair (by kernel_rfl) hW rfl (((hW).getG 0 rfl).takeE k) (by first | omega | (simp; done) | (simp; omega)) (by first | omega | (simp; done) | (simp; omega)) ?_)); clear hA ac hW; intro Ar6_4 cr6_4 w56 hW hccr6_4 ac hA
     refine ⟨⟨fun _ => (hW.pick [2] (by decide) rfl).pickG [0] rfl, fun h => absurd h (by decide)⟩, ?_⟩; have hC : Ws w No [Cel b1 #[vI .i64 p.a.f, vI .i64 p.a.pc, vI .i64 p.b.f, vI .i64 p.b.pc] 45] [roR A_l 4 enPair l] w56 := (hW.pick [2] (by decide) rfl).pickG [0] rfl
     refine sr_one (i := 7) (by kernel_rfl) (sr_d rfl hA (Runs.appOwn (B := (some ⟨br6_6, 0, none⟩)) (k := 1) (E := 45) (sz := 4) (en := enPair) (l := (([] : List Pair) ++ (l.take k))) (m := ([p] : List Pair)) (i := 1) (by kernel_rfl) (by kernel_rfl) elt_Pair (by kernel_rfl) hW rfl (rowAt_cel ((hW).cel 0 rfl) ([p] : List Pair) (by rfl) elt_Pair.len) (by first | omega | (simp; done) | (simp; omega)) (by first | omega | (simp; done) | (simp; omega)) ?_)); clear hA ac hW; intro Ar6_7 cr6_7 w57 hW hccr6_7 ac hA
     refine qn <| sr_one (i := 11) (by kernel_rfl) (sr_d rfl hA (Runs.appOwn (B := (if c_l = k then (A_l : Option Addr) else Option.map (fun a_ => Addr.add a_ (k * 4)) (A_l : Option Addr))) (k := c_l - k) (E := 45) (sz := 4) (en := enPair) (l := ((([] : List Pair) ++ (l.take k)) ++ ([p] : List Pair))) (m := (l.drop k)) (i := 1) (by kernel_rfl) (by kernel_rfl) elt_Pair (by kernel_rfl) hW rfl (((hW).getG 0 rfl).dropE (by first | assumption | omega) k) (by first | omega | (simp; done) | (simp; omega)) (by first | omega | (simp; done) | (simp; omega)) ?_)); clear hA ac hW; intro Ar6_11 cr6_11 w58 hW hccr6_11 ac hA
     refine qn <| sr_p 12 (vS Ar6_11 (((([] : List Pair) ++ (l.take k)) ++ ([p] : List Pair)) ++ (l.drop k)).length cr6_11) hR rfl hA ?_; clear hA ac; intro ac hA
     refine sr_done (by kernel_rfl) ?_ _
     exact ⟨Ar6_11, Ar6_4, Ar6_7, br6_0, br6_6, cr6_11, cr6_4, cr6_7, hccr6_11, hccr6_4, hccr6_7, hA.sub (by and_intros <;> first | kernel_rfl | trivial), (hW.pick [0, 1, 2] (by decide) rfl).pickG [0] rfl⟩
   ·
    refine (sr_d rfl hA (Runs.cells (fun b => vS (some ⟨b, 0, none⟩) 1 1) #[vI .i64 p.a.f, vI .i64 p.a.pc, vI .i64 p.b.f, vI .i64 p.b.pc] 45 (fun _ => by kernel_rfl) hW ?_)); clear hA ac hW; intro br6_6 w59 hW hbr6_6 hfw59 ac hA
    refine qn <| sr_one (i := 0) (by kernel_rfl) (sr_d rfl hA (Runs.cells (fun b => vS (some ⟨b, 0, none⟩) 0 0) #[] 45 (fun _ => by kernel_rfl) hW ?_)); clear hA ac hW; intro br6_0 w60 hW hbr6_0 hfw60 ac hA
    refine ⟨⟨fun _ => (hW.pick [2] (by decide) rfl).pickG [0] rfl, fun h => absurd h (by decide)⟩, ?_⟩; have hC : Ws w No [Cel b1 #[vI .i64 p.a.f, vI .i64 p.a.pc, vI .i64 p.b.f, vI .i64 p.b.pc] 45] [roR A_l 4 enPair l] w60 := (hW.pick [2] (by decide) rfl).pickG [0] rfl
    have hW := hW.celRow (en := enPair) (H' := [rowR 45 4 enPair (vS (some ⟨br6_0, 0, none⟩) ([] : List Pair).length ([] : List Pair).length) ([] : List Pair), Cel br6_6 #[vI .i64 p.a.f, vI .i64 p.a.pc, vI .i64 p.b.f, vI .i64 p.b.pc] 45, Cel b1 #[vI .i64 p.a.f, vI .i64 p.a.pc, vI .i64 p.b.f, vI .i64 p.b.pc] 45]) 0 rfl ([] : List Pair) (by rfl) elt_Pair.len (by decide) rfl
    refine sr_one (i := 4) (by kernel_rfl) (sr_d rfl hA (Runs.appOwn (B := A_l) (k := c_l) (E := 45) (sz := 4) (en := enPair) (l := ([] : List Pair)) (m := (l.take k)) (i := 0) (by kernel_rfl) (by kernel_rfl) elt_Pair (by kernel_rfl) hW rfl (((hW).getG 0 rfl).takeE k) (by first | omega | (simp; done) | (simp; omega)) (by first | omega | (simp; done) | (simp; omega)) ?_)); clear hA ac hW; intro Ar6_4 cr6_4 w61 hW hccr6_4 ac hA
    refine ⟨⟨fun _ => (hW.pick [2] (by decide) rfl).pickG [0] rfl, fun h => absurd h (by decide)⟩, ?_⟩; have hC : Ws w No [Cel b1 #[vI .i64 p.a.f, vI .i64 p.a.pc, vI .i64 p.b.f, vI .i64 p.b.pc] 45] [roR A_l 4 enPair l] w61 := (hW.pick [2] (by decide) rfl).pickG [0] rfl
    refine sr_one (i := 7) (by kernel_rfl) (sr_d rfl hA (Runs.appOwn (B := (some ⟨br6_6, 0, none⟩)) (k := 1) (E := 45) (sz := 4) (en := enPair) (l := (([] : List Pair) ++ (l.take k))) (m := ([p] : List Pair)) (i := 0) (by kernel_rfl) (by kernel_rfl) elt_Pair (by kernel_rfl) hW rfl (rowAt_cel ((hW).cel 1 rfl) ([p] : List Pair) (by rfl) elt_Pair.len) (by first | omega | (simp; done) | (simp; omega)) (by first | omega | (simp; done) | (simp; omega)) ?_)); clear hA ac hW; intro Ar6_7 cr6_7 w62 hW hccr6_7 ac hA
    refine qn <| sr_one (i := 11) (by kernel_rfl) (sr_d rfl hA (Runs.appOwn (B := (if c_l = k then (A_l : Option Addr) else Option.map (fun a_ => Addr.add a_ (k * 4)) (A_l : Option Addr))) (k := c_l - k) (E := 45) (sz := 4) (en := enPair) (l := ((([] : List Pair) ++ (l.take k)) ++ ([p] : List Pair))) (m := (l.drop k)) (i := 0) (by kernel_rfl) (by kernel_rfl) elt_Pair (by kernel_rfl) hW rfl (((hW).getG 0 rfl).dropE (by first | assumption | omega) k) (by first | omega | (simp; done) | (simp; omega)) (by first | omega | (simp; done) | (simp; omega)) ?_)); clear hA ac hW; intro Ar6_11 cr6_11 w63 hW hccr6_11 ac hA
    refine qn <| sr_p 12 (vS Ar6_11 (((([] : List Pair) ++ (l.take k)) ++ ([p] : List Pair)) ++ (l.drop k)).length cr6_11) hR rfl hA ?_; clear hA ac; intro ac hA
    refine sr_done (by kernel_rfl) ?_ _
    exact ⟨Ar6_11, Ar6_4, Ar6_7, br6_0, br6_6, cr6_11, cr6_4, cr6_7, hccr6_11, hccr6_4, hccr6_7, hA.sub (by and_intros <;> first | kernel_rfl | trivial), (hW.pick [1, 0, 2] (by decide) rfl).pickG [0] rfl⟩
 clear hA ac hW; rintro ac w64 ⟨Ar6_11, Ar6_4, Ar6_7, br6_0, br6_6, cr6_11, cr6_4, cr6_7, hccr6_11, hccr6_4, hccr6_7, hA, hW⟩
 refine thenN <| wp_ret <| r1 (vS Ar6_11 (((([] : List Pair) ++ (l.take k)) ++ ([p] : List Pair)) ++ (l.drop k)).length cr6_11) hA ?_
 clear hA
 have hq_ : addP l p = ((([] : List Pair) ++ (l.take k)) ++ ([p] : List Pair)) ++ (l.drop k) := addP_at (of_decide_eq_false (by assumption)) hk hn (fun y_ hy_ => by rw [List.getElem?_eq_none (by omega)] at hy_; cases hy_)
 rw [hq_]
 exact ⟨Ar6_11, cr6_11, by first | rfl | (simp; done), (own_cap ((hW).get 1 rfl)), (hW.outRow 1 rfl elt_Pair.len (fun _ h => h)), hW.fr⟩

set_option maxRecDepth 100000 in
theorem e_r21with (A_L : Option Addr) (c_L : Nat) (L : List Event) (A_B : Option Addr) (c_B : Nat) (B : List BV) (j : Int) (w : World) (hr_L : RowAt w A_L 9 enEvent L) (hc_L : L.length ≤ c_L) (hr_B : RowAt w A_B 1 enBV B) (hc_B : B.length ≤ c_B) (hn_B : (nestR innerBV B).p w) (hk_B : ∀ x_ ∈ B, capBV x_) (hL : L.length ≤ 4096) (hev : ∀ e ∈ L, EvOk e) (hB : B.map BV.l = ahM L) (hE100 : L.length ≤ 100) (hj : -9223372036854775808 ≤ j ∧ j ≤ 9223372036854775807) : Calls Tryz.prog 26 #[vA #[vS A_L L.length c_L, vS A_B B.length c_B], vI .i64 j] w (Fresh 3 1 enI64 (withE L j) w) := by
 have _hu := hc_L; have _hv := hr_L; clear _hu _hv
 have _hu := hc_B; have _hv := hr_B; clear _hu _hv
 have _hu := hk_B; have _hv := hn_B; clear _hu _hv
 have _hu := hL; clear _hu
 have _hu := hev; clear _hu
 have _hu := hB; clear _hu
 have _hu := hE100; clear _hu
 have _hu := hj; clear _hu
 have hbl_ := ah_blen hB
 have hbg_ := race_lil hE100
 refine enter_E 32 Tryz.func26 rfl rfl (by kernel_rfl) (L := [(0, vA #[vS A_L L.length c_L, vS A_B B.length c_B]), (1, vI .i64 j)]) (by kernel_rfl) ?_
 intro ac hA
 have hW := Ws.start w No
 have hW := hW.arg hr_L
 have hW := hW.arg hr_B
 have hW := hW.addG _ hn_B (nest_ltBV hn_B) (by simp)
 refine wr <| st_s hA (Runs.cells (fun b => pA b 0) #[vS A_L L.length c_L, vS A_B B.length c_B] 31 (fun _ => by kernel_rfl) hW ?_); clear hA ac hW; intro b1 w2 hW hb1 hfw2 ac hA
 refine st_p (vS none 0 0) hA ?_; clear hA ac; intro ac hA
 refine wn <| wr <| st_p (vS none 0 0) hA ?_; clear hA ac; intro ac hA
 refine wn <| wr <| st_q (vA #[vS A_L L.length c_L, vS A_B B.length c_B]) hA hW.cls (rl b1 0 0) ?_; clear hA ac; intro ac hA
 refine st_s hA (Runs.callRow (E := 47) (sz := 7) (en := enRace) (l := (raceL L)) (fun _ => by kernel_rfl) hW (e_r21all A_L c_L L A_B c_B B w2 ((hW).getG 2 rfl) (by first | assumption | omega | (simp; omega) | simp) ((hW).getG 1 rfl) (by first | assumption | omega | (simp; omega) | simp) ((hW).getG 0 rfl) hk_B (by first | omega | assumption | exact ⟨by omega, by omega⟩) (by first | omega | assumption | exact ⟨by omega, by omega⟩) (by first | omega | assumption | exact ⟨by omega, by omega⟩) (by first | omega | assumption | exact ⟨by omega, by omega⟩)) ?_); clear hA ac hW; intro A4 c5 w3 hW hcc5 hfw3 ac hA
 refine st_p (vS A4 (raceL L).length c5) hA ?_; clear hA ac; intro ac hA
 refine wn <| wp_seq <| wr <| st_p (vI .i64 0) hA ?_; clear hA ac; intro ac hA
 refine wn <| wp_block ?_
 have hW := hW.addNil 3 1 enI64
 refine wp_loop_m (fun m_ ac_ wl_ => ∃ k : Nat, ∃ d : List Int, ∃ A : Option Addr, ∃ cc : Nat, m_ = (raceL L).length - k ∧ (k ≤ (raceL L).length) ∧ (d = (((raceL L).take k).filter fun r => decide (r.j = j)).map Race.i) ∧ (d.length ≤ cc) ∧ (d.length ≤ k) ∧ Fm 32 [] [(0, vA #[vS A_L L.length c_L, vS A_B B.length c_B]), (1, vI .i64 j), (5, vS A d.length cc), (6, vS A4 (raceL L).length c5), (7, vI .i64 (k : Int))] ac_ ∧ Ws w No [rowR 3 1 enI64 (vS A d.length cc) d, rowR 47 7 enRace (vS A4 (raceL L).length c5) (raceL L), Cel b1 #[vS A_L L.length c_L, vS A_B B.length c_B] 31] [nestR innerBV B, roR A_B 1 enBV B, roR A_L 9 enEvent L] wl_) _ ⟨0, [], none, 0, rfl, by omega, by simp, by simp, by simp, hA.sub (by and_intros <;> first | kernel_rfl | trivial), (hW.pick [0, 1, 2] (by decide) rfl).pickG [0, 1, 2] rfl⟩ ?_
 clear hA ac hW; rintro m_ ac w7 ⟨k, d, A, cc, rfl, hk, hd, hcc, hdl_, hA, hW⟩
 refine wp_seq <| wr <| st_p (vI .i64 (k : Int)) hA fun ac hA => st_p (vS A4 (raceL L).length c5) hA fun ac hA => st_p (vI .i64 (((raceL L).length : Nat) : Int)) hA fun ac hA => st_p (vB (decide ((k : Int) < ((((raceL L).length : Nat) : Int) : Int)))) hA fun ac hA => wn <| wp_cond_split (t := decide ((k : Int) < ((((raceL L).length : Nat) : Int) : Int))) (hA.eval (by kernel_rfl)) (fun h8 => ?_) (fun h8 => ?_)
 ·
  have h8 := of_decide_eq_true h8
  refine wp_skip <| thenN <| wp_seq <| wp_block <| wr <| st_p (vS A4 (raceL L).length c5) hA fun ac hA => st_p (vI .i64 (k : Int)) hA fun ac hA => ?_
  obtain ⟨y9, hy9⟩ : ∃ y, (raceL L)[k]? = some y := ⟨_, List.getElem?_eq_getElem (by first | omega | (simp; done) | (simp; omega) | (have := ah_len hB (by assumption); omega))⟩
  obtain ⟨b10, o11, rfl, hbb10⟩ := row_some (rowR_at ((hW).get 1 rfl) elt_Race.len) hy9
  refine st_q (vP (some ⟨b10, o11 + k * 7, none⟩)) hA hW.cls (Rd.indexAddr (e := 47) (sz := 7) (b := b10) (off := o11) (n := (raceL L).length) (c := c5) (k := k) (by kernel_rfl) (by kernel_rfl) (by first | omega | (simp; done) | (simp; omega) | (have := ah_len hB (by assumption); omega)) (fun _ => by kernel_rfl) (fun _ => by kernel_rfl)) fun ac hA => st_p (vP (some ⟨b10, o11 + k * 7 + 1, none⟩)) hA fun ac hA => st_q (vI .i64 y9.j) hA hW.cls (Rd.loadRow (b := b10) (i := o11 + k * 7 + 1) (xs := [vI .i64 y9.j]) (by kernel_rfl) (fun _ hw => row_ld (rowR_at ((hw.1).get 1 rfl) elt_Race.len) hy9 (Fr.refl No _) (fun h => h) 1 1 (by kernel_rfl)) (by kernel_rfl)) fun ac hA => st_p (vI .i64 j) hA fun ac hA => st_p (vB ((y9.j : Int) == (j : Int))) hA fun ac hA => wn <| wp_cond_split (t := (y9.j : Int) == (j : Int)) (hA.eval (by kernel_rfl)) (fun h12 => ?_) (fun h12 => ?_)
  ·
   have h12 := eq_of_beq h12
   refine wp_region_lit <| st_p (vS A d.length cc) hA fun ac hA => st_p (vS (some ⟨b10, o11, none⟩) (raceL L).length c5) hA fun ac hA => st_p (vI .i64 (k : Int)) hA fun ac hA => st_q (vP (some ⟨b10, o11 + k * 7, none⟩)) hA hW.cls (Rd.indexAddr (e := 47) (sz := 7) (b := b10) (off := o11) (n := (raceL L).length) (c := c5) (k := k) (by kernel_rfl) (by kernel_rfl) (by first | omega | (simp; done) | (simp; omega) | (have := ah_len hB (by assumption); omega)) (fun _ => by kernel_rfl) (fun _ => by kernel_rfl)) fun ac hA => st_p (vP (some ⟨b10, o11 + k * 7, none⟩)) hA fun ac hA => st_q (vI .i64 y9.i) hA hW.cls (Rd.loadRow (b := b10) (i := o11 + k * 7) (xs := [vI .i64 y9.i]) (by kernel_rfl) (fun _ hw => row_ld (rowR_at ((hw.1).get 1 rfl) elt_Race.len) hy9 (Fr.refl No _) (fun h => h) 0 1 (by kernel_rfl)) (by kernel_rfl)) fun ac hA => st_s hA (Runs.cells (fun b => vS (some ⟨b, 0, none⟩) 1 1) #[vI .i64 y9.i] 3 (fun _ => by kernel_rfl) hW ?_); clear hA ac hW; intro b13 w14 hW hb13 hfw14 ac hA
   refine st_s hA (Runs.appOwn (B := (some ⟨b13, 0, none⟩)) (k := 1) (E := 3) (sz := 1) (en := enI64) (l := d) (m := ([y9.i] : List Int)) (i := 1) (by kernel_rfl) (by kernel_rfl) elt_I64 (by kernel_rfl) hW rfl (rowAt_cel ((hW).cel 0 rfl) ([y9.i] : List Int) (by rfl) elt_I64.len) (by first | omega | (simp; done) | (simp; omega)) (by first | omega | (simp; done) | (simp; omega)) ?_); clear hA ac hW; intro A15 c16 w17 hW hcc16 ac hA
   refine st_p (vS A15 (d ++ ([y9.i] : List Int)).length c16) hA ?_; clear hA ac; intro ac hA
   refine wpList_nil <| blkN <| thenN <| wp_region_lit <| st_p (vI .i64 (k : Int)) hA fun ac hA => st_q (vI .i64 ((k + 1 : Nat) : Int)) hA hW.cls (Rd.pureE (v0 := vI .i64 (IntKind.i64.wrap ((k : Int) + 1))) (fun _ => by kernel_rfl) (congrArg (vI .i64) ((w_i64 (x := (k : Int) + 1) (by omega) (by omega)).trans (by omega)))) fun ac hA => st_p (vI .i64 ((k + 1 : Nat) : Int)) hA fun ac hA => wn ?_
   exact ⟨(raceL L).length - (k + 1), by omega, k + 1, d ++ ([y9.i] : List Int), A15, c16, rfl, by omega, by rw [filt_snoc hy9, ← hd, if_pos (by omega)], by exact hcc16, by first | (simp; omega) | omega, hA.sub (by and_intros <;> first | kernel_rfl | trivial), (hW.pick [1, 2, 3] (by decide) rfl).pickG [0, 1, 2] rfl⟩
  have h12 := ne_of_beq_false h12
  refine wp_skip <| blkN <| thenN <| wp_region_lit <| st_p (vI .i64 (k : Int)) hA fun ac hA => st_q (vI .i64 ((k + 1 : Nat) : Int)) hA hW.cls (Rd.pureE (v0 := vI .i64 (IntKind.i64.wrap ((k : Int) + 1))) (fun _ => by kernel_rfl) (congrArg (vI .i64) ((w_i64 (x := (k : Int) + 1) (by omega) (by omega)).trans (by omega)))) fun ac hA => st_p (vI .i64 ((k + 1 : Nat) : Int)) hA fun ac hA => wn ?_
  exact ⟨(raceL L).length - (k + 1), by omega, k + 1, d, A, cc, rfl, by omega, by rw [filt_snoc hy9, ← hd, if_neg (by omega), List.append_nil], by exact hcc, by first | (simp; omega) | omega, hA.sub (by and_intros <;> first | kernel_rfl | trivial), (hW.pick [0, 1, 2] (by decide) rfl).pickG [0, 1, 2] rfl⟩
 have h8 := of_decide_eq_false h8
 refine wp_exit <| thenX <| thenX <| blkX <| thenN <| wr <| st_p (vS A d.length cc) hA fun ac hA => st_p (vS A d.length cc) hA fun ac hA => wn <| wp_ret <| r1 (vS A d.length cc) hA ?_
 clear hA
 rw [List.take_of_length_le (by omega), with_eq] at hd; subst hd; exact ⟨_, rfl, hW.fresh 0 rfl (fun _ h => h), hW.fr⟩

set_option maxRecDepth 100000 in
theorem e_r21pairs (A_L : Option Addr) (c_L : Nat) (L : List Event) (A_B : Option Addr) (c_B : Nat) (B : List BV) (w : World) (hr_L : RowAt w A_L 9 enEvent L) (hc_L : L.length ≤ c_L) (hr_B : RowAt w A_B 1 enBV B) (hc_B : B.length ≤ c_B) (hn_B : (nestR innerBV B).p w) (hk_B : ∀ x_ ∈ B, capBV x_) (hL : L.length ≤ 4096) (hev : ∀ e ∈ L, EvOk e) (hB : B.map BV.l = ahM L) (hE100 : L.length ≤ 100) : Calls Tryz.prog 27 #[vA #[vS A_L L.length c_L, vS A_B B.length c_B]] w (fun e w' => ∃ (A_o : Option Addr) (c_o : Nat), e = .returned (vS A_o (allP (pairL L)).length c_o) ∧ (allP (pairL L)).length ≤ c_o ∧ (roR A_o 4 enPair (allP (pairL L))).from_ [roR A_L 9 enEvent L, roR A_B 1 enBV B, nestR innerBV B] w w' ∧ Fr No w w') := by
 have _hu := hc_L; have _hv := hr_L; clear _hu _hv
 have _hu := hc_B; have _hv := hr_B; clear _hu _hv
 have _hu := hk_B; have _hv := hn_B; clear _hu _hv
 have _hu := hL; clear _hu
 have _hu := hev; clear _hu
 have _hu := hB; clear _hu
 have _hu := hE100; clear _hu
 have hbl_ := ah_blen hB
 have hbg_ := race_lil hE100
 refine enter_E 22 Tryz.func27 rfl rfl (by kernel_rfl) (L := [(0, vA #[vS A_L L.length c_L, vS A_B B.length c_B])]) (by kernel_rfl) ?_
 intro ac hA
 have hW := Ws.start w No
 have hW := hW.arg hr_L
 have hW := hW.arg hr_B
 have hW := hW.addG _ hn_B (nest_ltBV hn_B) (by simp)
 refine wr <| st_s hA (Runs.cells (fun b => pA b 0) #[vS A_L L.length c_L, vS A_B B.length c_B] 31 (fun _ => by kernel_rfl) hW ?_); clear hA ac hW; intro b1 w2 hW hb1 hfw2 ac hA
 refine st_p (vS none 0 0) hA ?_; clear hA ac; intro ac hA
 refine wn <| wr <| st_p (vS none 0 0) hA ?_; clear hA ac; intro ac hA
 refine wn <| wr <| st_q (vA #[vS A_L L.length c_L, vS A_B B.length c_B]) hA hW.cls (rl b1 0 0) ?_; clear hA ac; intro ac hA
 refine st_s hA (Runs.callRow (E := 47) (sz := 7) (en := enRace) (l := (raceL L)) (fun _ => by kernel_rfl) hW (e_r21all A_L c_L L A_B c_B B w2 ((hW).getG 2 rfl) (by first | assumption | omega | (simp; omega) | simp) ((hW).getG 1 rfl) (by first | assumption | omega | (simp; omega) | simp) ((hW).getG 0 rfl) hk_B (by first | omega | assumption | exact ⟨by omega, by omega⟩) (by first | omega | assumption | exact ⟨by omega, by omega⟩) (by first | omega | assumption | exact ⟨by omega, by omega⟩) (by first | omega | assumption | exact ⟨by omega, by omega⟩)) ?_); clear hA ac hW; intro A4 c5 w3 hW hcc5 hfw3 ac hA
 refine st_p (vS A4 (raceL L).length c5) hA ?_; clear hA ac; intro ac hA
 refine wn <| wp_seq <| wr <| st_p (vI .i64 0) hA ?_; clear hA ac; intro ac hA
 refine wn <| wp_block ?_
 have hW := hW.addG (roR none 4 enPair ([] : List Pair)) (.inl rfl) (by simp [roR]) (by simp [roR])
 have hc_acc0 : ([] : List Pair).length ≤ 0 := Nat.le_refl _; have hsacc0 : Res.src (roR none 4 enPair ([] : List Pair)) [roR A_L 9 enEvent L, roR A_B 1 enBV B, nestR innerBV B] w := src_nil
 refine wp_loop_m (fun m_ ac_ wl_ => ∃ k : Nat, ∃ cl : List Pair, ∃ cA : Option Addr, ∃ cc : Nat, m_ = (raceL L).length - k ∧ (k ≤ (raceL L).length) ∧ (cl = allP (((raceL L).take k).map Race.p)) ∧ (cl.length ≤ cc) ∧ (Res.src (roR cA 4 enPair cl) [roR A_L 9 enEvent L, roR A_B 1 enBV B, nestR innerBV B] w) ∧ Fm 22 [] [(0, vA #[vS A_L L.length c_L, vS A_B B.length c_B]), (3, vS cA cl.length cc), (4, vS A4 (raceL L).length c5), (5, vI .i64 (k : Int))] ac_ ∧ Ws w No [rowR 47 7 enRace (vS A4 (raceL L).length c5) (raceL L), Cel b1 #[vS A_L L.length c_L, vS A_B B.length c_B] 31] [roR cA 4 enPair cl, nestR innerBV B, roR A_B 1 enBV B, roR A_L 9 enEvent L] wl_) _ ⟨0, [], none, 0, rfl, by omega, by rfl, by simp, by exact hsacc0, hA.sub (by and_intros <;> first | kernel_rfl | trivial), (hW.pick [0, 1] (by decide) rfl).pickG [0, 1, 2, 3] rfl⟩ ?_
 clear hA ac hW; rintro m_ ac w7 ⟨k, cl, cA, cc, rfl, hk, hcl, hc_acc, hsacc, hA, hW⟩
 have hcl2_ : cl.length ≤ 10000 := by have q_ := allP_len (((raceL L).take k).map Race.p); rw [hcl]; rw [List.length_map, List.length_take] at q_; omega
 refine wp_seq <| wr <| st_p (vI .i64 (k : Int)) hA fun ac hA => st_p (vS A4 (raceL L).length c5) hA fun ac hA => st_p (vI .i64 (((raceL L).length : Nat) : Int)) hA fun ac hA => st_p (vB (decide ((k : Int) < ((((raceL L).length : Nat) : Int) : Int)))) hA fun ac hA => wn <| wp_cond_split (t := decide ((k : Int) < ((((raceL L).length : Nat) : Int) : Int))) (hA.eval (by kernel_rfl)) (fun h8 => ?_) (fun h8 => ?_)
 ·
  have h8 := of_decide_eq_true h8
  refine wp_skip <| thenN <| wp_seq <| wp_block <| wp_region_lit <| st_p (vS cA cl.length cc) hA fun ac hA => st_p (vS A4 (raceL L).length c5) hA fun ac hA => st_p (vI .i64 (k : Int)) hA fun ac hA => ?_
  obtain ⟨y9, hy9⟩ : ∃ y, (raceL L)[k]? = some y := ⟨_, List.getElem?_eq_getElem (by first | omega | (simp; done) | (simp; omega) | (have := ah_len hB (by assumption); omega))⟩
  obtain ⟨b10, o11, rfl, hbb10⟩ := row_some (rowR_at ((hW).get 0 rfl) elt_Race.len) hy9
  refine st_q (vP (some ⟨b10, o11 + k * 7, none⟩)) hA hW.cls (Rd.indexAddr (e := 47) (sz := 7) (b := b10) (off := o11) (n := (raceL L).length) (c := c5) (k := k) (by kernel_rfl) (by kernel_rfl) (by first | omega | (simp; done) | (simp; omega) | (have := ah_len hB (by assumption); omega)) (fun _ => by kernel_rfl) (fun _ => by kernel_rfl)) fun ac hA => st_p (vP (some ⟨b10, o11 + k * 7 + 3, none⟩)) hA fun ac hA => st_q (vA #[vI .i64 y9.p.a.f, vI .i64 y9.p.a.pc, vI .i64 y9.p.b.f, vI .i64 y9.p.b.pc]) hA hW.cls (Rd.loadRow (b := b10) (i := o11 + k * 7 + 3) (xs := [vI .i64 y9.p.a.f, vI .i64 y9.p.a.pc, vI .i64 y9.p.b.f, vI .i64 y9.p.b.pc]) (by kernel_rfl) (fun _ hw => row_ld (rowR_at ((hw.1).get 0 rfl) elt_Race.len) hy9 (Fr.refl No _) (fun h => h) 3 4 (by kernel_rfl)) (by kernel_rfl)) fun ac hA => st_s hA (Runs.call (fun _ => by kernel_rfl) (e_add07 cA cc cl y9.p w7 ((hW).getG 0 rfl) (by first | assumption | omega | (simp; omega) | simp) (by first | omega | assumption | exact ⟨by omega, by omega⟩)) ?_)
  rintro _ w12 ⟨Ao13, co14, rfl, hcco14, hfco14, hfw12⟩; refine ⟨_, rfl, ?_⟩; have hW0 := hW; have hW := hW0.call hfw12
  have hW := hW0.addFromAt hW hfco14 (in_cons (in_at 0 rfl) in_nil)
  have hsco14 : Res.src (roR Ao13 4 enPair (addP cl y9.p)) [roR A_L 9 enEvent L, roR A_B 1 enBV B, nestR innerBV B] w := src_call hfco14 (srcs_cons hsacc srcs_nil) hW0.fr.size
  clear hW0 hA ac; intro ac hA
  refine st_p (vS Ao13 (addP cl y9.p).length co14) hA ?_; clear hA ac; intro ac hA
  refine wpList_nil <| blkN <| thenN <| wp_region_lit <| st_p (vI .i64 (k : Int)) hA fun ac hA => st_q (vI .i64 ((k + 1 : Nat) : Int)) hA hW.cls (Rd.pureE (v0 := vI .i64 (IntKind.i64.wrap ((k : Int) + 1))) (fun _ => by kernel_rfl) (congrArg (vI .i64) ((w_i64 (x := (k : Int) + 1) (by omega) (by omega)).trans (by omega)))) fun ac hA => st_p (vI .i64 ((k + 1 : Nat) : Int)) hA fun ac hA => wn ?_
  exact ⟨(raceL L).length - (k + 1), by omega, k + 1, addP cl y9.p, Ao13, co14, rfl, by omega, by rw [tk_snoc hy9, List.map_append, List.map_cons, List.map_nil, allP_snoc, ← hcl], by exact (by first | assumption | omega | (simp; omega) | simp), by exact hsco14, hA.sub (by and_intros <;> first | kernel_rfl | trivial), (hW.pick [0, 1] (by decide) rfl).pickG [0, 2, 3, 4] rfl⟩
 have h8 := of_decide_eq_false h8
 refine wp_exit <| thenX <| thenX <| blkX <| thenN <| wr <| st_p (vS cA cl.length cc) hA fun ac hA => st_p (vS cA cl.length cc) hA fun ac hA => wn <| wp_ret <| r1 (vS cA cl.length cc) hA ?_
 clear hA
 rw [List.take_of_length_le (by omega)] at hcl; rw [show allP (pairL L) = cl from hcl.symm]
 exact ⟨cA, cc, by first | rfl | (simp; done), (by first | assumption | omega | (simp; omega) | simp), (hW.outSrc 0 rfl hsacc), hW.fr⟩

end Go.Proofs.YtfkbjfbbigbacaaGreatDoor.L
