/- Contracts, walked by program over the engine's laws. -/
import Derived.Test.YtgkhaoogfpnbbaaProg
import Derived.Test.YtgkhaoogfpnbbaaSortP27
import Derived.Test.YtgkhaoogfpnbbaaE16
namespace Go.Proofs.Ytgkhaoogfpnbbaa.L
open Go.RowKit

set_option maxRecDepth 100000 in
theorem it_68 (b0 b1 : Nat) (m : List (Pair × Int)) : Iter Try.prog 68 #[Value.pointer (some ⟨b0, 0, none⟩)] (fun x_ : Pair => #[x_.v]) (fun l_ => l_.Perm (keys m)) [Cel b0 #[Value.map (some b1)] 89, mapR b1 Pair.v (fun a : Int => Value.int .i64 a) m] := by
 intro l_ J_ Jx_ r0 w hOs_ hdis_ hR_ hJ0_ hp_ hlt_
 have hW := iterW hOs_ hdis_ hp_ hlt_; clear hOs_ hdis_ hp_ hlt_
 refine enter_F 14 Try.func68 rfl rfl (by kernel_rfl) (L := [(0, Value.func (.yield l_) #[] #[]), (1, Value.pointer (some ⟨b0, 0, none⟩))]) (by kernel_rfl) ?_
 intro ac hA
 refine wpIn_seq ?_
 refine wpIn_region_lit ?_
 refine st_rdF (v := Value.map (some b1)) hA (by kernel_rfl) (by kernel_rfl) (by kernel_rfl) (by kernel_rfl) hW.cls (Rd.load (b := b0) (i := 0) (by kernel_rfl) (fun _ hw => show _ = _ from (hw.1).getG 0 rfl) (by kernel_rfl)) ?_; clear hA ac; intro ac hA
 refine stF hA (by kernel_rfl) (by kernel_rfl) (by kernel_rfl) (by kernel_rfl) (RunsF.of (Runs.range (k := 54) (e := 3) (ek := Pair.v) (ev := (fun a : Int => Value.int .i64 a)) (m := m) (by kernel_rfl) (by kernel_rfl) hW 1 rfl ?_)); clear hA ac hW; intro r1 es2 ck3 w4 hnr1 hW hfw4 ac hA
 refine wpListIn_nil ?_
 refine thenN ?_
 refine wpIn_block ?_
 refine wpIn_loop_m (fun m_ ac_ wl_ => ∃ left : List (Pair × Int), ∃ cur : Option (Pair × Int), ∃ r_ : Res, ∃ pre : List Pair, m_ = left.length ∧ (J_ pre r_) ∧ ((pre ++ left.map (·.1)).Perm (keys m)) ∧ Fm 14 [] [(0, Value.func (.yield l_) #[] #[]), (5, Value.pointer (some ⟨r1, 0, none⟩))] ac_ ∧ Ws w (· ∈ r0.fp) [IterX r1 b1 es2 ck3 Pair.v (fun a : Int => Value.int .i64 a) left cur, r_] [MapX b1 es2 ck3, Cel b0 #[Value.map (some b1)] 89, mapR b1 Pair.v (fun a : Int => Value.int .i64 a) m] wl_) _ ⟨m, none, r0, [], rfl, by exact hJ0_, by exact List.Perm.refl _, hA.sub ⟨⟨by kernel_rfl, by kernel_rfl⟩, ⟨by kernel_rfl, by kernel_rfl⟩, trivial⟩, (hW.pick [0, 1] (by decide) rfl).pickG [0, 1, 2] rfl⟩ ?_
 clear hA ac hW; rintro m_ ac w5 ⟨left, cur, r_, pre, rfl, hJ, hp, hA, hW⟩
 refine wpIn_seq ?_
 refine wpIn_region_lit ?_
 refine stF hA (by kernel_rfl) (by kernel_rfl) (by kernel_rfl) (by kernel_rfl) (RunsF.of (Runs.next (ek := Pair.v) (ev := (fun a : Int => Value.int .i64 a)) (r := r1) (b := b1) (es := es2) (clock := ck3) (left := left) (cur := cur) (by kernel_rfl) hnr1 hW 0 0 rfl rfl ?_ ?_))
 · skip
   intro hdoner1 ac hA
   refine st_rdF (v := Value.bool false) hA (by kernel_rfl) (by kernel_rfl) (by kernel_rfl) (by kernel_rfl) hW.cls (Rd.pure fun _ => by kernel_rfl) ?_; clear hA ac; intro ac hA
   refine wpListIn_nil ?_
   refine thenN ?_
   refine wpIn_seq ?_
   refine wpIn_cond_false (hA.eval (by kernel_rfl)) ?_
   refine wpIn_exit ?_
   refine thenX ?_
   refine thenX ?_
   refine blkX ?_
   refine retF (.inr rfl) hA ?_
   refine leave0 (by rfl)  ?_
   clear hA
   exact ranDone hW 1 rfl (.inl ⟨_, key_done hp hdoner1, hJ⟩)
 · skip
   clear hA ac; intro k6 y7 w8 hkk6 hW ac hA
   refine st_rdF (v := Value.bool true) hA (by kernel_rfl) (by kernel_rfl) (by kernel_rfl) (by kernel_rfl) hW.cls (Rd.pure fun _ => by kernel_rfl) ?_; clear hA ac; intro ac hA
   refine wpListIn_nil ?_
   refine thenN ?_
   refine wpIn_seq ?_
   refine wpIn_cond_true (hA.eval (by kernel_rfl)) ?_
   refine wpIn_skip ?_
   refine thenN ?_
   refine wpIn_block ?_
   refine wpIn_seq ?_
   refine wpIn_region_lit ?_
   refine st_rdF (v := Value.tuple #[y7.1.v, Value.int .i64 y7.2]) hA (by kernel_rfl) (by kernel_rfl) (by kernel_rfl) (by kernel_rfl) hW.cls (Rd.entry (ek := Pair.v) (ev := (fun a : Int => Value.int .i64 a)) (r := r1) (b := b1) (es := es2) (clock := ck3) (left := (List.eraseIdx left k6)) (y := y7) (by kernel_rfl) hnr1 (fun _ hw => show _ = _ from (hw.1).getG 0 rfl) (fun _ hw => (hw.1).get 0 rfl)) ?_; clear hA ac; intro ac hA
   refine st_rdF (v := y7.1.v) hA (by kernel_rfl) (by kernel_rfl) (by kernel_rfl) (by kernel_rfl) hW.cls (Rd.pure fun _ => by kernel_rfl) ?_; clear hA ac; intro ac hA
   refine stF hA (by kernel_rfl) (by kernel_rfl) (by kernel_rfl) (by kernel_rfl) (RunsF.of (Runs.cells (fun b => Value.pointer (some ⟨b, 0, none⟩)) #[Value.int .i64 0, Value.int .i64 0, Value.int .i64 0, Value.int .i64 0] 54 (fun _ => by kernel_rfl) hW ?_)); clear hA ac hW; intro b9 w10 hW hb9 hfw10 ac hA
   refine stF hA (by kernel_rfl) (by kernel_rfl) (by kernel_rfl) (by kernel_rfl) (RunsF.of (Runs.store (v := y7.1.v) (b := b9) (j := 0) (n := 4) (cs' := #[Value.int .i64 y7.1.a.f, Value.int .i64 y7.1.a.pc, Value.int .i64 y7.1.b.f, Value.int .i64 y7.1.b.pc]) (H' := [Cel b9 #[Value.int .i64 y7.1.a.f, Value.int .i64 y7.1.a.pc, Value.int .i64 y7.1.b.f, Value.int .i64 y7.1.b.pc] 54, IterX r1 b1 es2 ck3 Pair.v (fun a : Int => Value.int .i64 a) (List.eraseIdx left k6) (some y7), r_]) (by kernel_rfl) (by kernel_rfl) (by kernel_rfl) (by kernel_rfl) (by kernel_rfl) hW 0 (by rfl) (Nat.le_of_ble_eq_true (by kernel_rfl)) (by kernel_rfl) (by rfl) ?_)); clear hA ac hW; intro w11 hW ac hA
   refine wpListIn_nil ?_
   refine thenN ?_
   refine wpIn_seq ?_
   refine wpIn_region_lit ?_
   refine st_rdF (v := Value.func (.yield l_) #[] #[]) hA (by kernel_rfl) (by kernel_rfl) (by kernel_rfl) (by kernel_rfl) hW.cls (Rd.pure fun _ => by kernel_rfl) ?_; clear hA ac; intro ac hA
   refine st_rdF (v := Value.agg #[Value.int .i64 y7.1.a.f, Value.int .i64 y7.1.a.pc, Value.int .i64 y7.1.b.f, Value.int .i64 y7.1.b.pc]) hA (by kernel_rfl) (by kernel_rfl) (by kernel_rfl) (by kernel_rfl) hW.cls (Rd.load (b := b9) (i := 0) (by kernel_rfl) (fun _ hw => (hw.1).cel 0 rfl) (by kernel_rfl)) ?_; clear hA ac; intro ac hA
   refine stF hA (by kernel_rfl) (by kernel_rfl) (by kernel_rfl) (by kernel_rfl) (RunsF.yield hR_ (pre) (y7.1) (fun _ => by kernel_rfl) hW 2 rfl (comes_key hp hkk6) (hJ) hW.fr (hW.may _ (List.mem_of_getElem? (i := 2) rfl)) ?_); clear hA ac hW; intro v12 r13 w14 hv12t hv12f hW ac hA
   refine st_rdF (v := Value.bool (!v12)) hA (by kernel_rfl) (by kernel_rfl) (by kernel_rfl) (by kernel_rfl) hW.cls (Rd.pure fun _ => by kernel_rfl) ?_; clear hA ac; intro ac hA
   refine wpListIn_nil ?_
   refine thenN ?_
   refine wpIn_cond_split (t := !v12) (hA.eval (by kernel_rfl)) (fun h15 => ?_) (fun h15 => ?_)
   · skip
     have h15 := not_t h15
     first
     | (exfalso; clear hA hW; omega)
     | (
       refine wpIn_ret ?_
       refine blkR ?_
       refine thenR ?_
       refine blkR ?_
       refine retF (.inl rfl) hA ?_
       refine leave0 (by rfl)  ?_
       clear hA
       exact ranDone hW 2 rfl (.inr ⟨_, hv12f h15⟩))
   · skip
     have h15 := not_f h15
     first
     | (exfalso; clear hA hW; omega)
     | (
       refine wpIn_skip ?_
       refine blkN ?_
       refine thenN ?_
       have hJn := hv12t h15; have hlt_ := er_len_ hkk6
       exact ⟨(List.eraseIdx left k6).length, by omega, List.eraseIdx left k6, (some y7), r13, pre ++ [y7.1], rfl, by exact hJn, by exact key_step hp hkk6, hA.sub ⟨⟨by kernel_rfl, by kernel_rfl⟩, ⟨by kernel_rfl, by kernel_rfl⟩, trivial⟩, (hW.pick [1, 2] (by decide) rfl).pickG [0, 1, 2] rfl⟩)

set_option maxRecDepth 100000 in
theorem e_keys_59 (b : Nat) (h : List (Pair × Int)) (w : World) (ho_x : (mapR b Pair.v (fun a : Int => Value.int .i64 a) h).p w) : Calls Try.prog 59 #[Value.map (some b)] w (fun e w' => ∃ (lb : Array Value) (g : Res), e = .returned (Value.func (.func 68) #[] lb) ∧ Iter Try.prog 68 lb (fun x_ : Pair => #[x_.v]) (fun l_ => l_.Perm (keys h)) [g] ∧ g.from_ [mapR b Pair.v (fun a : Int => Value.int .i64 a) h] w w' ∧ Fr No w w') := by
 have _hu := ho_x; clear _hu
 refine enter_E 4 Try.func59 rfl rfl (by kernel_rfl) (L := [(0, Value.map (some b))]) (by kernel_rfl) ?_
 intro ac hA
 have hW := Ws.start w No
 have hW := hW.mapG ho_x
 refine wp_seq ?_
 refine wp_region_lit ?_
 refine st hA (by kernel_rfl) (by kernel_rfl) (by kernel_rfl) (Runs.cells (fun b => Value.pointer (some ⟨b, 0, none⟩)) #[Value.map (some b)] 89 (fun _ => by kernel_rfl) hW ?_); clear hA ac hW; intro b1 w2 hW hb1 hfw2 ac hA
 refine st_rd (v := Value.nilFunc) hA (by kernel_rfl) (by kernel_rfl) (by kernel_rfl) hW.cls (Rd.pure fun _ => by kernel_rfl) ?_; clear hA ac; intro ac hA
 refine wpList_nil ?_
 refine thenN ?_
 refine wp_seq ?_
 refine wp_region_lit ?_
 refine st_rd (v := Value.func (.func 68) #[] #[Value.pointer (some ⟨b1, 0, none⟩)]) hA (by kernel_rfl) (by kernel_rfl) (by kernel_rfl) hW.cls (Rd.pure fun _ => by kernel_rfl) ?_; clear hA ac; intro ac hA
 refine st_rd (v := Value.func (.func 68) #[] #[Value.pointer (some ⟨b1, 0, none⟩)]) hA (by kernel_rfl) (by kernel_rfl) (by kernel_rfl) hW.cls (Rd.pure fun _ => by kernel_rfl) ?_; clear hA ac; intro ac hA
 refine wpList_nil ?_
 refine thenN ?_
 refine wp_ret ?_
 refine ret1 (v := Value.func (.func 68) #[] #[Value.pointer (some ⟨b1, 0, none⟩)]) (by rfl) hA (Got.tmp hA (by kernel_rfl) (by kernel_rfl)) ?_
 clear hA
 exact ⟨_, _, rfl, iter_many (it_68 b1 b h), from_many (froms_cons (hW.outOwn 0 rfl (fun _ h => h)) (froms_cons (hW.outArg 0 rfl (.head _)) froms_nil)), hW.fr⟩

set_option maxRecDepth 100000 in
theorem e_app_70_68 (lb_q : Array Value) (g_q : Res) (Sx_q : List Pair → Prop) (w : World) (hI_q : Iter Try.prog 68 lb_q (fun x_ : Pair => #[x_.v]) Sx_q [g_q]) (hg_q : g_q.p w) (hgl_q : ∀ x_ ∈ g_q.fp, x_ < w.heap.size) (hb_ : ∀ l_, Sx_q l_ → l_.length ≤ 100000) : Calls Try.prog 70 #[Value.slice none 0 0, Value.func (.func 68) #[] lb_q] w (fun e w' => ∃ ks : List Pair, ∃ (A_o : Option Addr) (c_o : Nat), e = .returned (Value.slice A_o (ks).length c_o) ∧ (Sx_q ks) ∧ (ks).length ≤ c_o ∧ Made (rowR 54 4 enPair (.slice A_o (ks).length c_o) ks) w w') := by
 have _hu := hb_; clear _hu
 refine enter_F 13 Try.func70 rfl rfl (by kernel_rfl) (L := [(0, Value.slice none 0 0), (1, Value.func (.func 68) #[] lb_q)]) (by kernel_rfl) ?_
 intro ac hA
 have hW := Ws.start w No
 have hW := hW.addG g_q hg_q hgl_q (by simp)
 refine wpIn_seq ?_
 refine wpIn_region_lit ?_
 refine stF hA (by kernel_rfl) (by kernel_rfl) (by kernel_rfl) (by kernel_rfl) (RunsF.of (Runs.cells (fun b => Value.pointer (some ⟨b, 0, none⟩)) #[Value.slice none 0 0] 27 (fun _ => by kernel_rfl) hW ?_)); clear hA ac hW; intro b1 w2 hW hb1 hfw2 ac hA
 refine st_rdF (v := Value.slice none 0 0) hA (by kernel_rfl) (by kernel_rfl) (by kernel_rfl) (by kernel_rfl) hW.cls (Rd.pure fun _ => by kernel_rfl) ?_; clear hA ac; intro ac hA
 refine wpListIn_nil ?_
 refine thenN ?_
 refine wpIn_seq ?_
 refine wpIn_seq ?_
 have hW := hW.addNil 54 4 enPair
 refine wpIn_region_lit ?_
 refine st_rdF (v := Value.func (.func 68) #[] lb_q) hA (by kernel_rfl) (by kernel_rfl) (by kernel_rfl) (by kernel_rfl) hW.cls (Rd.pure fun _ => by kernel_rfl) ?_; clear hA ac; intro ac hA
 refine wpListIn_nil ?_
 refine thenN ?_
 refine wpIn_block ?_
 refine wp_range (encs := (fun x_ : Pair => #[x_.v])) (Sx := Sx_q) hA (by kernel_rfl) (by kernel_rfl) (enters_of Try.func68 (by kernel_rfl) rfl) (by kernel_rfl) (fun _ => rfl) hI_q (List.forall_mem_singleton.2 (List.mem_of_getElem? (i := 0) rfl)) (fun pre_ H_ => ∃ A : Option Addr, ∃ c : Nat, True ∧ (pre_.length ≤ c) ∧ H_ = [Cel b1 #[Value.slice A pre_.length c] 27, rowR 54 4 enPair (Value.slice A pre_.length c) pre_]) (fun _ _ _ => False) (H := [Cel b1 #[Value.slice none 0 0] 27, rowR 54 4 enPair (Value.slice none 0 0) ([] : List Pair)]) (K := []) (hW.pick [1, 0] (by decide) rfl) ⟨none, 0, trivial, by simp, rfl⟩ ?_ ?_ ?_
 · skip
   clear hA ac hW; intro l_3 rd_3 bs_3 pre_ x_ Hk_ w4 T_3 ac hrd_3 hbs_3 hbr_3 hok_ hJ_ hA hW hB_3 hT_3
   obtain ⟨A, c, _, hcap, rfl⟩ := hJ_
   obtain ⟨y5, h_⟩ : ∃ y_, y_ = x_ := ⟨_, rfl⟩; subst h_
   replace hA : Fm 13 [] [(0, Value.slice none 0 0), (1, Value.func (.func 68) #[] lb_q), (2, Value.pointer (some ⟨b1, 0, none⟩)), (4, Value.slice none 0 0), (6, Value.func (.func 68) #[] lb_q), (7, y5.v)] ac := hA.sub ⟨⟨by kernel_rfl, by kernel_rfl⟩, ⟨by kernel_rfl, by kernel_rfl⟩, ⟨by kernel_rfl, by kernel_rfl⟩, ⟨by kernel_rfl, by kernel_rfl⟩, ⟨by kernel_rfl, by kernel_rfl⟩, ⟨by kernel_rfl, by kernel_rfl⟩, trivial⟩
   have hpl_ := comes_lt hok_ hb_
   refine wpIn_region_lit ?_
   refine stF hA (by kernel_rfl) (by kernel_rfl) (by kernel_rfl) (by kernel_rfl) (RunsF.of (Runs.cells (fun b => Value.pointer (some ⟨b, 0, none⟩)) #[Value.int .i64 0, Value.int .i64 0, Value.int .i64 0, Value.int .i64 0] 54 (fun _ => by kernel_rfl) hW ?_)); clear hA ac hW; intro b6 w7 hW hb6 hfw7 ac hA
   refine stF hA (by kernel_rfl) (by kernel_rfl) (by kernel_rfl) (by kernel_rfl) (RunsF.of (Runs.store (v := y5.v) (b := b6) (j := 0) (n := 4) (cs' := #[Value.int .i64 y5.a.f, Value.int .i64 y5.a.pc, Value.int .i64 y5.b.f, Value.int .i64 y5.b.pc]) (H' := [Cel b6 #[Value.int .i64 y5.a.f, Value.int .i64 y5.a.pc, Value.int .i64 y5.b.f, Value.int .i64 y5.b.pc] 54, rd_3, Cel b1 #[Value.slice A pre_.length c] 27, rowR 54 4 enPair (Value.slice A pre_.length c) pre_]) (by kernel_rfl) (by kernel_rfl) (by kernel_rfl) (by kernel_rfl) (by kernel_rfl) hW 0 (by rfl) (Nat.le_of_ble_eq_true (by kernel_rfl)) (by kernel_rfl) (by rfl) ?_)); clear hA ac hW; intro w8 hW ac hA
   refine wpListIn_nil ?_
   refine thenN ?_
   refine begun (bs := bs_3) (H' := [Cel b6 #[Value.int .i64 y5.a.f, Value.int .i64 y5.a.pc, Value.int .i64 y5.b.f, Value.int .i64 y5.b.pc] 54, bs_3, Cel b1 #[Value.slice A pre_.length c] 27, rowR 54 4 enPair (Value.slice A pre_.length c) pre_]) hW 1 rfl (fun b hb => by rw [hbs_3] at hb; rw [hrd_3]; exact hb) rfl ?_; clear hW; intro w9 hW
   refine wpIn_block ?_
   refine wpIn_region_lit ?_
   refine st_rdF (v := Value.slice A pre_.length c) hA (by kernel_rfl) (by kernel_rfl) (by kernel_rfl) (by kernel_rfl) hW.cls (Rd.load (b := b1) (i := 0) (by kernel_rfl) (fun _ hw => (hw.1).cel 2 rfl) (by kernel_rfl)) ?_; clear hA ac; intro ac hA
   refine st_rdF (v := Value.agg #[Value.int .i64 y5.a.f, Value.int .i64 y5.a.pc, Value.int .i64 y5.b.f, Value.int .i64 y5.b.pc]) hA (by kernel_rfl) (by kernel_rfl) (by kernel_rfl) (by kernel_rfl) hW.cls (Rd.load (b := b6) (i := 0) (by kernel_rfl) (fun _ hw => (hw.1).cel 0 rfl) (by kernel_rfl)) ?_; clear hA ac; intro ac hA
   refine stF hA (by kernel_rfl) (by kernel_rfl) (by kernel_rfl) (by kernel_rfl) (RunsF.of (Runs.cells (fun b => Value.slice (some ⟨b, 0, none⟩) 1 1) #[Value.int .i64 y5.a.f, Value.int .i64 y5.a.pc, Value.int .i64 y5.b.f, Value.int .i64 y5.b.pc] 54 (fun _ => by kernel_rfl) hW ?_)); clear hA ac hW; intro b10 w11 hW hb10 hfw11 ac hA
   refine stF hA (by kernel_rfl) (by kernel_rfl) (by kernel_rfl) (by kernel_rfl) (RunsF.of (Runs.appOwn (B := (some ⟨b10, 0, none⟩)) (k := 1) (E := 54) (sz := 4) (en := enPair) (l := pre_) (m := ([y5] : List Pair)) (i := 4) (by kernel_rfl) (by kernel_rfl) elt_Pair (by kernel_rfl) hW rfl (rowAt_cel ((hW).cel 0 rfl) ([y5] : List Pair) (by rfl) elt_Pair.len) (by first | omega | (simp; done) | (simp; omega)) (by first | omega | (simp; done) | (simp; omega)) ?_)); clear hA ac hW; intro A12 c13 w14 hW hcc13 ac hA
   refine stF hA (by kernel_rfl) (by kernel_rfl) (by kernel_rfl) (by kernel_rfl) (RunsF.of (Runs.store (v := Value.slice A12 (pre_ ++ ([y5] : List Pair)).length c13) (b := b1) (j := 0) (n := 1) (cs' := #[Value.slice A12 (pre_ ++ ([y5] : List Pair)).length c13]) (H' := [Cel b10 #[Value.int .i64 y5.a.f, Value.int .i64 y5.a.pc, Value.int .i64 y5.b.f, Value.int .i64 y5.b.pc] 54, Cel b6 #[Value.int .i64 y5.a.f, Value.int .i64 y5.a.pc, Value.int .i64 y5.b.f, Value.int .i64 y5.b.pc] 54, bs_3, Cel b1 #[Value.slice A12 (pre_ ++ ([y5] : List Pair)).length c13] 27, rowR 54 4 enPair (Value.slice A12 (pre_ ++ ([y5] : List Pair)).length c13) (pre_ ++ ([y5] : List Pair))]) (by kernel_rfl) (by kernel_rfl) (by kernel_rfl) (by kernel_rfl) (by kernel_rfl) hW 3 (by rfl) (Nat.le_of_ble_eq_true (by kernel_rfl)) (by kernel_rfl) (by rfl) ?_)); clear hA ac hW; intro w15 hW ac hA
   refine wpListIn_nil ?_
   refine blkN ?_
   exact ⟨_, ⟨A12, c13, trivial, by exact hcc13, rfl⟩, (hW.pick [2, 3, 4] (by decide) rfl).pickG [0] rfl⟩
 · skip
   clear hA ac hW; intro D16 pre_ Hk_ w17 ac hS_ hJ_ hA hW
   obtain ⟨A, c, _, hcap, rfl⟩ := hJ_
   replace hW : Ws w No [Cel b1 #[Value.slice A pre_.length c] 27, rowR 54 4 enPair (Value.slice A pre_.length c) pre_, DefR D16] [g_q] w17 := hW
   refine blkN ?_
   refine thenN ?_
   refine wpIn_seq ?_
   refine wpIn_region_lit ?_
   refine st_rdF (v := Value.slice A pre_.length c) hA (by kernel_rfl) (by kernel_rfl) (by kernel_rfl) (by kernel_rfl) hW.cls (Rd.load (b := b1) (i := 0) (by kernel_rfl) (fun _ hw => (hw.1).cel 0 rfl) (by kernel_rfl)) ?_; clear hA ac; intro ac hA
   refine st_rdF (v := Value.slice A pre_.length c) hA (by kernel_rfl) (by kernel_rfl) (by kernel_rfl) (by kernel_rfl) hW.cls (Rd.pure fun _ => by kernel_rfl) ?_; clear hA ac; intro ac hA
   refine wpListIn_nil ?_
   refine thenN ?_
   refine wpIn_ret ?_
   refine retF (.inl rfl) hA ?_
   refine leaveD (H' := [Cel b1 #[Value.slice A pre_.length c] 27, rowR 54 4 enPair (Value.slice A pre_.length c) pre_]) hW 2 rfl rfl ?_; clear hW; intro w18 hW
   refine leave1 (v := Value.slice A pre_.length c) (by rfl) (GotF.tmp hA (by kernel_rfl) (by kernel_rfl)) ?_
   clear hA
   exact ⟨pre_, A, c, by first | rfl | (simp; done), by exact hS_, (own_cap ((hW).get 1 rfl)), hW.madeRow 1 rfl⟩
 · skip
   clear hA ac hW; intro D19 c_ pre_ Hk_ w20 ac hJ_ hA hW
   exact hJ_.elim

set_option maxRecDepth 100000 in
theorem e_col_66_68 (lb_q : Array Value) (g_q : Res) (Sx_q : List Pair → Prop) (w : World) (hI_q : Iter Try.prog 68 lb_q (fun x_ : Pair => #[x_.v]) Sx_q [g_q]) (hg_q : g_q.p w) (hgl_q : ∀ x_ ∈ g_q.fp, x_ < w.heap.size) (hb_ : ∀ l_, Sx_q l_ → l_.length ≤ 100000) : Calls Try.prog 66 #[Value.func (.func 68) #[] lb_q] w (fun e w' => ∃ ks : List Pair, ∃ (A_o : Option Addr) (c_o : Nat), e = .returned (Value.slice A_o (ks).length c_o) ∧ (Sx_q ks) ∧ (ks).length ≤ c_o ∧ Made (rowR 54 4 enPair (.slice A_o (ks).length c_o) ks) w w') := by
 have _hu := hb_; clear _hu
 refine enter_E 5 Try.func66 rfl rfl (by kernel_rfl) (L := [(0, Value.func (.func 68) #[] lb_q)]) (by kernel_rfl) ?_
 intro ac hA
 have hW := Ws.start w No
 have hW := hW.addG g_q hg_q hgl_q (by simp)
 refine wp_seq ?_
 refine wp_region_lit ?_
 refine st_rd (v := Value.slice none 0 0) hA (by kernel_rfl) (by kernel_rfl) (by kernel_rfl) hW.cls (Rd.pure fun _ => by kernel_rfl) ?_; clear hA ac; intro ac hA
 refine wpList_nil ?_
 refine thenN ?_
 refine wp_seq ?_
 refine wp_region_lit ?_
 refine st_rd (v := Value.func (.func 68) #[] lb_q) hA (by kernel_rfl) (by kernel_rfl) (by kernel_rfl) hW.cls (Rd.pure fun _ => by kernel_rfl) ?_; clear hA ac; intro ac hA
 refine st hA (by kernel_rfl) (by kernel_rfl) (by kernel_rfl) (Runs.call (fun _ => by kernel_rfl) (e_app_70_68 lb_q g_q Sx_q w hI_q ((hW).getG 0 rfl) ((hW).glt _ (List.mem_of_getElem? (i := 0) rfl)) (by assumption)) ?_)
 rintro _ w1 ⟨g2, Ao3, co4, rfl, hw1_hS, hcco4, hu_⟩; refine ⟨_, rfl, ?_⟩; replace hW := hW.made hu_; clear hA ac; intro ac hA
 refine st_rd (v := Value.slice Ao3 (g2).length co4) hA (by kernel_rfl) (by kernel_rfl) (by kernel_rfl) hW.cls (Rd.pure fun _ => by kernel_rfl) ?_; clear hA ac; intro ac hA
 refine wpList_nil ?_
 refine thenN ?_
 refine wp_ret ?_
 refine ret1 (v := Value.slice Ao3 (g2).length co4) (by rfl) hA (Got.tmp hA (by kernel_rfl) (by kernel_rfl)) ?_
 clear hA
 exact ⟨g2, Ao3, co4, by first | rfl | (simp; done), by assumption, (own_cap ((hW).get 0 rfl)), hW.madeRow 0 rfl⟩

set_option maxRecDepth 100000 in
theorem e_sortedFunc (lb_q : Array Value) (g_q : Res) (Sx_q : List Pair → Prop) (w : World) (hI_q : Iter Try.prog 68 lb_q (fun x_ : Pair => #[x_.v]) Sx_q [g_q]) (hg_q : g_q.p w) (hgl_q : ∀ x_ ∈ g_q.fp, x_ < w.heap.size) (hb_ : ∀ l_, Sx_q l_ → l_.length ≤ 100000) : Calls Try.prog 58 #[Value.func (.func 68) #[] lb_q, Value.func (.func 60) #[] #[]] w (fun e w' => ∃ ks : List Pair, ∃ (A_o : Option Addr) (c_o : Nat), e = .returned (Value.slice A_o (ks).length c_o) ∧ (∃ l, Sx_q l ∧ ks.Perm l) ∧ (ks).length ≤ c_o ∧ Made (rowR 54 4 enPair (.slice A_o (ks).length c_o) ks) w w') := by
 have _hu := hb_; clear _hu
 refine enter_E 12 Try.func58 rfl rfl (by kernel_rfl) (L := [(0, Value.func (.func 68) #[] lb_q), (1, Value.func (.func 60) #[] #[])]) (by kernel_rfl) ?_
 intro ac hA
 have hW := Ws.start w No
 have hW := hW.addG g_q hg_q hgl_q (by simp)
 refine wp_seq ?_
 refine wp_region_lit ?_
 refine st_rd (v := Value.slice none 0 0) hA (by kernel_rfl) (by kernel_rfl) (by kernel_rfl) hW.cls (Rd.pure fun _ => by kernel_rfl) ?_; clear hA ac; intro ac hA
 refine wpList_nil ?_
 refine thenN ?_
 refine wp_seq ?_
 refine wp_region_lit ?_
 refine st_rd (v := Value.func (.func 68) #[] lb_q) hA (by kernel_rfl) (by kernel_rfl) (by kernel_rfl) hW.cls (Rd.pure fun _ => by kernel_rfl) ?_; clear hA ac; intro ac hA
 refine st hA (by kernel_rfl) (by kernel_rfl) (by kernel_rfl) (Runs.call (fun _ => by kernel_rfl) (e_col_66_68 lb_q g_q Sx_q w hI_q ((hW).getG 0 rfl) ((hW).glt _ (List.mem_of_getElem? (i := 0) rfl)) (by assumption)) ?_)
 rintro _ w1 ⟨g2, Ao3, co4, rfl, hw1_hS, hcco4, hu_⟩; refine ⟨_, rfl, ?_⟩; replace hW := hW.made hu_; clear hA ac; intro ac hA
 refine st_rd (v := Value.slice Ao3 (g2).length co4) hA (by kernel_rfl) (by kernel_rfl) (by kernel_rfl) hW.cls (Rd.pure fun _ => by kernel_rfl) ?_; clear hA ac; intro ac hA
 refine wpList_nil ?_
 refine thenN ?_
 refine wp_seq ?_
 have hkl_ := hb_ _ hw1_hS
 refine wp_region_lit ?_
 refine st_rd (v := Value.slice Ao3 (g2).length co4) hA (by kernel_rfl) (by kernel_rfl) (by kernel_rfl) hW.cls (Rd.pure fun _ => by kernel_rfl) ?_; clear hA ac; intro ac hA
 refine st_rd (v := Value.func (.func 60) #[] #[]) hA (by kernel_rfl) (by kernel_rfl) (by kernel_rfl) hW.cls (Rd.pure fun _ => by kernel_rfl) ?_; clear hA ac; intro ac hA
 refine st hA (by kernel_rfl) (by kernel_rfl) (by kernel_rfl) (Runs.call (fun _ => by kernel_rfl) (e_sortPair (A := Ao3) (c := co4) (l := g2) w1 (hW.get 0 rfl) (by omega) trivial) ?_)
 rintro _ w6 ⟨rfl, l7, hperm_, hu_⟩; refine ⟨_, rfl, ?_⟩; have hlen_ := hperm_.length_eq; replace hW := hW.upd 0 rfl hu_ rfl; rw [← hlen_] at hW ⊢; clear hA ac; intro ac hA
 refine wpList_nil ?_
 refine thenN ?_
 refine wp_seq ?_
 refine wp_region_lit ?_
 refine st_rd (v := Value.slice Ao3 l7.length co4) hA (by kernel_rfl) (by kernel_rfl) (by kernel_rfl) hW.cls (Rd.pure fun _ => by kernel_rfl) ?_; clear hA ac; intro ac hA
 refine st_rd (v := Value.slice Ao3 l7.length co4) hA (by kernel_rfl) (by kernel_rfl) (by kernel_rfl) hW.cls (Rd.pure fun _ => by kernel_rfl) ?_; clear hA ac; intro ac hA
 refine wpList_nil ?_
 refine thenN ?_
 refine wp_ret ?_
 refine ret1 (v := Value.slice Ao3 l7.length co4) (by rfl) hA (Got.tmp hA (by kernel_rfl) (by kernel_rfl)) ?_
 clear hA
 exact ⟨l7, Ao3, co4, by first | rfl | (simp; done), by exact ⟨_, hw1_hS, hperm_⟩, (own_cap ((hW).get 0 rfl)), hW.madeRow 0 rfl⟩

set_option maxRecDepth 100000 in
theorem e_prising (b : Nat) (h : List (Pair × Int)) (w : World) (ho_x : (mapR b Pair.v (fun a : Int => Value.int .i64 a) h).p w) (hl : h.length ≤ 100000) : Calls Try.prog 52 #[Value.map (some b)] w (fun e w' => ∃ ks : List Pair, ∃ (A_o : Option Addr) (c_o : Nat), e = .returned (Value.slice A_o (ks).length c_o) ∧ (ks.Perm (keys h)) ∧ (ks).length ≤ c_o ∧ Made (rowR 54 4 enPair (.slice A_o (ks).length c_o) ks) w w') := by
 have _hu := ho_x; clear _hu
 have _hu := hl; clear _hu
 refine enter_E 6 Try.func52 rfl rfl (by kernel_rfl) (L := [(0, Value.map (some b))]) (by kernel_rfl) ?_
 intro ac hA
 have hW := Ws.start w No
 have hW := hW.mapG ho_x
 refine wp_seq ?_
 refine wp_region_lit ?_
 refine st_rd (v := Value.slice none 0 0) hA (by kernel_rfl) (by kernel_rfl) (by kernel_rfl) hW.cls (Rd.pure fun _ => by kernel_rfl) ?_; clear hA ac; intro ac hA
 refine wpList_nil ?_
 refine thenN ?_
 refine wp_seq ?_
 refine wp_region_lit ?_
 refine st_rd (v := Value.map (some b)) hA (by kernel_rfl) (by kernel_rfl) (by kernel_rfl) hW.cls (Rd.pure fun _ => by kernel_rfl) ?_; clear hA ac; intro ac hA
 refine st hA (by kernel_rfl) (by kernel_rfl) (by kernel_rfl) ((Runs.call (fun _ => by kernel_rfl) (e_keys_59 b h w ((hW).getG 0 rfl)) ?_))
 rintro _ w1 ⟨lb2, g3, rfl, hIg3, hfg3, hfw1⟩; refine ⟨_, rfl, ?_⟩; have hW0 := hW; have hW := hW0.call hfw1; have hW := hW0.addFromAt hW hfg3 (in_cons (in_at 0 rfl) in_nil); clear hW0 hA ac; intro ac hA
 refine st hA (by kernel_rfl) (by kernel_rfl) (by kernel_rfl) (Runs.call (fun _ => by kernel_rfl) (e_sortedFunc lb2 g3 (fun l_ => l_.Perm (keys h)) w1 hIg3 ((hW).getG 0 rfl) ((hW).glt _ (List.mem_of_getElem? (i := 0) rfl)) (fun l_ h_ => by have h2_ := h_.length_eq; simp only [keys, List.length_map] at h2_; omega)) ?_)
 rintro _ w4 ⟨g5, Ao6, co7, rfl, hw4_hp, hcco7, hu_⟩; refine ⟨_, rfl, ?_⟩; replace hW := hW.made hu_; clear hA ac; intro ac hA
 refine st_rd (v := Value.slice Ao6 (g5).length co7) hA (by kernel_rfl) (by kernel_rfl) (by kernel_rfl) hW.cls (Rd.pure fun _ => by kernel_rfl) ?_; clear hA ac; intro ac hA
 refine wpList_nil ?_
 refine thenN ?_
 refine wp_ret ?_
 refine ret1 (v := Value.slice Ao6 (g5).length co7) (by rfl) hA (Got.tmp hA (by kernel_rfl) (by kernel_rfl)) ?_
 clear hA
 exact ⟨g5, Ao6, co7, by first | rfl | (simp; done), by obtain ⟨l_, h1_, h2_⟩ := hw4_hp; exact h2_.trans h1_, (own_cap ((hW).get 0 rfl)), hW.madeRow 0 rfl⟩

set_option maxRecDepth 100000 in
theorem it_all_Pair (b : Nat) (A : Option Addr) (c : Nat) (l : List Pair) (hc : l.length ≤ c) (hl : l.length ≤ 1000000) : Iter Try.prog 62 #[Value.pointer (some ⟨b, 0, none⟩)] (fun x_ : Pair × Nat => #[Value.int .i64 ((x_.2 : Nat) : Int), x_.1.v]) (· = l.zipIdx) [Cel b #[Value.slice A l.length c] 27, roR A 4 enPair l] := by
 intro l_ J_ Jx_ r0 w hOs_ hdis_ hR_ hJ0_ hp_ hlt_
 have hW := iterW hOs_ hdis_ hp_ hlt_; clear hOs_ hdis_ hp_ hlt_
 have _hu := hc; clear _hu
 have _hu := hl; clear _hu
 refine enter_F 18 Try.func62 rfl rfl (by kernel_rfl) (L := [(0, Value.func (.yield l_) #[] #[]), (1, Value.pointer (some ⟨b, 0, none⟩))]) (by kernel_rfl) ?_
 intro ac hA
 refine wpIn_seq ?_
 refine wpIn_region_lit ?_
 refine st_rdF (v := Value.slice A l.length c) hA (by kernel_rfl) (by kernel_rfl) (by kernel_rfl) (by kernel_rfl) hW.cls (Rd.load (b := b) (i := 0) (by kernel_rfl) (fun _ hw => show _ = _ from (hw.1).getG 0 rfl) (by kernel_rfl)) ?_; clear hA ac; intro ac hA
 refine st_rdF (v := Value.int .i64 ((l.length : Nat) : Int)) hA (by kernel_rfl) (by kernel_rfl) (by kernel_rfl) (by kernel_rfl) hW.cls (Rd.pure fun _ => by kernel_rfl) ?_; clear hA ac; intro ac hA
 refine st_rdF (v := Value.int .i64 0) hA (by kernel_rfl) (by kernel_rfl) (by kernel_rfl) (by kernel_rfl) hW.cls (Rd.pure fun _ => by kernel_rfl) ?_; clear hA ac; intro ac hA
 refine wpListIn_nil ?_
 refine thenN ?_
 refine wpIn_block ?_
 refine wpIn_loop_m (fun m_ ac_ wl_ => ∃ k : Nat, ∃ r_ : Res, m_ = l.length - k ∧ (k ≤ l.length) ∧ (J_ (l.zipIdx.take k) r_) ∧ Fm 18 [] [(0, Value.func (.yield l_) #[] #[]), (1, Value.pointer (some ⟨b, 0, none⟩)), (5, Value.slice A l.length c), (6, Value.int .i64 ((l.length : Nat) : Int)), (7, Value.int .i64 ((k : Nat) : Int))] ac_ ∧ Ws w (· ∈ r0.fp) [r_] [Cel b #[Value.slice A l.length c] 27, roR A 4 enPair l] wl_) _ ⟨0, r0, rfl, by omega, by exact hJ0_, hA.sub ⟨⟨by kernel_rfl, by kernel_rfl⟩, ⟨by kernel_rfl, by kernel_rfl⟩, ⟨by kernel_rfl, by kernel_rfl⟩, ⟨by kernel_rfl, by kernel_rfl⟩, ⟨by kernel_rfl, by kernel_rfl⟩, trivial⟩, (hW.pick [0] (by decide) rfl).pickG [0, 1] rfl⟩ ?_
 clear hA ac hW; rintro m_ ac w1 ⟨k, r_, rfl, hk, hJ, hA, hW⟩
 refine wpIn_seq ?_
 refine wpIn_region_lit ?_
 refine st_rdF (v := Value.bool (decide ((((k : Nat) : Int) : Int) < (((l.length : Nat) : Int) : Int)))) hA (by kernel_rfl) (by kernel_rfl) (by kernel_rfl) (by kernel_rfl) hW.cls (Rd.pure fun _ => by kernel_rfl) ?_; clear hA ac; intro ac hA
 refine wpListIn_nil ?_
 refine thenN ?_
 refine wpIn_seq ?_
 refine wpIn_cond_split (t := decide ((((k : Nat) : Int) : Int) < (((l.length : Nat) : Int) : Int))) (hA.eval (by kernel_rfl)) (fun h2 => ?_) (fun h2 => ?_)
 · skip
   have h2 := of_decide_eq_true h2
   first
   | (exfalso; clear hA hW; omega)
   | (
     refine wpIn_skip ?_
     refine thenN ?_
     refine wpIn_seq ?_
     refine wpIn_block ?_
     refine wpIn_seq ?_
     refine wpIn_region_lit ?_
     refine st_rdF (v := Value.int .i64 ((k : Nat) : Int)) hA (by kernel_rfl) (by kernel_rfl) (by kernel_rfl) (by kernel_rfl) hW.cls (Rd.pure fun _ => by kernel_rfl) ?_; clear hA ac; intro ac hA
     obtain ⟨y3, hy3⟩ : ∃ y, l[k]? = some y := ⟨_, List.getElem?_eq_getElem (by first | omega | (simp; done) | (simp; omega))⟩
     obtain ⟨b4, o5, rfl, hbb4⟩ := row_some ((hW).getG 1 rfl) hy3
     refine st_rdF (v := Value.pointer (some ⟨b4, o5 + k * 4, none⟩)) hA (by kernel_rfl) (by kernel_rfl) (by kernel_rfl) (by kernel_rfl) hW.cls (Rd.indexAddr (e := 54) (sz := 4) (b := b4) (off := o5) (n := l.length) (c := c) (k := k) (by kernel_rfl) (by kernel_rfl) (by first | omega | (simp; done) | (simp; omega)) (fun _ => by kernel_rfl) (fun _ => by kernel_rfl)) ?_; clear hA ac; intro ac hA
     refine st_rdF (v := Value.agg #[Value.int .i64 y3.a.f, Value.int .i64 y3.a.pc, Value.int .i64 y3.b.f, Value.int .i64 y3.b.pc]) hA (by kernel_rfl) (by kernel_rfl) (by kernel_rfl) (by kernel_rfl) hW.cls (Rd.loadRow (b := b4) (i := o5 + k * 4) (xs := [Value.int .i64 y3.a.f, Value.int .i64 y3.a.pc, Value.int .i64 y3.b.f, Value.int .i64 y3.b.pc]) (by kernel_rfl) (fun _ hw => row_ld ((hw.1).getG 1 rfl) hy3 (Fr.refl No _) (fun h => h) 0 4 (by kernel_rfl)) (by kernel_rfl)) ?_; clear hA ac; intro ac hA
     refine stF hA (by kernel_rfl) (by kernel_rfl) (by kernel_rfl) (by kernel_rfl) (RunsF.of (Runs.cells (fun b => Value.pointer (some ⟨b, 0, none⟩)) #[Value.int .i64 0, Value.int .i64 0, Value.int .i64 0, Value.int .i64 0] 54 (fun _ => by kernel_rfl) hW ?_)); clear hA ac hW; intro b6 w7 hW hb6 hfw7 ac hA
     refine st_rdF (v := Value.int .i64 ((k : Nat) : Int)) hA (by kernel_rfl) (by kernel_rfl) (by kernel_rfl) (by kernel_rfl) hW.cls (Rd.pure fun _ => by kernel_rfl) ?_; clear hA ac; intro ac hA
     refine stF hA (by kernel_rfl) (by kernel_rfl) (by kernel_rfl) (by kernel_rfl) (RunsF.of (Runs.store (v := Value.agg #[Value.int .i64 y3.a.f, Value.int .i64 y3.a.pc, Value.int .i64 y3.b.f, Value.int .i64 y3.b.pc]) (b := b6) (j := 0) (n := 4) (cs' := #[Value.int .i64 y3.a.f, Value.int .i64 y3.a.pc, Value.int .i64 y3.b.f, Value.int .i64 y3.b.pc]) (H' := [Cel b6 #[Value.int .i64 y3.a.f, Value.int .i64 y3.a.pc, Value.int .i64 y3.b.f, Value.int .i64 y3.b.pc] 54, r_]) (by kernel_rfl) (by kernel_rfl) (by kernel_rfl) (by kernel_rfl) (by kernel_rfl) hW 0 (by rfl) (Nat.le_of_ble_eq_true (by kernel_rfl)) (by kernel_rfl) (by rfl) ?_)); clear hA ac hW; intro w8 hW ac hA
     refine wpListIn_nil ?_
     refine thenN ?_
     refine wpIn_seq ?_
     refine wpIn_region_lit ?_
     refine st_rdF (v := Value.func (.yield l_) #[] #[]) hA (by kernel_rfl) (by kernel_rfl) (by kernel_rfl) (by kernel_rfl) hW.cls (Rd.pure fun _ => by kernel_rfl) ?_; clear hA ac; intro ac hA
     refine st_rdF (v := Value.int .i64 ((k : Nat) : Int)) hA (by kernel_rfl) (by kernel_rfl) (by kernel_rfl) (by kernel_rfl) hW.cls (Rd.pure fun _ => by kernel_rfl) ?_; clear hA ac; intro ac hA
     refine st_rdF (v := Value.agg #[Value.int .i64 y3.a.f, Value.int .i64 y3.a.pc, Value.int .i64 y3.b.f, Value.int .i64 y3.b.pc]) hA (by kernel_rfl) (by kernel_rfl) (by kernel_rfl) (by kernel_rfl) hW.cls (Rd.load (b := b6) (i := 0) (by kernel_rfl) (fun _ hw => (hw.1).cel 0 rfl) (by kernel_rfl)) ?_; clear hA ac; intro ac hA
     refine stF hA (by kernel_rfl) (by kernel_rfl) (by kernel_rfl) (by kernel_rfl) (RunsF.yield hR_ (l.zipIdx.take k) ((y3, k)) (fun _ => by kernel_rfl) hW 1 rfl (comes_at hy3) (hJ) hW.fr (hW.may _ (List.mem_of_getElem? (i := 1) rfl)) ?_); clear hA ac hW; intro v9 r10 w11 hv9t hv9f hW ac hA
     refine st_rdF (v := Value.bool (!v9)) hA (by kernel_rfl) (by kernel_rfl) (by kernel_rfl) (by kernel_rfl) hW.cls (Rd.pure fun _ => by kernel_rfl) ?_; clear hA ac; intro ac hA
     refine wpListIn_nil ?_
     refine thenN ?_
     refine wpIn_cond_split (t := !v9) (hA.eval (by kernel_rfl)) (fun h12 => ?_) (fun h12 => ?_)
     · skip
       have h12 := not_t h12
       first
       | (exfalso; clear hA hW; omega)
       | (
         refine wpIn_ret ?_
         refine blkR ?_
         refine thenR ?_
         refine thenR ?_
         refine blkR ?_
         refine retF (.inl rfl) hA ?_
         refine leave0 (by rfl)  ?_
         clear hA
         exact ranDone hW 1 rfl (.inr ⟨_, hv9f h12⟩))
     · skip
       have h12 := not_f h12
       first
       | (exfalso; clear hA hW; omega)
       | (
         refine wpIn_skip ?_
         refine blkN ?_
         refine thenN ?_
         refine wpIn_region_lit ?_
         refine st_rdF (v := Value.int .i64 ((k + 1 : Nat) : Int)) hA (by kernel_rfl) (by kernel_rfl) (by kernel_rfl) (by kernel_rfl) hW.cls (Rd.pureE (v0 := Value.int .i64 (IntKind.i64.wrap ((((k : Nat) : Int) : Int) + 1))) (fun _ => by kernel_rfl) (congrArg (Value.int .i64) ((w_i64 (x := (((k : Nat) : Int) : Int) + 1) (by omega) (by omega)).trans (by omega)))) ?_; clear hA ac; intro ac hA
         refine st_rdF (v := Value.int .i64 ((k + 1 : Nat) : Int)) hA (by kernel_rfl) (by kernel_rfl) (by kernel_rfl) (by kernel_rfl) hW.cls (Rd.pure fun _ => by kernel_rfl) ?_; clear hA ac; intro ac hA
         refine wpListIn_nil ?_
         refine thenN ?_
         have hJn := hv9t h12; rw [zip_snoc hy3] at hJn
         exact ⟨l.length - (k + 1), by omega, k + 1, r10, rfl, by omega, by exact hJn, hA.sub ⟨⟨by kernel_rfl, by kernel_rfl⟩, ⟨by kernel_rfl, by kernel_rfl⟩, ⟨by kernel_rfl, by kernel_rfl⟩, ⟨by kernel_rfl, by kernel_rfl⟩, ⟨by kernel_rfl, by kernel_rfl⟩, trivial⟩, (hW.pick [1] (by decide) rfl).pickG [0, 1] rfl⟩))
 · skip
   have h2 := of_decide_eq_false h2
   first
   | (exfalso; clear hA hW; omega)
   | (
     refine wpIn_exit ?_
     refine thenX ?_
     refine thenX ?_
     refine blkX ?_
     refine retF (.inr rfl) hA ?_
     refine leave0 (by rfl)  ?_
     clear hA
     rw [zip_all (by omega)] at hJ; exact ranDone hW 0 rfl (.inl ⟨_, rfl, hJ⟩))

set_option maxRecDepth 100000 in
theorem e_all_Pair (A_l : Option Addr) (c_l : Nat) (l : List Pair) (w : World) (hr_l : RowAt w A_l 4 enPair l) (hc_l : l.length ≤ c_l) (hl : l.length ≤ 1000000) : Calls Try.prog 54 #[Value.slice A_l l.length c_l] w (fun e w' => ∃ (lb : Array Value) (g : Res), e = .returned (Value.func (.func 62) #[] lb) ∧ Iter Try.prog 62 lb (fun x_ : Pair × Nat => #[Value.int .i64 ((x_.2 : Nat) : Int), x_.1.v]) (· = l.zipIdx) [g] ∧ g.from_ [roR A_l 4 enPair l] w w' ∧ Fr No w w') := by
 have _hu := hc_l; have _hv := hr_l; clear _hu _hv
 have _hu := hl; clear _hu
 refine enter_E 4 Try.func54 rfl rfl (by kernel_rfl) (L := [(0, Value.slice A_l l.length c_l)]) (by kernel_rfl) ?_
 intro ac hA
 have hW := Ws.start w No
 have hW := hW.arg hr_l
 refine wp_seq ?_
 refine wp_region_lit ?_
 refine st hA (by kernel_rfl) (by kernel_rfl) (by kernel_rfl) (Runs.cells (fun b => Value.pointer (some ⟨b, 0, none⟩)) #[Value.slice A_l l.length c_l] 27 (fun _ => by kernel_rfl) hW ?_); clear hA ac hW; intro b1 w2 hW hb1 hfw2 ac hA
 refine st_rd (v := Value.nilFunc) hA (by kernel_rfl) (by kernel_rfl) (by kernel_rfl) hW.cls (Rd.pure fun _ => by kernel_rfl) ?_; clear hA ac; intro ac hA
 refine wpList_nil ?_
 refine thenN ?_
 refine wp_seq ?_
 refine wp_region_lit ?_
 refine st_rd (v := Value.func (.func 62) #[] #[Value.pointer (some ⟨b1, 0, none⟩)]) hA (by kernel_rfl) (by kernel_rfl) (by kernel_rfl) hW.cls (Rd.pure fun _ => by kernel_rfl) ?_; clear hA ac; intro ac hA
 refine st_rd (v := Value.func (.func 62) #[] #[Value.pointer (some ⟨b1, 0, none⟩)]) hA (by kernel_rfl) (by kernel_rfl) (by kernel_rfl) hW.cls (Rd.pure fun _ => by kernel_rfl) ?_; clear hA ac; intro ac hA
 refine wpList_nil ?_
 refine thenN ?_
 refine wp_ret ?_
 refine ret1 (v := Value.func (.func 62) #[] #[Value.pointer (some ⟨b1, 0, none⟩)]) (by rfl) hA (Got.tmp hA (by kernel_rfl) (by kernel_rfl)) ?_
 clear hA
 exact ⟨_, _, rfl, iter_many (it_all_Pair b1 _ _ l hc_l hl), from_many (froms_cons (hW.outOwn 0 rfl (fun _ h => h)) (froms_cons (hW.outArg 0 rfl (.head _)) froms_nil)), hW.fr⟩

set_option maxRecDepth 100000 in
theorem it_53 (b : Nat) (A : Option Addr) (c : Nat) (l : List Pair) (hc : l.length ≤ c) (hl : l.length ≤ 1000000) : Iter Try.prog 53 #[Value.pointer (some ⟨b, 0, none⟩)] (fun x_ : Pair × Nat => #[Value.int .i64 ((x_.2 : Nat) : Int), x_.1.v]) (· = l.zipIdx) [Cel b #[Value.slice A l.length c] 27, roR A 4 enPair l] := by
 intro l_ J_ Jx_ r0 w hOs_ hdis_ hR_ hJ0_ hp_ hlt_
 have hW := iterW hOs_ hdis_ hp_ hlt_; clear hOs_ hdis_ hp_ hlt_
 have _hu := hc; clear _hu
 have _hu := hl; clear _hu
 refine enter_F 14 Try.func53 rfl rfl (by kernel_rfl) (L := [(0, Value.func (.yield l_) #[] #[]), (1, Value.pointer (some ⟨b, 0, none⟩))]) (by kernel_rfl) ?_
 intro ac hA
 refine wpIn_seq ?_
 refine wpIn_region_lit ?_
 refine stF hA (by kernel_rfl) (by kernel_rfl) (by kernel_rfl) (by kernel_rfl) (RunsF.of (Runs.cells (fun b => Value.pointer (some ⟨b, 0, none⟩)) #[Value.func (.yield l_) #[] #[]] 96 (fun _ => by kernel_rfl) hW ?_)); clear hA ac hW; intro b1 w2 hW hb1 hfw2 ac hA
 refine wpListIn_nil ?_
 refine thenN ?_
 refine wpIn_scope ?_
 refine wpIn_seq ?_
 refine wpIn_label ?_
 refine thenN ?_
 refine wpIn_seq ?_
 refine wpIn_region_lit ?_
 refine st_rdF (v := Value.slice A l.length c) hA (by kernel_rfl) (by kernel_rfl) (by kernel_rfl) (by kernel_rfl) hW.cls (Rd.load (b := b) (i := 0) (by kernel_rfl) (fun _ hw => show _ = _ from (hw.1).getG 0 rfl) (by kernel_rfl)) ?_; clear hA ac; intro ac hA
 refine stF hA (by kernel_rfl) (by kernel_rfl) (by kernel_rfl) (by kernel_rfl) (RunsF.of (Runs.call (fun _ => by kernel_rfl) (e_all_Pair A c l w2 ((hW).getG 1 rfl) (by first | assumption | omega | (simp; omega) | simp) (by first | omega | (simp; done))) ?_))
 rintro _ w3 ⟨lb4, g5, rfl, hIg5, hfg5, hfw3⟩; refine ⟨_, rfl, ?_⟩; have hW0 := hW; have hW := hW0.call hfw3; have hW := hW0.addFromAt hW hfg5 (in_cons (in_at 1 rfl) in_nil); clear hW0 hA ac; intro ac hA
 refine wpListIn_nil ?_
 refine thenN ?_
 refine wpIn_block ?_
 have hW := hW.share 0 rfl (H' := [r0]) rfl
 refine wp_range (encs := (fun x_ : Pair × Nat => #[Value.int .i64 ((x_.2 : Nat) : Int), x_.1.v])) (Sx := (· = l.zipIdx)) hA (by kernel_rfl) (by kernel_rfl) (enters_of Try.func62 (by kernel_rfl) rfl) (by kernel_rfl) (fun _ => rfl) hIg5 (List.forall_mem_singleton.2 (List.mem_of_getElem? (i := 1) rfl)) (fun pre_ H_ => ∃ k : Nat, ∃ r_ : Res, pre_ = l.zipIdx.take k ∧ k ≤ l.length ∧ (J_ (l.zipIdx.take k) r_) ∧ H_ = [r_]) (fun c_ _ H_ => (c_ = .exit 0 ∧ ∃ q_ : List (Pair × Nat), ∃ r_ : Res, (Jx_ q_ r_) ∧ H_ = [r_])) (H := [r0]) (K := []) (hW.pick [0] (by decide) rfl) ⟨0, r0, rfl, Nat.zero_le _, by exact hJ0_, rfl⟩ ?_ ?_ ?_
 · skip
   clear hA ac hW; intro l_6 rd_6 bs_6 pre_ x_ Hk_ w7 T_6 ac hrd_6 hbs_6 hbr_6 hok_ hJ_ hA hW hB_6 hT_6
   obtain ⟨k, r_, rfl, hk_, hJ, rfl⟩ := hJ_
   obtain ⟨y8, rfl, hy8, hlty8, hsny8⟩ := comes_zip hok_ hk_
   replace hA : Fm 14 [] [(0, Value.func (.yield l_) #[] #[]), (1, Value.pointer (some ⟨b, 0, none⟩)), (2, Value.pointer (some ⟨b1, 0, none⟩)), (5, Value.slice A l.length c), (6, Value.func (.func 62) #[] lb4), (7, Value.int .i64 ((k : Nat) : Int)), (8, y8.v)] ac := hA.sub ⟨⟨by kernel_rfl, by kernel_rfl⟩, ⟨by kernel_rfl, by kernel_rfl⟩, ⟨by kernel_rfl, by kernel_rfl⟩, ⟨by kernel_rfl, by kernel_rfl⟩, ⟨by kernel_rfl, by kernel_rfl⟩, ⟨by kernel_rfl, by kernel_rfl⟩, ⟨by kernel_rfl, by kernel_rfl⟩, trivial⟩
   refine wpIn_seq ?_
   refine wpIn_region_lit ?_
   refine st_rdF (v := Value.int .i64 ((k : Nat) : Int)) hA (by kernel_rfl) (by kernel_rfl) (by kernel_rfl) (by kernel_rfl) hW.cls (Rd.pure fun _ => by kernel_rfl) ?_; clear hA ac; intro ac hA
   refine wpListIn_nil ?_
   refine thenN ?_
   refine wpIn_region_lit ?_
   refine stF hA (by kernel_rfl) (by kernel_rfl) (by kernel_rfl) (by kernel_rfl) (RunsF.of (Runs.cells (fun b => Value.pointer (some ⟨b, 0, none⟩)) #[Value.int .i64 0, Value.int .i64 0, Value.int .i64 0, Value.int .i64 0] 54 (fun _ => by kernel_rfl) hW ?_)); clear hA ac hW; intro b9 w10 hW hb9 hfw10 ac hA
   refine stF hA (by kernel_rfl) (by kernel_rfl) (by kernel_rfl) (by kernel_rfl) (RunsF.of (Runs.store (v := y8.v) (b := b9) (j := 0) (n := 4) (cs' := #[Value.int .i64 y8.a.f, Value.int .i64 y8.a.pc, Value.int .i64 y8.b.f, Value.int .i64 y8.b.pc]) (H' := [Cel b9 #[Value.int .i64 y8.a.f, Value.int .i64 y8.a.pc, Value.int .i64 y8.b.f, Value.int .i64 y8.b.pc] 54, rd_6, r_]) (by kernel_rfl) (by kernel_rfl) (by kernel_rfl) (by kernel_rfl) (by kernel_rfl) hW 0 (by rfl) (Nat.le_of_ble_eq_true (by kernel_rfl)) (by kernel_rfl) (by rfl) ?_)); clear hA ac hW; intro w11 hW ac hA
   refine wpListIn_nil ?_
   refine thenN ?_
   refine begun (bs := bs_6) (H' := [Cel b9 #[Value.int .i64 y8.a.f, Value.int .i64 y8.a.pc, Value.int .i64 y8.b.f, Value.int .i64 y8.b.pc] 54, bs_6, r_]) hW 1 rfl (fun b hb => by rw [hbs_6] at hb; rw [hrd_6]; exact hb) rfl ?_; clear hW; intro w12 hW
   refine wpIn_block ?_
   refine wpIn_seq ?_
   refine wpIn_region_lit ?_
   refine st_rdF (v := Value.func (.yield l_) #[] #[]) hA (by kernel_rfl) (by kernel_rfl) (by kernel_rfl) (by kernel_rfl) hW.cls (Rd.load (b := b1) (i := 0) (by kernel_rfl) (fun _ hw => show _ = _ from (hw.1).getG 0 rfl) (by kernel_rfl)) ?_; clear hA ac; intro ac hA
   refine st_rdF (v := Value.int .i64 ((k : Nat) : Int)) hA (by kernel_rfl) (by kernel_rfl) (by kernel_rfl) (by kernel_rfl) hW.cls (Rd.pure fun _ => by kernel_rfl) ?_; clear hA ac; intro ac hA
   refine st_rdF (v := Value.agg #[Value.int .i64 y8.a.f, Value.int .i64 y8.a.pc, Value.int .i64 y8.b.f, Value.int .i64 y8.b.pc]) hA (by kernel_rfl) (by kernel_rfl) (by kernel_rfl) (by kernel_rfl) hW.cls (Rd.load (b := b9) (i := 0) (by kernel_rfl) (fun _ hw => (hw.1).cel 0 rfl) (by kernel_rfl)) ?_; clear hA ac; intro ac hA
   refine stF hA (by kernel_rfl) (by kernel_rfl) (by kernel_rfl) (by kernel_rfl) (RunsF.yield hR_ (l.zipIdx.take k) ((y8, k)) (fun _ => by kernel_rfl) hW 2 rfl (comes_at hy8) (hJ) (chainFr hB_6 hT_6 hW.fr) (chainMay hB_6 hT_6 (hW.may _ (List.mem_of_getElem? (i := 2) rfl))) ?_); clear hA ac hW; intro v13 r14 w15 hv13t hv13f hW ac hA
   refine st_rdF (v := Value.bool (!v13)) hA (by kernel_rfl) (by kernel_rfl) (by kernel_rfl) (by kernel_rfl) hW.cls (Rd.pure fun _ => by kernel_rfl) ?_; clear hA ac; intro ac hA
   refine wpListIn_nil ?_
   refine thenN ?_
   refine wpIn_cond_split (t := !v13) (hA.eval (by kernel_rfl)) (fun h16 => ?_) (fun h16 => ?_)
   · skip
     have h16 := not_t h16
     first
     | (exfalso; clear hA hW; omega)
     | (
       refine wpIn_exit ?_
       refine blkY (by kernel_rfl) ?_
       exact ⟨_, ⟨rfl, _, r14, by exact hv13f h16, rfl⟩, (hW.pick [1, 2] (by decide) rfl).pickG [0, 1, 2, 3] rfl⟩)
   · skip
     have h16 := not_f h16
     first
     | (exfalso; clear hA hW; omega)
     | (
       refine wpIn_skip ?_
       refine blkN ?_
       have hJn := hv13t h16; rw [zip_snoc hy8] at hJn
       exact ⟨_, ⟨k + 1, r14, hsny8, hlty8, by exact hJn, rfl⟩, (hW.pick [1, 2] (by decide) rfl).pickG [0, 1, 2, 3] rfl⟩)
 · skip
   clear hA ac hW; intro D17 xs_ Hk_ w18 ac hS_ hJ_ hA hW
   obtain ⟨k, r_, hpre_, hk_, hJ, rfl⟩ := hJ_
   have hke : k = l.length := by have := congrArg List.length (hS_.symm.trans hpre_); simp at this; omega
   clear hpre_ hS_
   replace hW : Ws w (· ∈ r0.fp) [r_, DefR D17] [Cel b1 #[Value.func (.yield l_) #[] #[]] 96, g5, Cel b #[Value.slice A l.length c] 27, roR A 4 enPair l] w18 := hW
   refine blkN ?_
   refine nogN ?_
   refine retF (.inr rfl) hA ?_
   refine leaveD (H' := [r_]) hW 1 rfl rfl ?_; clear hW; intro w19 hW
   refine leave0 (by rfl)  ?_
   clear hA
   rw [zip_all (by omega)] at hJ; exact ranDone hW 0 rfl (.inl ⟨_, rfl, hJ⟩)
 · skip
   clear hA ac hW; intro D20 c_ pre_ Hk_ w21 ac hJ_ hA hW
   rcases hJ_ with ⟨rfl, q_, r_, hJx, rfl⟩
   · skip
     replace hW : Ws w (· ∈ r0.fp) [r_, DefR D20] [Cel b1 #[Value.func (.yield l_) #[] #[]] 96, g5, Cel b #[Value.slice A l.length c] 27, roR A 4 enPair l] w21 := hW
     refine wpIn_exit ?_
     refine blkX ?_
     refine nogN ?_
     refine retF (.inr rfl) hA ?_
     refine leaveD (H' := [r_]) hW 1 rfl rfl ?_; clear hW; intro w22 hW
     refine leave0 (by rfl)  ?_
     clear hA
     exact ranDone hW 0 rfl (.inr ⟨_, hJx⟩)

end Go.Proofs.Ytgkhaoogfpnbbaa.L
