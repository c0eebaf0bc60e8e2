/- Contracts, walked by program over the engine's laws. -/
import Derived.Test.YtobbocpacacnhaaProg
import Derived.Test.YtobbocpacacnhaaE14
import Derived.Test.YtobbocpacacnhaaSite
namespace Go.Proofs.Ytobbocpacacnhaa.L
open Go.RowKit

structure Mark where
  clock : Int
  site : Site
deriving DecidableEq
def Mark.v (x : Mark) : Value := .agg #[.int .u64 x.clock, .int .i64 x.site.f, .int .i64 x.site.pc]
def enMark (x : Mark) : List Value := [.int .u64 x.clock, .int .i64 x.site.f, .int .i64 x.site.pc]
def enI (x : Int) : List Value := [.int .i64 x]
theorem elt_I : Elt Try.prog 3 1 enI := ⟨⟨Value.int .i64 0, 8, by kernel_rfl, rfl, by decide⟩, by decide, fun _ => rfl, fun x u hu => List.all_eq_true.1 (show (enI x).all (·.oneCell') = true from rfl) u hu⟩
set_option maxRecDepth 100000 in
theorem it_62 (b0 b1 : Nat) (m : List (Int × Nat)) : Iter Try.prog 62 #[Value.pointer (some ⟨b0, 0, none⟩)] (fun x_ : Int => #[Value.int .i64 x_]) (fun l_ => l_.Perm (keys m)) [Cel b0 #[Value.map (some b1)] 59, mapR b1 (fun a : Int => Value.int .i64 a) (fun x_ : Nat => Value.map (some x_)) m] := by
  intro l_ J_ Jx_ r0 w hOs_ hdis_ hR_ hJ0_ hp_ hlt_
  have hW := iterW hOs_ hdis_ hp_ hlt_; clear hOs_ hdis_ hp_ hlt_
  refine enter_F 14 Try.func62 rfl rfl (by kernel_rfl) (L := [(0, Value.func (.yield l_) #[] #[]), (1, Value.pointer (some ⟨b0, 0, none⟩))]) (by kernel_rfl) ?_
  intro ac hA
  refine wpIn_seq ?_
  refine wpIn_region_lit ?_
  refine st_rdF (v := Value.map (some b1)) hA (by kernel_rfl) (by kernel_rfl) (by kernel_rfl) (by kernel_rfl) hW.cls (Rd.load (b := b0) (i := 0) (by kernel_rfl) (fun _ hw => show _ = _ from (hw.1).getG 0 rfl) (by kernel_rfl)) ?_; clear hA ac; intro ac hA
  refine stF hA (by kernel_rfl) (by kernel_rfl) (by kernel_rfl) (by kernel_rfl) (RunsF.of (Runs.range (k := 3) (e := 69) (ek := (fun a : Int => Value.int .i64 a)) (ev := (fun x_ : Nat => Value.map (some x_))) (m := m) (by kernel_rfl) (by kernel_rfl) hW 1 rfl ?_)); clear hA ac hW; intro r1 es2 ck3 w4 hnr1 hW hfw4 ac hA
  refine wpListIn_nil ?_
  refine thenN ?_
  refine wpIn_block ?_
  refine wpIn_loop_m (fun m_ ac_ wl_ => ∃ left : List (Int × Nat), ∃ cur : Option (Int × Nat), ∃ r_ : Res, ∃ pre : List Int, m_ = left.length ∧ (J_ pre r_) ∧ ((pre ++ left.map (·.1)).Perm (keys m)) ∧ Fm 14 [] [(0, Value.func (.yield l_) #[] #[]), (5, Value.pointer (some ⟨r1, 0, none⟩))] ac_ ∧ Ws w (· ∈ r0.fp) [IterX r1 b1 es2 ck3 (fun a : Int => Value.int .i64 a) (fun x_ : Nat => Value.map (some x_)) left cur, r_] [MapX b1 es2 ck3, Cel b0 #[Value.map (some b1)] 59, mapR b1 (fun a : Int => Value.int .i64 a) (fun x_ : Nat => Value.map (some x_)) m] wl_) _ ⟨m, none, r0, [], rfl, by exact hJ0_, by exact List.Perm.refl _, hA.sub ⟨⟨by kernel_rfl, by kernel_rfl⟩, ⟨by kernel_rfl, by kernel_rfl⟩, trivial⟩, (hW.pick [0, 1] (by decide) rfl).pickG [0, 1, 2] rfl⟩ ?_
  clear hA ac hW; rintro m_ ac w5 ⟨left, cur, r_, pre, rfl, hJ, hp, hA, hW⟩
  refine wpIn_seq ?_
  refine wpIn_region_lit ?_
  refine stF hA (by kernel_rfl) (by kernel_rfl) (by kernel_rfl) (by kernel_rfl) (RunsF.of (Runs.next (ek := (fun a : Int => Value.int .i64 a)) (ev := (fun x_ : Nat => Value.map (some x_))) (r := r1) (b := b1) (es := es2) (clock := ck3) (left := left) (cur := cur) (by kernel_rfl) hnr1 hW 0 0 rfl rfl ?_ ?_))
  · skip
    intro hdoner1 ac hA
    refine st_rdF (v := Value.bool false) hA (by kernel_rfl) (by kernel_rfl) (by kernel_rfl) (by kernel_rfl) hW.cls (Rd.pure fun _ => by kernel_rfl) ?_; clear hA ac; intro ac hA
    refine wpListIn_nil ?_
    refine thenN ?_
    refine wpIn_seq ?_
    refine wpIn_cond_false (hA.eval (by kernel_rfl)) ?_
    refine wpIn_exit ?_
    refine thenX ?_
    refine thenX ?_
    refine blkX ?_
    refine retF (.inr rfl) hA ?_
    refine leave0 (by rfl)  ?_
    clear hA
    exact ranDone hW 1 rfl (.inl ⟨_, key_done hp hdoner1, hJ⟩)
  · skip
    clear hA ac; intro k6 y7 w8 hkk6 hW ac hA
    refine st_rdF (v := Value.bool true) hA (by kernel_rfl) (by kernel_rfl) (by kernel_rfl) (by kernel_rfl) hW.cls (Rd.pure fun _ => by kernel_rfl) ?_; clear hA ac; intro ac hA
    refine wpListIn_nil ?_
    refine thenN ?_
    refine wpIn_seq ?_
    refine wpIn_cond_true (hA.eval (by kernel_rfl)) ?_
    refine wpIn_skip ?_
    refine thenN ?_
    refine wpIn_block ?_
    refine wpIn_seq ?_
    refine wpIn_region_lit ?_
    refine st_rdF (v := Value.tuple #[Value.int .i64 y7.1, Value.map (some y7.2)]) hA (by kernel_rfl) (by kernel_rfl) (by kernel_rfl) (by kernel_rfl) hW.cls (Rd.entry (ek := (fun a : Int => Value.int .i64 a)) (ev := (fun x_ : Nat => Value.map (some x_))) (r := r1) (b := b1) (es := es2) (clock := ck3) (left := (List.eraseIdx left k6)) (y := y7) (by kernel_rfl) hnr1 (fun _ hw => show _ = _ from (hw.1).getG 0 rfl) (fun _ hw => (hw.1).get 0 rfl)) ?_; clear hA ac; intro ac hA
    refine st_rdF (v := Value.int .i64 y7.1) hA (by kernel_rfl) (by kernel_rfl) (by kernel_rfl) (by kernel_rfl) hW.cls (Rd.pure fun _ => by kernel_rfl) ?_; clear hA ac; intro ac hA
    refine st_rdF (v := Value.int .i64 y7.1) hA (by kernel_rfl) (by kernel_rfl) (by kernel_rfl) (by kernel_rfl) hW.cls (Rd.pure fun _ => by kernel_rfl) ?_; clear hA ac; intro ac hA
    refine wpListIn_nil ?_
    refine thenN ?_
    refine wpIn_seq ?_
    refine wpIn_region_lit ?_
    refine st_rdF (v := Value.func (.yield l_) #[] #[]) hA (by kernel_rfl) (by kernel_rfl) (by kernel_rfl) (by kernel_rfl) hW.cls (Rd.pure fun _ => by kernel_rfl) ?_; clear hA ac; intro ac hA
    refine st_rdF (v := Value.int .i64 y7.1) hA (by kernel_rfl) (by kernel_rfl) (by kernel_rfl) (by kernel_rfl) hW.cls (Rd.pure fun _ => by kernel_rfl) ?_; clear hA ac; intro ac hA
    refine stF hA (by kernel_rfl) (by kernel_rfl) (by kernel_rfl) (by kernel_rfl) (RunsF.yield hR_ (pre) (y7.1) (fun _ => by kernel_rfl) hW 1 rfl (comes_key hp hkk6) (hJ) hW.fr (hW.may _ (List.mem_of_getElem? (i := 1) rfl)) ?_); clear hA ac hW; intro v9 r10 w11 hv9t hv9f hW ac hA
    refine st_rdF (v := Value.bool (!v9)) hA (by kernel_rfl) (by kernel_rfl) (by kernel_rfl) (by kernel_rfl) hW.cls (Rd.pure fun _ => by kernel_rfl) ?_; clear hA ac; intro ac hA
    refine wpListIn_nil ?_
    refine thenN ?_
    refine wpIn_cond_split (t := !v9) (hA.eval (by kernel_rfl)) (fun h12 => ?_) (fun h12 => ?_)
    · skip
      have h12 := not_t h12
      first
      | (exfalso; clear hA hW; omega)
      | (
          refine wpIn_ret ?_
          refine blkR ?_
          refine thenR ?_
          refine blkR ?_
          refine retF (.inl rfl) hA ?_
          refine leave0 (by rfl)  ?_
          clear hA
          exact ranDone hW 1 rfl (.inr ⟨_, hv9f h12⟩))
    · skip
      have h12 := not_f h12
      first
      | (exfalso; clear hA hW; omega)
      | (
          refine wpIn_skip ?_
          refine blkN ?_
          refine thenN ?_
          have hJn := hv9t h12; have hlt_ := er_len_ hkk6
          exact ⟨(List.eraseIdx left k6).length, by omega, List.eraseIdx left k6, (some y7), r10, pre ++ [y7.1], rfl, by exact hJn, by exact key_step hp hkk6, hA.sub ⟨⟨by kernel_rfl, by kernel_rfl⟩, ⟨by kernel_rfl, by kernel_rfl⟩, trivial⟩, (hW.pick [0, 1] (by decide) rfl).pickG [0, 1, 2] rfl⟩)

set_option maxRecDepth 100000 in
theorem e_keys_48 (b : Nat) (h : List (Int × Nat)) (w : World) (ho_x : (mapR b (fun a : Int => Value.int .i64 a) (fun x_ : Nat => Value.map (some x_)) h).p w) : Calls Try.prog 48 #[Value.map (some b)] w (fun e w' => ∃ (lb : Array Value) (g : Res), e = .returned (Value.func (.func 62) #[] lb) ∧ Iter Try.prog 62 lb (fun x_ : Int => #[Value.int .i64 x_]) (fun l_ => l_.Perm (keys h)) [g] ∧ g.from_ [mapR b (fun a : Int => Value.int .i64 a) (fun x_ : Nat => Value.map (some x_)) h] w w' ∧ Fr No w w') := by
  have _hu := ho_x; clear _hu
  refine enter_E 4 Try.func48 rfl rfl (by kernel_rfl) (L := [(0, Value.map (some b))]) (by kernel_rfl) ?_
  intro ac hA
  have hW := Ws.start w No
  have hW := hW.mapG ho_x
  refine wp_seq ?_
  refine wp_region_lit ?_
  refine st hA (by kernel_rfl) (by kernel_rfl) (by kernel_rfl) (Runs.cells (fun b => Value.pointer (some ⟨b, 0, none⟩)) #[Value.map (some b)] 59 (fun _ => by kernel_rfl) hW ?_); clear hA ac hW; intro b1 w2 hW hb1 hfw2 ac hA
  refine st_rd (v := Value.nilFunc) hA (by kernel_rfl) (by kernel_rfl) (by kernel_rfl) hW.cls (Rd.pure fun _ => by kernel_rfl) ?_; clear hA ac; intro ac hA
  refine wpList_nil ?_
  refine thenN ?_
  refine wp_seq ?_
  refine wp_region_lit ?_
  refine st_rd (v := Value.func (.func 62) #[] #[Value.pointer (some ⟨b1, 0, none⟩)]) hA (by kernel_rfl) (by kernel_rfl) (by kernel_rfl) hW.cls (Rd.pure fun _ => by kernel_rfl) ?_; clear hA ac; intro ac hA
  refine st_rd (v := Value.func (.func 62) #[] #[Value.pointer (some ⟨b1, 0, none⟩)]) hA (by kernel_rfl) (by kernel_rfl) (by kernel_rfl) hW.cls (Rd.pure fun _ => by kernel_rfl) ?_; clear hA ac; intro ac hA
  refine wpList_nil ?_
  refine thenN ?_
  refine wp_ret ?_
  refine ret1 (v := Value.func (.func 62) #[] #[Value.pointer (some ⟨b1, 0, none⟩)]) (by rfl) hA (Got.tmp hA (by kernel_rfl) (by kernel_rfl)) ?_
  clear hA
  exact ⟨_, _, rfl, iter_many (it_62 b1 b h), from_many (froms_cons (hW.outOwn 0 rfl (fun _ h => h)) (froms_cons (hW.outArg 0 rfl (.head _)) froms_nil)), hW.fr⟩

set_option maxRecDepth 100000 in
theorem e_app_61_62 (lb_q : Array Value) (g_q : Res) (Sx_q : List Int → Prop) (w : World) (hI_q : Iter Try.prog 62 lb_q (fun x_ : Int => #[Value.int .i64 x_]) Sx_q [g_q]) (hg_q : g_q.p w) (hgl_q : ∀ x_ ∈ g_q.fp, x_ < w.heap.size) (hb_ : ∀ l_, Sx_q l_ → l_.length ≤ 100000) : Calls Try.prog 61 #[Value.slice none 0 0, Value.func (.func 62) #[] lb_q] w (fun e w' => ∃ ks : List Int, ∃ (A_o : Option Addr) (c_o : Nat), e = .returned (Value.slice A_o (ks).length c_o) ∧ (Sx_q ks) ∧ (ks).length ≤ c_o ∧ Made (rowR 3 1 enI (.slice A_o (ks).length c_o) ks) w w') := by
  have _hu := hb_; clear _hu
  refine enter_F 13 Try.func61 rfl rfl (by kernel_rfl) (L := [(0, Value.slice none 0 0), (1, Value.func (.func 62) #[] lb_q)]) (by kernel_rfl) ?_
  intro ac hA
  have hW := Ws.start w No
  have hW := hW.addG g_q hg_q hgl_q (by simp)
  refine wpIn_seq ?_
  refine wpIn_region_lit ?_
  refine stF hA (by kernel_rfl) (by kernel_rfl) (by kernel_rfl) (by kernel_rfl) (RunsF.of (Runs.cells (fun b => Value.pointer (some ⟨b, 0, none⟩)) #[Value.slice none 0 0] 35 (fun _ => by kernel_rfl) hW ?_)); clear hA ac hW; intro b1 w2 hW hb1 hfw2 ac hA
  refine st_rdF (v := Value.slice none 0 0) hA (by kernel_rfl) (by kernel_rfl) (by kernel_rfl) (by kernel_rfl) hW.cls (Rd.pure fun _ => by kernel_rfl) ?_; clear hA ac; intro ac hA
  refine wpListIn_nil ?_
  refine thenN ?_
  refine wpIn_seq ?_
  refine wpIn_seq ?_
  have hW := hW.addNil 3 1 enI
  refine wpIn_region_lit ?_
  refine st_rdF (v := Value.func (.func 62) #[] lb_q) hA (by kernel_rfl) (by kernel_rfl) (by kernel_rfl) (by kernel_rfl) hW.cls (Rd.pure fun _ => by kernel_rfl) ?_; clear hA ac; intro ac hA
  refine wpListIn_nil ?_
  refine thenN ?_
  refine wpIn_block ?_
  refine wp_range (encs := (fun x_ : Int => #[Value.int .i64 x_])) (Sx := Sx_q) hA (by kernel_rfl) (by kernel_rfl) (enters_of Try.func62 (by kernel_rfl) rfl) (by kernel_rfl) (fun _ => rfl) hI_q (List.forall_mem_singleton.2 (List.mem_of_getElem? (i := 0) rfl)) (fun pre_ H_ => ∃ A : Option Addr, ∃ c : Nat, True ∧ (pre_.length ≤ c) ∧ H_ = [Cel b1 #[Value.slice A pre_.length c] 35, rowR 3 1 enI (Value.slice A pre_.length c) pre_]) (fun _ _ _ => False) (H := [Cel b1 #[Value.slice none 0 0] 35, rowR 3 1 enI (Value.slice none 0 0) ([] : List Int)]) (K := []) (hW.pick [1, 0] (by decide) rfl) ⟨none, 0, trivial, by simp, rfl⟩ ?_ ?_ ?_
  · skip
    clear hA ac hW; intro l_3 rd_3 bs_3 pre_ x_ Hk_ w4 T_3 ac hrd_3 hbs_3 hbr_3 hok_ hJ_ hA hW hB_3 hT_3
    obtain ⟨A, c, _, hcap, rfl⟩ := hJ_
    obtain ⟨y5, h_⟩ : ∃ y_, y_ = x_ := ⟨_, rfl⟩; subst h_
    replace hA : Fm 13 [] [(0, Value.slice none 0 0), (1, Value.func (.func 62) #[] lb_q), (2, Value.pointer (some ⟨b1, 0, none⟩)), (4, Value.slice none 0 0), (6, Value.func (.func 62) #[] lb_q), (7, Value.int .i64 y5)] ac := hA.sub ⟨⟨by kernel_rfl, by kernel_rfl⟩, ⟨by kernel_rfl, by kernel_rfl⟩, ⟨by kernel_rfl, by kernel_rfl⟩, ⟨by kernel_rfl, by kernel_rfl⟩, ⟨by kernel_rfl, by kernel_rfl⟩, ⟨by kernel_rfl, by kernel_rfl⟩, trivial⟩
    have hpl_ := comes_lt hok_ hb_
    refine wpIn_region_lit ?_
    refine st_rdF (v := Value.int .i64 y5) hA (by kernel_rfl) (by kernel_rfl) (by kernel_rfl) (by kernel_rfl) hW.cls (Rd.pure fun _ => by kernel_rfl) ?_; clear hA ac; intro ac hA
    refine wpListIn_nil ?_
    refine thenN ?_
    refine begun (bs := bs_3) (H' := [bs_3, Cel b1 #[Value.slice A pre_.length c] 35, rowR 3 1 enI (Value.slice A pre_.length c) pre_]) hW 0 rfl (fun b hb => by rw [hbs_3] at hb; rw [hrd_3]; exact hb) rfl ?_; clear hW; intro w6 hW
    refine wpIn_block ?_
    refine wpIn_region_lit ?_
    refine st_rdF (v := Value.slice A pre_.length c) hA (by kernel_rfl) (by kernel_rfl) (by kernel_rfl) (by kernel_rfl) hW.cls (Rd.load (b := b1) (i := 0) (by kernel_rfl) (fun _ hw => (hw.1).cel 1 rfl) (by kernel_rfl)) ?_; clear hA ac; intro ac hA
    refine st_rdF (v := Value.int .i64 y5) hA (by kernel_rfl) (by kernel_rfl) (by kernel_rfl) (by kernel_rfl) hW.cls (Rd.pure fun _ => by kernel_rfl) ?_; clear hA ac; intro ac hA
    refine stF hA (by kernel_rfl) (by kernel_rfl) (by kernel_rfl) (by kernel_rfl) (RunsF.of (Runs.cells (fun b => Value.slice (some ⟨b, 0, none⟩) 1 1) #[Value.int .i64 y5] 3 (fun _ => by kernel_rfl) hW ?_)); clear hA ac hW; intro b7 w8 hW hb7 hfw8 ac hA
    refine stF hA (by kernel_rfl) (by kernel_rfl) (by kernel_rfl) (by kernel_rfl) (RunsF.of (Runs.appOwn (B := (some ⟨b7, 0, none⟩)) (k := 1) (E := 3) (sz := 1) (en := enI) (l := pre_) (m := ([y5] : List Int)) (i := 3) (by kernel_rfl) (by kernel_rfl) elt_I (by kernel_rfl) hW rfl (rowAt_cel ((hW).cel 0 rfl) ([y5] : List Int) (by rfl) elt_I.len) (by first | omega | (simp; done) | (simp; omega)) (by first | omega | (simp; done) | (simp; omega)) ?_)); clear hA ac hW; intro A9 c10 w11 hW hcc10 ac hA
    refine stF hA (by kernel_rfl) (by kernel_rfl) (by kernel_rfl) (by kernel_rfl) (RunsF.of (Runs.store (v := Value.slice A9 (pre_ ++ ([y5] : List Int)).length c10) (b := b1) (j := 0) (n := 1) (cs' := #[Value.slice A9 (pre_ ++ ([y5] : List Int)).length c10]) (H' := [Cel b7 #[Value.int .i64 y5] 3, bs_3, Cel b1 #[Value.slice A9 (pre_ ++ ([y5] : List Int)).length c10] 35, rowR 3 1 enI (Value.slice A9 (pre_ ++ ([y5] : List Int)).length c10) (pre_ ++ ([y5] : List Int))]) (by kernel_rfl) (by kernel_rfl) (by kernel_rfl) (by kernel_rfl) (by kernel_rfl) hW 2 (by rfl) (Nat.le_of_ble_eq_true (by kernel_rfl)) (by kernel_rfl) (by rfl) ?_)); clear hA ac hW; intro w12 hW ac hA
    refine wpListIn_nil ?_
    refine blkN ?_
    exact ⟨_, ⟨A9, c10, trivial, by exact hcc10, rfl⟩, (hW.pick [1, 2, 3] (by decide) rfl).pickG [0] rfl⟩
  · skip
    clear hA ac hW; intro D13 pre_ Hk_ w14 ac hS_ hJ_ hA hW
    obtain ⟨A, c, _, hcap, rfl⟩ := hJ_
    replace hW : Ws w No [Cel b1 #[Value.slice A pre_.length c] 35, rowR 3 1 enI (Value.slice A pre_.length c) pre_, DefR D13] [g_q] w14 := hW
    refine blkN ?_
    refine thenN ?_
    refine wpIn_seq ?_
    refine wpIn_region_lit ?_
    refine st_rdF (v := Value.slice A pre_.length c) hA (by kernel_rfl) (by kernel_rfl) (by kernel_rfl) (by kernel_rfl) hW.cls (Rd.load (b := b1) (i := 0) (by kernel_rfl) (fun _ hw => (hw.1).cel 0 rfl) (by kernel_rfl)) ?_; clear hA ac; intro ac hA
    refine st_rdF (v := Value.slice A pre_.length c) hA (by kernel_rfl) (by kernel_rfl) (by kernel_rfl) (by kernel_rfl) hW.cls (Rd.pure fun _ => by kernel_rfl) ?_; clear hA ac; intro ac hA
    refine wpListIn_nil ?_
    refine thenN ?_
    refine wpIn_ret ?_
    refine retF (.inl rfl) hA ?_
    refine leaveD (H' := [Cel b1 #[Value.slice A pre_.length c] 35, rowR 3 1 enI (Value.slice A pre_.length c) pre_]) hW 2 rfl rfl ?_; clear hW; intro w15 hW
    refine leave1 (v := Value.slice A pre_.length c) (by rfl) (GotF.tmp hA (by kernel_rfl) (by kernel_rfl)) ?_
    clear hA
    exact ⟨pre_, A, c, by first | rfl | (simp; done), by exact hS_, (own_cap ((hW).get 1 rfl)), hW.madeRow 1 rfl⟩
  · skip
    clear hA ac hW; intro D16 c_ pre_ Hk_ w17 ac hJ_ hA hW
    exact hJ_.elim

set_option maxRecDepth 100000 in
theorem e_col_47_62 (lb_q : Array Value) (g_q : Res) (Sx_q : List Int → Prop) (w : World) (hI_q : Iter Try.prog 62 lb_q (fun x_ : Int => #[Value.int .i64 x_]) Sx_q [g_q]) (hg_q : g_q.p w) (hgl_q : ∀ x_ ∈ g_q.fp, x_ < w.heap.size) (hb_ : ∀ l_, Sx_q l_ → l_.length ≤ 100000) : Calls Try.prog 47 #[Value.func (.func 62) #[] lb_q] w (fun e w' => ∃ ks : List Int, ∃ (A_o : Option Addr) (c_o : Nat), e = .returned (Value.slice A_o (ks).length c_o) ∧ (Sx_q ks) ∧ (ks).length ≤ c_o ∧ Made (rowR 3 1 enI (.slice A_o (ks).length c_o) ks) w w') := by
  have _hu := hb_; clear _hu
  refine enter_E 5 Try.func47 rfl rfl (by kernel_rfl) (L := [(0, Value.func (.func 62) #[] lb_q)]) (by kernel_rfl) ?_
  intro ac hA
  have hW := Ws.start w No
  have hW := hW.addG g_q hg_q hgl_q (by simp)
  refine wp_seq ?_
  refine wp_region_lit ?_
  refine st_rd (v := Value.slice none 0 0) hA (by kernel_rfl) (by kernel_rfl) (by kernel_rfl) hW.cls (Rd.pure fun _ => by kernel_rfl) ?_; clear hA ac; intro ac hA
  refine wpList_nil ?_
  refine thenN ?_
  refine wp_seq ?_
  refine wp_region_lit ?_
  refine st_rd (v := Value.func (.func 62) #[] lb_q) hA (by kernel_rfl) (by kernel_rfl) (by kernel_rfl) hW.cls (Rd.pure fun _ => by kernel_rfl) ?_; clear hA ac; intro ac hA
  refine st hA (by kernel_rfl) (by kernel_rfl) (by kernel_rfl) (Runs.call (fun _ => by kernel_rfl) (e_app_61_62 lb_q g_q Sx_q w hI_q ((hW).getG 0 rfl) ((hW).glt _ (List.mem_of_getElem? (i := 0) rfl)) (by assumption)) ?_)
  rintro _ w1 ⟨g2, Ao3, co4, rfl, hw1_hS, hcco4, hu_⟩; refine ⟨_, rfl, ?_⟩; replace hW := hW.made hu_; clear hA ac; intro ac hA
  refine st_rd (v := Value.slice Ao3 (g2).length co4) hA (by kernel_rfl) (by kernel_rfl) (by kernel_rfl) hW.cls (Rd.pure fun _ => by kernel_rfl) ?_; clear hA ac; intro ac hA
  refine wpList_nil ?_
  refine thenN ?_
  refine wp_ret ?_
  refine ret1 (v := Value.slice Ao3 (g2).length co4) (by rfl) hA (Got.tmp hA (by kernel_rfl) (by kernel_rfl)) ?_
  clear hA
  exact ⟨g2, Ao3, co4, by first | rfl | (simp; done), by assumption, (own_cap ((hW).get 0 rfl)), hW.madeRow 0 rfl⟩

set_option maxRecDepth 100000 in
theorem it_64 (b0 b1 : Nat) (m : List (Int × Mark)) : Iter Try.prog 64 #[Value.pointer (some ⟨b0, 0, none⟩)] (fun x_ : Int => #[Value.int .i64 x_]) (fun l_ => l_.Perm (keys m)) [Cel b0 #[Value.map (some b1)] 68, mapR b1 (fun a : Int => Value.int .i64 a) Mark.v m] := by
  intro l_ J_ Jx_ r0 w hOs_ hdis_ hR_ hJ0_ hp_ hlt_
  have hW := iterW hOs_ hdis_ hp_ hlt_; clear hOs_ hdis_ hp_ hlt_
  refine enter_F 14 Try.func64 rfl rfl (by kernel_rfl) (L := [(0, Value.func (.yield l_) #[] #[]), (1, Value.pointer (some ⟨b0, 0, none⟩))]) (by kernel_rfl) ?_
  intro ac hA
  refine wpIn_seq ?_
  refine wpIn_region_lit ?_
  refine st_rdF (v := Value.map (some b1)) hA (by kernel_rfl) (by kernel_rfl) (by kernel_rfl) (by kernel_rfl) hW.cls (Rd.load (b := b0) (i := 0) (by kernel_rfl) (fun _ hw => show _ = _ from (hw.1).getG 0 rfl) (by kernel_rfl)) ?_; clear hA ac; intro ac hA
  refine stF hA (by kernel_rfl) (by kernel_rfl) (by kernel_rfl) (by kernel_rfl) (RunsF.of (Runs.range (k := 3) (e := 32) (ek := (fun a : Int => Value.int .i64 a)) (ev := Mark.v) (m := m) (by kernel_rfl) (by kernel_rfl) hW 1 rfl ?_)); clear hA ac hW; intro r1 es2 ck3 w4 hnr1 hW hfw4 ac hA
  refine wpListIn_nil ?_
  refine thenN ?_
  refine wpIn_block ?_
  refine wpIn_loop_m (fun m_ ac_ wl_ => ∃ left : List (Int × Mark), ∃ cur : Option (Int × Mark), ∃ r_ : Res, ∃ pre : List Int, m_ = left.length ∧ (J_ pre r_) ∧ ((pre ++ left.map (·.1)).Perm (keys m)) ∧ Fm 14 [] [(0, Value.func (.yield l_) #[] #[]), (5, Value.pointer (some ⟨r1, 0, none⟩))] ac_ ∧ Ws w (· ∈ r0.fp) [IterX r1 b1 es2 ck3 (fun a : Int => Value.int .i64 a) Mark.v left cur, r_] [MapX b1 es2 ck3, Cel b0 #[Value.map (some b1)] 68, mapR b1 (fun a : Int => Value.int .i64 a) Mark.v m] wl_) _ ⟨m, none, r0, [], rfl, by exact hJ0_, by exact List.Perm.refl _, hA.sub ⟨⟨by kernel_rfl, by kernel_rfl⟩, ⟨by kernel_rfl, by kernel_rfl⟩, trivial⟩, (hW.pick [0, 1] (by decide) rfl).pickG [0, 1, 2] rfl⟩ ?_
  clear hA ac hW; rintro m_ ac w5 ⟨left, cur, r_, pre, rfl, hJ, hp, hA, hW⟩
  refine wpIn_seq ?_
  refine wpIn_region_lit ?_
  refine stF hA (by kernel_rfl) (by kernel_rfl) (by kernel_rfl) (by kernel_rfl) (RunsF.of (Runs.next (ek := (fun a : Int => Value.int .i64 a)) (ev := Mark.v) (r := r1) (b := b1) (es := es2) (clock := ck3) (left := left) (cur := cur) (by kernel_rfl) hnr1 hW 0 0 rfl rfl ?_ ?_))
  · skip
    intro hdoner1 ac hA
    refine st_rdF (v := Value.bool false) hA (by kernel_rfl) (by kernel_rfl) (by kernel_rfl) (by kernel_rfl) hW.cls (Rd.pure fun _ => by kernel_rfl) ?_; clear hA ac; intro ac hA
    refine wpListIn_nil ?_
    refine thenN ?_
    refine wpIn_seq ?_
    refine wpIn_cond_false (hA.eval (by kernel_rfl)) ?_
    refine wpIn_exit ?_
    refine thenX ?_
    refine thenX ?_
    refine blkX ?_
    refine retF (.inr rfl) hA ?_
    refine leave0 (by rfl)  ?_
    clear hA
    exact ranDone hW 1 rfl (.inl ⟨_, key_done hp hdoner1, hJ⟩)
  · skip
    clear hA ac; intro k6 y7 w8 hkk6 hW ac hA
    refine st_rdF (v := Value.bool true) hA (by kernel_rfl) (by kernel_rfl) (by kernel_rfl) (by kernel_rfl) hW.cls (Rd.pure fun _ => by kernel_rfl) ?_; clear hA ac; intro ac hA
    refine wpListIn_nil ?_
    refine thenN ?_
    refine wpIn_seq ?_
    refine wpIn_cond_true (hA.eval (by kernel_rfl)) ?_
    refine wpIn_skip ?_
    refine thenN ?_
    refine wpIn_block ?_
    refine wpIn_seq ?_
    refine wpIn_region_lit ?_
    refine st_rdF (v := Value.tuple #[Value.int .i64 y7.1, y7.2.v]) hA (by kernel_rfl) (by kernel_rfl) (by kernel_rfl) (by kernel_rfl) hW.cls (Rd.entry (ek := (fun a : Int => Value.int .i64 a)) (ev := Mark.v) (r := r1) (b := b1) (es := es2) (clock := ck3) (left := (List.eraseIdx left k6)) (y := y7) (by kernel_rfl) hnr1 (fun _ hw => show _ = _ from (hw.1).getG 0 rfl) (fun _ hw => (hw.1).get 0 rfl)) ?_; clear hA ac; intro ac hA
    refine st_rdF (v := Value.int .i64 y7.1) hA (by kernel_rfl) (by kernel_rfl) (by kernel_rfl) (by kernel_rfl) hW.cls (Rd.pure fun _ => by kernel_rfl) ?_; clear hA ac; intro ac hA
    refine st_rdF (v := Value.int .i64 y7.1) hA (by kernel_rfl) (by kernel_rfl) (by kernel_rfl) (by kernel_rfl) hW.cls (Rd.pure fun _ => by kernel_rfl) ?_; clear hA ac; intro ac hA
    refine wpListIn_nil ?_
    refine thenN ?_
    refine wpIn_seq ?_
    refine wpIn_region_lit ?_
    refine st_rdF (v := Value.func (.yield l_) #[] #[]) hA (by kernel_rfl) (by kernel_rfl) (by kernel_rfl) (by kernel_rfl) hW.cls (Rd.pure fun _ => by kernel_rfl) ?_; clear hA ac; intro ac hA
    refine st_rdF (v := Value.int .i64 y7.1) hA (by kernel_rfl) (by kernel_rfl) (by kernel_rfl) (by kernel_rfl) hW.cls (Rd.pure fun _ => by kernel_rfl) ?_; clear hA ac; intro ac hA
    refine stF hA (by kernel_rfl) (by kernel_rfl) (by kernel_rfl) (by kernel_rfl) (RunsF.yield hR_ (pre) (y7.1) (fun _ => by kernel_rfl) hW 1 rfl (comes_key hp hkk6) (hJ) hW.fr (hW.may _ (List.mem_of_getElem? (i := 1) rfl)) ?_); clear hA ac hW; intro v9 r10 w11 hv9t hv9f hW ac hA
    refine st_rdF (v := Value.bool (!v9)) hA (by kernel_rfl) (by kernel_rfl) (by kernel_rfl) (by kernel_rfl) hW.cls (Rd.pure fun _ => by kernel_rfl) ?_; clear hA ac; intro ac hA
    refine wpListIn_nil ?_
    refine thenN ?_
    refine wpIn_cond_split (t := !v9) (hA.eval (by kernel_rfl)) (fun h12 => ?_) (fun h12 => ?_)
    · skip
      have h12 := not_t h12
      first
      | (exfalso; clear hA hW; omega)
      | (
          refine wpIn_ret ?_
          refine blkR ?_
          refine thenR ?_
          refine blkR ?_
          refine retF (.inl rfl) hA ?_
          refine leave0 (by rfl)  ?_
          clear hA
          exact ranDone hW 1 rfl (.inr ⟨_, hv9f h12⟩))
    · skip
      have h12 := not_f h12
      first
      | (exfalso; clear hA hW; omega)
      | (
          refine wpIn_skip ?_
          refine blkN ?_
          refine thenN ?_
          have hJn := hv9t h12; have hlt_ := er_len_ hkk6
          exact ⟨(List.eraseIdx left k6).length, by omega, List.eraseIdx left k6, (some y7), r10, pre ++ [y7.1], rfl, by exact hJn, by exact key_step hp hkk6, hA.sub ⟨⟨by kernel_rfl, by kernel_rfl⟩, ⟨by kernel_rfl, by kernel_rfl⟩, trivial⟩, (hW.pick [0, 1] (by decide) rfl).pickG [0, 1, 2] rfl⟩)

set_option maxRecDepth 100000 in
theorem e_keys_52 (b : Nat) (h : List (Int × Mark)) (w : World) (ho_x : (mapR b (fun a : Int => Value.int .i64 a) Mark.v h).p w) : Calls Try.prog 52 #[Value.map (some b)] w (fun e w' => ∃ (lb : Array Value) (g : Res), e = .returned (Value.func (.func 64) #[] lb) ∧ Iter Try.prog 64 lb (fun x_ : Int => #[Value.int .i64 x_]) (fun l_ => l_.Perm (keys h)) [g] ∧ g.from_ [mapR b (fun a : Int => Value.int .i64 a) Mark.v h] w w' ∧ Fr No w w') := by
  have _hu := ho_x; clear _hu
  refine enter_E 4 Try.func52 rfl rfl (by kernel_rfl) (L := [(0, Value.map (some b))]) (by kernel_rfl) ?_
  intro ac hA
  have hW := Ws.start w No
  have hW := hW.mapG ho_x
  refine wp_seq ?_
  refine wp_region_lit ?_
  refine st hA (by kernel_rfl) (by kernel_rfl) (by kernel_rfl) (Runs.cells (fun b => Value.pointer (some ⟨b, 0, none⟩)) #[Value.map (some b)] 68 (fun _ => by kernel_rfl) hW ?_); clear hA ac hW; intro b1 w2 hW hb1 hfw2 ac hA
  refine st_rd (v := Value.nilFunc) hA (by kernel_rfl) (by kernel_rfl) (by kernel_rfl) hW.cls (Rd.pure fun _ => by kernel_rfl) ?_; clear hA ac; intro ac hA
  refine wpList_nil ?_
  refine thenN ?_
  refine wp_seq ?_
  refine wp_region_lit ?_
  refine st_rd (v := Value.func (.func 64) #[] #[Value.pointer (some ⟨b1, 0, none⟩)]) hA (by kernel_rfl) (by kernel_rfl) (by kernel_rfl) hW.cls (Rd.pure fun _ => by kernel_rfl) ?_; clear hA ac; intro ac hA
  refine st_rd (v := Value.func (.func 64) #[] #[Value.pointer (some ⟨b1, 0, none⟩)]) hA (by kernel_rfl) (by kernel_rfl) (by kernel_rfl) hW.cls (Rd.pure fun _ => by kernel_rfl) ?_; clear hA ac; intro ac hA
  refine wpList_nil ?_
  refine thenN ?_
  refine wp_ret ?_
  refine ret1 (v := Value.func (.func 64) #[] #[Value.pointer (some ⟨b1, 0, none⟩)]) (by rfl) hA (Got.tmp hA (by kernel_rfl) (by kernel_rfl)) ?_
  clear hA
  exact ⟨_, _, rfl, iter_many (it_64 b1 b h), from_many (froms_cons (hW.outOwn 0 rfl (fun _ h => h)) (froms_cons (hW.outArg 0 rfl (.head _)) froms_nil)), hW.fr⟩

set_option maxRecDepth 100000 in
theorem e_app_61_64 (lb_q : Array Value) (g_q : Res) (Sx_q : List Int → Prop) (w : World) (hI_q : Iter Try.prog 64 lb_q (fun x_ : Int => #[Value.int .i64 x_]) Sx_q [g_q]) (hg_q : g_q.p w) (hgl_q : ∀ x_ ∈ g_q.fp, x_ < w.heap.size) (hb_ : ∀ l_, Sx_q l_ → l_.length ≤ 100000) : Calls Try.prog 61 #[Value.slice none 0 0, Value.func (.func 64) #[] lb_q] w (fun e w' => ∃ ks : List Int, ∃ (A_o : Option Addr) (c_o : Nat), e = .returned (Value.slice A_o (ks).length c_o) ∧ (Sx_q ks) ∧ (ks).length ≤ c_o ∧ Made (rowR 3 1 enI (.slice A_o (ks).length c_o) ks) w w') := by
  have _hu := hb_; clear _hu
  refine enter_F 13 Try.func61 rfl rfl (by kernel_rfl) (L := [(0, Value.slice none 0 0), (1, Value.func (.func 64) #[] lb_q)]) (by kernel_rfl) ?_
  intro ac hA
  have hW := Ws.start w No
  have hW := hW.addG g_q hg_q hgl_q (by simp)
  refine wpIn_seq ?_
  refine wpIn_region_lit ?_
  refine stF hA (by kernel_rfl) (by kernel_rfl) (by kernel_rfl) (by kernel_rfl) (RunsF.of (Runs.cells (fun b => Value.pointer (some ⟨b, 0, none⟩)) #[Value.slice none 0 0] 35 (fun _ => by kernel_rfl) hW ?_)); clear hA ac hW; intro b1 w2 hW hb1 hfw2 ac hA
  refine st_rdF (v := Value.slice none 0 0) hA (by kernel_rfl) (by kernel_rfl) (by kernel_rfl) (by kernel_rfl) hW.cls (Rd.pure fun _ => by kernel_rfl) ?_; clear hA ac; intro ac hA
  refine wpListIn_nil ?_
  refine thenN ?_
  refine wpIn_seq ?_
  refine wpIn_seq ?_
  have hW := hW.addNil 3 1 enI
  refine wpIn_region_lit ?_
  refine st_rdF (v := Value.func (.func 64) #[] lb_q) hA (by kernel_rfl) (by kernel_rfl) (by kernel_rfl) (by kernel_rfl) hW.cls (Rd.pure fun _ => by kernel_rfl) ?_; clear hA ac; intro ac hA
  refine wpListIn_nil ?_
  refine thenN ?_
  refine wpIn_block ?_
  refine wp_range (encs := (fun x_ : Int => #[Value.int .i64 x_])) (Sx := Sx_q) hA (by kernel_rfl) (by kernel_rfl) (enters_of Try.func64 (by kernel_rfl) rfl) (by kernel_rfl) (fun _ => rfl) hI_q (List.forall_mem_singleton.2 (List.mem_of_getElem? (i := 0) rfl)) (fun pre_ H_ => ∃ A : Option Addr, ∃ c : Nat, True ∧ (pre_.length ≤ c) ∧ H_ = [Cel b1 #[Value.slice A pre_.length c] 35, rowR 3 1 enI (Value.slice A pre_.length c) pre_]) (fun _ _ _ => False) (H := [Cel b1 #[Value.slice none 0 0] 35, rowR 3 1 enI (Value.slice none 0 0) ([] : List Int)]) (K := []) (hW.pick [1, 0] (by decide) rfl) ⟨none, 0, trivial, by simp, rfl⟩ ?_ ?_ ?_
  · skip
    clear hA ac hW; intro l_3 rd_3 bs_3 pre_ x_ Hk_ w4 T_3 ac hrd_3 hbs_3 hbr_3 hok_ hJ_ hA hW hB_3 hT_3
    obtain ⟨A, c, _, hcap, rfl⟩ := hJ_
    obtain ⟨y5, h_⟩ : ∃ y_, y_ = x_ := ⟨_, rfl⟩; subst h_
    replace hA : Fm 13 [] [(0, Value.slice none 0 0), (1, Value.func (.func 64) #[] lb_q), (2, Value.pointer (some ⟨b1, 0, none⟩)), (4, Value.slice none 0 0), (6, Value.func (.func 64) #[] lb_q), (7, Value.int .i64 y5)] ac := hA.sub ⟨⟨by kernel_rfl, by kernel_rfl⟩, ⟨by kernel_rfl, by kernel_rfl⟩, ⟨by kernel_rfl, by kernel_rfl⟩, ⟨by kernel_rfl, by kernel_rfl⟩, ⟨by kernel_rfl, by kernel_rfl⟩, ⟨by kernel_rfl, by kernel_rfl⟩, trivial⟩
    have hpl_ := comes_lt hok_ hb_
    refine wpIn_region_lit ?_
    refine st_rdF (v := Value.int .i64 y5) hA (by kernel_rfl) (by kernel_rfl) (by kernel_rfl) (by kernel_rfl) hW.cls (Rd.pure fun _ => by kernel_rfl) ?_; clear hA ac; intro ac hA
    refine wpListIn_nil ?_
    refine thenN ?_
    refine begun (bs := bs_3) (H' := [bs_3, Cel b1 #[Value.slice A pre_.length c] 35, rowR 3 1 enI (Value.slice A pre_.length c) pre_]) hW 0 rfl (fun b hb => by rw [hbs_3] at hb; rw [hrd_3]; exact hb) rfl ?_; clear hW; intro w6 hW
    refine wpIn_block ?_
    refine wpIn_region_lit ?_
    refine st_rdF (v := Value.slice A pre_.length c) hA (by kernel_rfl) (by kernel_rfl) (by kernel_rfl) (by kernel_rfl) hW.cls (Rd.load (b := b1) (i := 0) (by kernel_rfl) (fun _ hw => (hw.1).cel 1 rfl) (by kernel_rfl)) ?_; clear hA ac; intro ac hA
    refine st_rdF (v := Value.int .i64 y5) hA (by kernel_rfl) (by kernel_rfl) (by kernel_rfl) (by kernel_rfl) hW.cls (Rd.pure fun _ => by kernel_rfl) ?_; clear hA ac; intro ac hA
    refine stF hA (by kernel_rfl) (by kernel_rfl) (by kernel_rfl) (by kernel_rfl) (RunsF.of (Runs.cells (fun b => Value.slice (some ⟨b, 0, none⟩) 1 1) #[Value.int .i64 y5] 3 (fun _ => by kernel_rfl) hW ?_)); clear hA ac hW; intro b7 w8 hW hb7 hfw8 ac hA
    refine stF hA (by kernel_rfl) (by kernel_rfl) (by kernel_rfl) (by kernel_rfl) (RunsF.of (Runs.appOwn (B := (some ⟨b7, 0, none⟩)) (k := 1) (E := 3) (sz := 1) (en := enI) (l := pre_) (m := ([y5] : List Int)) (i := 3) (by kernel_rfl) (by kernel_rfl) elt_I (by kernel_rfl) hW rfl (rowAt_cel ((hW).cel 0 rfl) ([y5] : List Int) (by rfl) elt_I.len) (by first | omega | (simp; done) | (simp; omega)) (by first | omega | (simp; done) | (simp; omega)) ?_)); clear hA ac hW; intro A9 c10 w11 hW hcc10 ac hA
    refine stF hA (by kernel_rfl) (by kernel_rfl) (by kernel_rfl) (by kernel_rfl) (RunsF.of (Runs.store (v := Value.slice A9 (pre_ ++ ([y5] : List Int)).length c10) (b := b1) (j := 0) (n := 1) (cs' := #[Value.slice A9 (pre_ ++ ([y5] : List Int)).length c10]) (H' := [Cel b7 #[Value.int .i64 y5] 3, bs_3, Cel b1 #[Value.slice A9 (pre_ ++ ([y5] : List Int)).length c10] 35, rowR 3 1 enI (Value.slice A9 (pre_ ++ ([y5] : List Int)).length c10) (pre_ ++ ([y5] : List Int))]) (by kernel_rfl) (by kernel_rfl) (by kernel_rfl) (by kernel_rfl) (by kernel_rfl) hW 2 (by rfl) (Nat.le_of_ble_eq_true (by kernel_rfl)) (by kernel_rfl) (by rfl) ?_)); clear hA ac hW; intro w12 hW ac hA
    refine wpListIn_nil ?_
    refine blkN ?_
    exact ⟨_, ⟨A9, c10, trivial, by exact hcc10, rfl⟩, (hW.pick [1, 2, 3] (by decide) rfl).pickG [0] rfl⟩
  · skip
    clear hA ac hW; intro D13 pre_ Hk_ w14 ac hS_ hJ_ hA hW
    obtain ⟨A, c, _, hcap, rfl⟩ := hJ_
    replace hW : Ws w No [Cel b1 #[Value.slice A pre_.length c] 35, rowR 3 1 enI (Value.slice A pre_.length c) pre_, DefR D13] [g_q] w14 := hW
    refine blkN ?_
    refine thenN ?_
    refine wpIn_seq ?_
    refine wpIn_region_lit ?_
    refine st_rdF (v := Value.slice A pre_.length c) hA (by kernel_rfl) (by kernel_rfl) (by kernel_rfl) (by kernel_rfl) hW.cls (Rd.load (b := b1) (i := 0) (by kernel_rfl) (fun _ hw => (hw.1).cel 0 rfl) (by kernel_rfl)) ?_; clear hA ac; intro ac hA
    refine st_rdF (v := Value.slice A pre_.length c) hA (by kernel_rfl) (by kernel_rfl) (by kernel_rfl) (by kernel_rfl) hW.cls (Rd.pure fun _ => by kernel_rfl) ?_; clear hA ac; intro ac hA
    refine wpListIn_nil ?_
    refine thenN ?_
    refine wpIn_ret ?_
    refine retF (.inl rfl) hA ?_
    refine leaveD (H' := [Cel b1 #[Value.slice A pre_.length c] 35, rowR 3 1 enI (Value.slice A pre_.length c) pre_]) hW 2 rfl rfl ?_; clear hW; intro w15 hW
    refine leave1 (v := Value.slice A pre_.length c) (by rfl) (GotF.tmp hA (by kernel_rfl) (by kernel_rfl)) ?_
    clear hA
    exact ⟨pre_, A, c, by first | rfl | (simp; done), by exact hS_, (own_cap ((hW).get 1 rfl)), hW.madeRow 1 rfl⟩
  · skip
    clear hA ac hW; intro D16 c_ pre_ Hk_ w17 ac hJ_ hA hW
    exact hJ_.elim

set_option maxRecDepth 100000 in
theorem e_col_47_64 (lb_q : Array Value) (g_q : Res) (Sx_q : List Int → Prop) (w : World) (hI_q : Iter Try.prog 64 lb_q (fun x_ : Int => #[Value.int .i64 x_]) Sx_q [g_q]) (hg_q : g_q.p w) (hgl_q : ∀ x_ ∈ g_q.fp, x_ < w.heap.size) (hb_ : ∀ l_, Sx_q l_ → l_.length ≤ 100000) : Calls Try.prog 47 #[Value.func (.func 64) #[] lb_q] w (fun e w' => ∃ ks : List Int, ∃ (A_o : Option Addr) (c_o : Nat), e = .returned (Value.slice A_o (ks).length c_o) ∧ (Sx_q ks) ∧ (ks).length ≤ c_o ∧ Made (rowR 3 1 enI (.slice A_o (ks).length c_o) ks) w w') := by
  have _hu := hb_; clear _hu
  refine enter_E 5 Try.func47 rfl rfl (by kernel_rfl) (L := [(0, Value.func (.func 64) #[] lb_q)]) (by kernel_rfl) ?_
  intro ac hA
  have hW := Ws.start w No
  have hW := hW.addG g_q hg_q hgl_q (by simp)
  refine wp_seq ?_
  refine wp_region_lit ?_
  refine st_rd (v := Value.slice none 0 0) hA (by kernel_rfl) (by kernel_rfl) (by kernel_rfl) hW.cls (Rd.pure fun _ => by kernel_rfl) ?_; clear hA ac; intro ac hA
  refine wpList_nil ?_
  refine thenN ?_
  refine wp_seq ?_
  refine wp_region_lit ?_
  refine st_rd (v := Value.func (.func 64) #[] lb_q) hA (by kernel_rfl) (by kernel_rfl) (by kernel_rfl) hW.cls (Rd.pure fun _ => by kernel_rfl) ?_; clear hA ac; intro ac hA
  refine st hA (by kernel_rfl) (by kernel_rfl) (by kernel_rfl) (Runs.call (fun _ => by kernel_rfl) (e_app_61_64 lb_q g_q Sx_q w hI_q ((hW).getG 0 rfl) ((hW).glt _ (List.mem_of_getElem? (i := 0) rfl)) (by assumption)) ?_)
  rintro _ w1 ⟨g2, Ao3, co4, rfl, hw1_hS, hcco4, hu_⟩; refine ⟨_, rfl, ?_⟩; replace hW := hW.made hu_; clear hA ac; intro ac hA
  refine st_rd (v := Value.slice Ao3 (g2).length co4) hA (by kernel_rfl) (by kernel_rfl) (by kernel_rfl) hW.cls (Rd.pure fun _ => by kernel_rfl) ?_; clear hA ac; intro ac hA
  refine wpList_nil ?_
  refine thenN ?_
  refine wp_ret ?_
  refine ret1 (v := Value.slice Ao3 (g2).length co4) (by rfl) hA (Got.tmp hA (by kernel_rfl) (by kernel_rfl)) ?_
  clear hA
  exact ⟨g2, Ao3, co4, by first | rfl | (simp; done), by assumption, (own_cap ((hW).get 0 rfl)), hW.madeRow 0 rfl⟩

set_option maxRecDepth 100000 in
theorem itn_64 (b0 : Nat) : Iter Try.prog 64 #[Value.pointer (some ⟨b0, 0, none⟩)] (fun x_ : Int => #[Value.int .i64 x_]) (fun l_ => l_ = ([] : List Int)) [Cel b0 #[Value.map none] 68] := by
  intro l_ J_ Jx_ r0 w hOs_ hdis_ hR_ hJ0_ hp_ hlt_
  have hW := iterW hOs_ hdis_ hp_ hlt_; clear hOs_ hdis_ hp_ hlt_
  refine enter_F 14 Try.func64 rfl rfl (by kernel_rfl) (L := [(0, Value.func (.yield l_) #[] #[]), (1, Value.pointer (some ⟨b0, 0, none⟩))]) (by kernel_rfl) ?_
  intro ac hA
  refine wpIn_seq ?_
  refine wpIn_region_lit ?_
  refine st_rdF (v := Value.map none) hA (by kernel_rfl) (by kernel_rfl) (by kernel_rfl) (by kernel_rfl) hW.cls (Rd.load (b := b0) (i := 0) (by kernel_rfl) (fun _ hw => show _ = _ from (hw.1).getG 0 rfl) (by kernel_rfl)) ?_; clear hA ac; intro ac hA
  refine stF hA (by kernel_rfl) (by kernel_rfl) (by kernel_rfl) (by kernel_rfl) (RunsF.of (Runs.rangeNil (k := 3) (e := 32) (by kernel_rfl) (by kernel_rfl) hW ?_)); clear hA ac hW; intro r1 w2 hW hfw2 ac hA
  refine wpListIn_nil ?_
  refine thenN ?_
  refine wpIn_block ?_
  refine wpIn_loop_rounds 1 ?_
  rw [roundsIn_succ]
  refine wpIn_seq ?_
  refine wpIn_region_lit ?_
  refine st_rdF (v := Value.tuple #[Value.bool false]) hA (by kernel_rfl) (by kernel_rfl) (by kernel_rfl) (by kernel_rfl) hW.cls (Rd.nextNil (by kernel_rfl) (fun _ hw => (hw.1).get 0 rfl)) ?_; clear hA ac; intro ac hA
  refine st_rdF (v := Value.bool false) hA (by kernel_rfl) (by kernel_rfl) (by kernel_rfl) (by kernel_rfl) hW.cls (Rd.pure fun _ => by kernel_rfl) ?_; clear hA ac; intro ac hA
  refine wpListIn_nil ?_
  refine thenN ?_
  refine wpIn_seq ?_
  refine wpIn_cond_false (hA.eval (by kernel_rfl)) ?_
  refine wpIn_exit ?_
  refine thenX ?_
  refine thenX ?_
  refine blkX ?_
  refine retF (.inr rfl) hA ?_
  refine leave0 (by rfl)  ?_
  clear hA
  exact ranDone hW 1 rfl (.inl ⟨_, rfl, hJ0_⟩)

set_option maxRecDepth 100000 in
theorem e_keysn_52  (w : World)  : Calls Try.prog 52 #[Value.map none] w (fun e w' => ∃ (lb : Array Value) (g : Res), e = .returned (Value.func (.func 64) #[] lb) ∧ Iter Try.prog 64 lb (fun x_ : Int => #[Value.int .i64 x_]) (fun l_ => l_ = ([] : List Int)) [g] ∧ g.from_ [] w w' ∧ Fr No w w') := by
  refine enter_E 4 Try.func52 rfl rfl (by kernel_rfl) (L := [(0, Value.map none)]) (by kernel_rfl) ?_
  intro ac hA
  have hW := Ws.start w No
  refine wp_seq ?_
  refine wp_region_lit ?_
  refine st hA (by kernel_rfl) (by kernel_rfl) (by kernel_rfl) (Runs.cells (fun b => Value.pointer (some ⟨b, 0, none⟩)) #[Value.map none] 68 (fun _ => by kernel_rfl) hW ?_); clear hA ac hW; intro b1 w2 hW hb1 hfw2 ac hA
  refine st_rd (v := Value.nilFunc) hA (by kernel_rfl) (by kernel_rfl) (by kernel_rfl) hW.cls (Rd.pure fun _ => by kernel_rfl) ?_; clear hA ac; intro ac hA
  refine wpList_nil ?_
  refine thenN ?_
  refine wp_seq ?_
  refine wp_region_lit ?_
  refine st_rd (v := Value.func (.func 64) #[] #[Value.pointer (some ⟨b1, 0, none⟩)]) hA (by kernel_rfl) (by kernel_rfl) (by kernel_rfl) hW.cls (Rd.pure fun _ => by kernel_rfl) ?_; clear hA ac; intro ac hA
  refine st_rd (v := Value.func (.func 64) #[] #[Value.pointer (some ⟨b1, 0, none⟩)]) hA (by kernel_rfl) (by kernel_rfl) (by kernel_rfl) hW.cls (Rd.pure fun _ => by kernel_rfl) ?_; clear hA ac; intro ac hA
  refine wpList_nil ?_
  refine thenN ?_
  refine wp_ret ?_
  refine ret1 (v := Value.func (.func 64) #[] #[Value.pointer (some ⟨b1, 0, none⟩)]) (by rfl) hA (Got.tmp hA (by kernel_rfl) (by kernel_rfl)) ?_
  clear hA
  exact ⟨_, _, rfl, iter_many (itn_64 b1), from_many (froms_cons (hW.outOwn 0 rfl (fun _ h => h)) froms_nil), hW.fr⟩

set_option maxRecDepth 100000 in
theorem it_54 (b : Nat) (A : Option Addr) (c : Nat) (l : List Int) (hc : l.length ≤ c) (hl : l.length ≤ 1000000) : Iter Try.prog 54 #[Value.pointer (some ⟨b, 0, none⟩)] (fun x_ : Int => #[Value.int .i64 x_]) (· = l) [Cel b #[Value.slice A l.length c] 35, roR A 1 enI l] := by
  intro l_ J_ Jx_ r0 w hOs_ hdis_ hR_ hJ0_ hp_ hlt_
  have hW := iterW hOs_ hdis_ hp_ hlt_; clear hOs_ hdis_ hp_ hlt_
  have _hu := hc; clear _hu
  have _hu := hl; clear _hu
  refine enter_F 16 Try.func54 rfl rfl (by kernel_rfl) (L := [(0, Value.func (.yield l_) #[] #[]), (1, Value.pointer (some ⟨b, 0, none⟩))]) (by kernel_rfl) ?_
  intro ac hA
  refine wpIn_seq ?_
  refine wpIn_region_lit ?_
  refine st_rdF (v := Value.slice A l.length c) hA (by kernel_rfl) (by kernel_rfl) (by kernel_rfl) (by kernel_rfl) hW.cls (Rd.load (b := b) (i := 0) (by kernel_rfl) (fun _ hw => show _ = _ from (hw.1).getG 0 rfl) (by kernel_rfl)) ?_; clear hA ac; intro ac hA
  refine st_rdF (v := Value.int .i64 ((l.length : Nat) : Int)) hA (by kernel_rfl) (by kernel_rfl) (by kernel_rfl) (by kernel_rfl) hW.cls (Rd.pure fun _ => by kernel_rfl) ?_; clear hA ac; intro ac hA
  refine st_rdF (v := Value.int .i64 0) hA (by kernel_rfl) (by kernel_rfl) (by kernel_rfl) (by kernel_rfl) hW.cls (Rd.pure fun _ => by kernel_rfl) ?_; clear hA ac; intro ac hA
  refine wpListIn_nil ?_
  refine thenN ?_
  refine wpIn_block ?_
  refine wpIn_loop_m (fun m_ ac_ wl_ => ∃ k : Nat, ∃ r_ : Res, m_ = l.length - k ∧ (k ≤ l.length) ∧ (J_ (l.take k) r_) ∧ Fm 16 [] [(0, Value.func (.yield l_) #[] #[]), (5, Value.slice A l.length c), (6, Value.int .i64 ((l.length : Nat) : Int)), (7, Value.int .i64 ((k : Nat) : Int))] ac_ ∧ Ws w (· ∈ r0.fp) [r_] [Cel b #[Value.slice A l.length c] 35, roR A 1 enI l] wl_) _ ⟨0, r0, rfl, by omega, by exact hJ0_, hA.sub ⟨⟨by kernel_rfl, by kernel_rfl⟩, ⟨by kernel_rfl, by kernel_rfl⟩, ⟨by kernel_rfl, by kernel_rfl⟩, ⟨by kernel_rfl, by kernel_rfl⟩, trivial⟩, (hW.pick [0] (by decide) rfl).pickG [0, 1] rfl⟩ ?_
  clear hA ac hW; rintro m_ ac w1 ⟨k, r_, rfl, hk, hJ, hA, hW⟩
  refine wpIn_seq ?_
  refine wpIn_region_lit ?_
  refine st_rdF (v := Value.bool (decide ((((k : Nat) : Int) : Int) < (((l.length : Nat) : Int) : Int)))) hA (by kernel_rfl) (by kernel_rfl) (by kernel_rfl) (by kernel_rfl) hW.cls (Rd.pure fun _ => by kernel_rfl) ?_; clear hA ac; intro ac hA
  refine wpListIn_nil ?_
  refine thenN ?_
  refine wpIn_seq ?_
  refine wpIn_cond_split (t := decide ((((k : Nat) : Int) : Int) < (((l.length : Nat) : Int) : Int))) (hA.eval (by kernel_rfl)) (fun h2 => ?_) (fun h2 => ?_)
  · skip
    have h2 := of_decide_eq_true h2
    first
    | (exfalso; clear hA hW; omega)
    | (
        refine wpIn_skip ?_
        refine thenN ?_
        refine wpIn_seq ?_
        refine wpIn_block ?_
        refine wpIn_seq ?_
        refine wpIn_region_lit ?_
        obtain ⟨y3, hy3⟩ : ∃ y, l[k]? = some y := ⟨_, List.getElem?_eq_getElem (by first | omega | (simp; done) | (simp; omega))⟩
        obtain ⟨b4, o5, rfl, hbb4⟩ := row_some ((hW).getG 1 rfl) hy3
        refine st_rdF (v := Value.pointer (some ⟨b4, o5 + k * 1, none⟩)) hA (by kernel_rfl) (by kernel_rfl) (by kernel_rfl) (by kernel_rfl) hW.cls (Rd.indexAddr (e := 3) (sz := 1) (b := b4) (off := o5) (n := l.length) (c := c) (k := k) (by kernel_rfl) (by kernel_rfl) (by first | omega | (simp; done) | (simp; omega)) (fun _ => by kernel_rfl) (fun _ => by kernel_rfl)) ?_; clear hA ac; intro ac hA
        refine st_rdF (v := Value.int .i64 y3) hA (by kernel_rfl) (by kernel_rfl) (by kernel_rfl) (by kernel_rfl) hW.cls (Rd.loadRow (b := b4) (i := o5 + k * 1) (xs := [Value.int .i64 y3]) (by kernel_rfl) (fun _ hw => row_ld ((hw.1).getG 1 rfl) hy3 (Fr.refl No _) (fun h => h) 0 1 (by kernel_rfl)) (by kernel_rfl)) ?_; clear hA ac; intro ac hA
        refine st_rdF (v := Value.int .i64 y3) hA (by kernel_rfl) (by kernel_rfl) (by kernel_rfl) (by kernel_rfl) hW.cls (Rd.pure fun _ => by kernel_rfl) ?_; clear hA ac; intro ac hA
        refine wpListIn_nil ?_
        refine thenN ?_
        refine wpIn_seq ?_
        refine wpIn_region_lit ?_
        refine st_rdF (v := Value.func (.yield l_) #[] #[]) hA (by kernel_rfl) (by kernel_rfl) (by kernel_rfl) (by kernel_rfl) hW.cls (Rd.pure fun _ => by kernel_rfl) ?_; clear hA ac; intro ac hA
        refine st_rdF (v := Value.int .i64 y3) hA (by kernel_rfl) (by kernel_rfl) (by kernel_rfl) (by kernel_rfl) hW.cls (Rd.pure fun _ => by kernel_rfl) ?_; clear hA ac; intro ac hA
        refine stF hA (by kernel_rfl) (by kernel_rfl) (by kernel_rfl) (by kernel_rfl) (RunsF.yield hR_ (l.take k) (y3) (fun _ => by kernel_rfl) hW 0 rfl (comes_atL hy3) (hJ) hW.fr (hW.may _ (List.mem_of_getElem? (i := 0) rfl)) ?_); clear hA ac hW; intro v6 r7 w8 hv6t hv6f hW ac hA
        refine st_rdF (v := Value.bool (!v6)) hA (by kernel_rfl) (by kernel_rfl) (by kernel_rfl) (by kernel_rfl) hW.cls (Rd.pure fun _ => by kernel_rfl) ?_; clear hA ac; intro ac hA
        refine wpListIn_nil ?_
        refine thenN ?_
        refine wpIn_cond_split (t := !v6) (hA.eval (by kernel_rfl)) (fun h9 => ?_) (fun h9 => ?_)
        · skip
          have h9 := not_t h9
          first
          | (exfalso; clear hA hW; omega)
          | (
              refine wpIn_ret ?_
              refine blkR ?_
              refine thenR ?_
              refine thenR ?_
              refine blkR ?_
              refine retF (.inl rfl) hA ?_
              refine leave0 (by rfl)  ?_
              clear hA
              exact ranDone hW 0 rfl (.inr ⟨_, hv6f h9⟩))
        · skip
          have h9 := not_f h9
          first
          | (exfalso; clear hA hW; omega)
          | (
              refine wpIn_skip ?_
              refine blkN ?_
              refine thenN ?_
              refine wpIn_region_lit ?_
              refine st_rdF (v := Value.int .i64 ((k + 1 : Nat) : Int)) hA (by kernel_rfl) (by kernel_rfl) (by kernel_rfl) (by kernel_rfl) hW.cls (Rd.pureE (v0 := Value.int .i64 (IntKind.i64.wrap ((((k : Nat) : Int) : Int) + 1))) (fun _ => by kernel_rfl) (congrArg (Value.int .i64) ((w_i64 (x := (((k : Nat) : Int) : Int) + 1) (by omega) (by omega)).trans (by omega)))) ?_; clear hA ac; intro ac hA
              refine st_rdF (v := Value.int .i64 ((k + 1 : Nat) : Int)) hA (by kernel_rfl) (by kernel_rfl) (by kernel_rfl) (by kernel_rfl) hW.cls (Rd.pure fun _ => by kernel_rfl) ?_; clear hA ac; intro ac hA
              refine wpListIn_nil ?_
              refine thenN ?_
              have hJn := hv6t h9; rw [← tk_snoc hy3] at hJn
              exact ⟨l.length - (k + 1), by omega, k + 1, r7, rfl, by omega, by exact hJn, hA.sub ⟨⟨by kernel_rfl, by kernel_rfl⟩, ⟨by kernel_rfl, by kernel_rfl⟩, ⟨by kernel_rfl, by kernel_rfl⟩, ⟨by kernel_rfl, by kernel_rfl⟩, trivial⟩, (hW.pick [0] (by decide) rfl).pickG [0, 1] rfl⟩))
  · skip
    have h2 := of_decide_eq_false h2
    first
    | (exfalso; clear hA hW; omega)
    | (
        refine wpIn_exit ?_
        refine thenX ?_
        refine thenX ?_
        refine blkX ?_
        refine retF (.inr rfl) hA ?_
        refine leave0 (by rfl)  ?_
        clear hA
        rw [List.take_of_length_le (by omega)] at hJ; exact ranDone hW 0 rfl (.inl ⟨_, rfl, hJ⟩))

set_option maxRecDepth 100000 in
theorem e_values_i64 (A_l : Option Addr) (c_l : Nat) (l : List Int) (w : World) (hr_l : RowAt w A_l 1 enI l) (hc_l : l.length ≤ c_l) (hl : l.length ≤ 1000000) : Calls Try.prog 32 #[Value.slice A_l l.length c_l] w (fun e w' => ∃ (lb : Array Value) (g : Res), e = .returned (Value.func (.func 54) #[] lb) ∧ Iter Try.prog 54 lb (fun x_ : Int => #[Value.int .i64 x_]) (· = l) [g] ∧ g.from_ [roR A_l 1 enI l] w w' ∧ Fr No w w') := by
  have _hu := hc_l; have _hv := hr_l; clear _hu _hv
  have _hu := hl; clear _hu
  refine enter_E 4 Try.func32 rfl rfl (by kernel_rfl) (L := [(0, Value.slice A_l l.length c_l)]) (by kernel_rfl) ?_
  intro ac hA
  have hW := Ws.start w No
  have hW := hW.arg hr_l
  refine wp_seq ?_
  refine wp_region_lit ?_
  refine st hA (by kernel_rfl) (by kernel_rfl) (by kernel_rfl) (Runs.cells (fun b => Value.pointer (some ⟨b, 0, none⟩)) #[Value.slice A_l l.length c_l] 35 (fun _ => by kernel_rfl) hW ?_); clear hA ac hW; intro b1 w2 hW hb1 hfw2 ac hA
  refine st_rd (v := Value.nilFunc) hA (by kernel_rfl) (by kernel_rfl) (by kernel_rfl) hW.cls (Rd.pure fun _ => by kernel_rfl) ?_; clear hA ac; intro ac hA
  refine wpList_nil ?_
  refine thenN ?_
  refine wp_seq ?_
  refine wp_region_lit ?_
  refine st_rd (v := Value.func (.func 54) #[] #[Value.pointer (some ⟨b1, 0, none⟩)]) hA (by kernel_rfl) (by kernel_rfl) (by kernel_rfl) hW.cls (Rd.pure fun _ => by kernel_rfl) ?_; clear hA ac; intro ac hA
  refine st_rd (v := Value.func (.func 54) #[] #[Value.pointer (some ⟨b1, 0, none⟩)]) hA (by kernel_rfl) (by kernel_rfl) (by kernel_rfl) hW.cls (Rd.pure fun _ => by kernel_rfl) ?_; clear hA ac; intro ac hA
  refine wpList_nil ?_
  refine thenN ?_
  refine wp_ret ?_
  refine ret1 (v := Value.func (.func 54) #[] #[Value.pointer (some ⟨b1, 0, none⟩)]) (by rfl) hA (Got.tmp hA (by kernel_rfl) (by kernel_rfl)) ?_
  clear hA
  exact ⟨_, _, rfl, iter_many (it_54 b1 _ _ l hc_l hl), from_many (froms_cons (hW.outOwn 0 rfl (fun _ h => h)) (froms_cons (hW.outArg 0 rfl (.head _)) froms_nil)), hW.fr⟩

end Go.Proofs.Ytobbocpacacnhaa.L
