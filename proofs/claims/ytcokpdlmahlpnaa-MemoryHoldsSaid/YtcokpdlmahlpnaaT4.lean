/- Contracts, walked by program over the engine's laws. -/
import Derived.Test.YtcokpdlmahlpnaaProg
import Derived.Test.YtcokpdlmahlpnaaSort06
namespace Go.Proofs.Ytcokpdlmahlpnaa.L
open Go.RowKit

theorem outs_len {κ γ : Type} {V : List (κ × Nat × γ)} : (outs V).length = V.length := by simp [outs]
theorem vals_len {κ γ : Type} {V : List (κ × Nat × γ)} : (vals V).length = V.length := by simp [vals]
/-- The words of a page that are not 0, from an address on: the first so many places. -/
def pgC (frm n : Int) (f : Nat → Int) (i : Nat) : List Cell6 := (List.range i).filterMap fun j : Nat => if f j ≠ 0 ∧ frm ≤ n * 4096 + (j : Int) then some ⟨n * 4096 + (j : Int), f j⟩ else none
theorem pgC_yes {frm n : Int} {f : Nat → Int} {i : Nat} (h1 : f i ≠ 0) (h2 : frm ≤ n * 4096 + (i : Int)) : pgC frm n f (i + 1) = pgC frm n f i ++ [⟨n * 4096 + (i : Int), f i⟩] := by
  unfold pgC; rw [List.range_succ, List.filterMap_append]; simp [h1, h2]
theorem pgC_no {frm n : Int} {f : Nat → Int} {i : Nat} (h : ¬ (f i ≠ 0 ∧ frm ≤ n * 4096 + (i : Int))) : pgC frm n f (i + 1) = pgC frm n f i := by
  unfold pgC; rw [List.range_succ, List.filterMap_append]; simp only [List.filterMap_cons, if_neg h]; simp
theorem pgC_len (frm n : Int) (f : Nat → Int) (i : Nat) : (pgC frm n f i).length ≤ i := by
  unfold pgC
  exact Nat.le_trans (List.length_filterMap_le _ _) (by simp)
/-- The words of a memory, page by page. -/
def cellsOf (M : List (Int × (Nat → Int))) (frm : Int) (ks : List Int) : List Cell6 := ks.flatMap fun n => pgC frm n ((look M n).getD fun _ => 0) 4096
theorem cellsOf_snoc {M : List (Int × (Nat → Int))} {frm : Int} {ks : List Int} {k : Nat} {y : Int} {f : Nat → Int} (h : ks[k]? = some y) (hf : look M y = some f) : cellsOf M frm (ks.take (k + 1)) = cellsOf M frm (ks.take k) ++ pgC frm y f 4096 := by
  unfold cellsOf; rw [tk_snoc h, List.flatMap_append]; simp [hf]
set_option maxRecDepth 100000 in
theorem it_58 (b0 b1 : Nat) (m : List (Int × Nat)) : Iter Try.prog 58 #[Value.pointer (some ⟨b0, 0, none⟩)] (fun x_ : Int => #[Value.int .u32 x_]) (fun l_ => l_.Perm (keys m)) [Cel b0 #[Value.map (some b1)] 52, mapR b1 (fun a : Int => Value.int .u32 a) (fun x_ : Nat => Value.pointer (some ⟨x_, 0, none⟩)) m] := by
 intro l_ J_ Jx_ r0 w hOs_ hdis_ hR_ hJ0_ hp_ hlt_
 have hW := iterW hOs_ hdis_ hp_ hlt_; clear hOs_ hdis_ hp_ hlt_
 refine enter_F 14 Try.func58 rfl rfl (by kernel_rfl) (L := [(0, Value.func (.yield l_) #[] #[]), (1, Value.pointer (some ⟨b0, 0, none⟩))]) (by kernel_rfl) ?_
 intro ac hA
 refine wpIn_seq ?_
 refine wpIn_region_lit ?_
 refine st_rdF (v := Value.map (some b1)) hA (by kernel_rfl) (by kernel_rfl) (by kernel_rfl) (by kernel_rfl) hW.cls (Rd.load (b := b0) (i := 0) (by kernel_rfl) (fun _ hw => show _ = _ from (hw.1).getG 0 rfl) (by kernel_rfl)) ?_; clear hA ac; intro ac hA
 refine stF hA (by kernel_rfl) (by kernel_rfl) (by kernel_rfl) (by kernel_rfl) (RunsF.of (Runs.range (k := 28) (e := 62) (ek := (fun a : Int => Value.int .u32 a)) (ev := (fun x_ : Nat => Value.pointer (some ⟨x_, 0, none⟩))) (m := m) (by kernel_rfl) (by kernel_rfl) hW 1 rfl ?_)); clear hA ac hW; intro r1 es2 ck3 w4 hnr1 hW hfw4 ac hA
 refine wpListIn_nil ?_
 refine thenN ?_
 refine wpIn_block ?_
 refine wpIn_loop_m (fun m_ ac_ wl_ => ∃ left : List (Int × Nat), ∃ cur : Option (Int × Nat), ∃ r_ : Res, ∃ pre : List Int, m_ = left.length ∧ (J_ pre r_) ∧ ((pre ++ left.map (·.1)).Perm (keys m)) ∧ Fm 14 [] [(0, Value.func (.yield l_) #[] #[]), (5, Value.pointer (some ⟨r1, 0, none⟩))] ac_ ∧ Ws w (· ∈ r0.fp) [IterX r1 b1 es2 ck3 (fun a : Int => Value.int .u32 a) (fun x_ : Nat => Value.pointer (some ⟨x_, 0, none⟩)) left cur, r_] [MapX b1 es2 ck3, Cel b0 #[Value.map (some b1)] 52, mapR b1 (fun a : Int => Value.int .u32 a) (fun x_ : Nat => Value.pointer (some ⟨x_, 0, none⟩)) m] wl_) _ ⟨m, none, r0, [], rfl, by exact hJ0_, by exact List.Perm.refl _, hA.sub ⟨⟨by kernel_rfl, by kernel_rfl⟩, ⟨by kernel_rfl, by kernel_rfl⟩, trivial⟩, (hW.pick [0, 1] (by decide) rfl).pickG [0, 1, 2] rfl⟩ ?_
 clear hA ac hW; rintro m_ ac w5 ⟨left, cur, r_, pre, rfl, hJ, hp, hA, hW⟩
 refine wpIn_seq ?_
 refine wpIn_region_lit ?_
 refine stF hA (by kernel_rfl) (by kernel_rfl) (by kernel_rfl) (by kernel_rfl) (RunsF.of (Runs.next (ek := (fun a : Int => Value.int .u32 a)) (ev := (fun x_ : Nat => Value.pointer (some ⟨x_, 0, none⟩))) (r := r1) (b := b1) (es := es2) (clock := ck3) (left := left) (cur := cur) (by kernel_rfl) hnr1 hW 0 0 rfl rfl ?_ ?_))
 · skip
   intro hdoner1 ac hA
   refine st_rdF (v := Value.bool false) hA (by kernel_rfl) (by kernel_rfl) (by kernel_rfl) (by kernel_rfl) hW.cls (Rd.pure fun _ => by kernel_rfl) ?_; clear hA ac; intro ac hA
   refine wpListIn_nil ?_
   refine thenN ?_
   refine wpIn_seq ?_
   refine wpIn_cond_false (hA.eval (by kernel_rfl)) ?_
   refine wpIn_exit ?_
   refine thenX ?_
   refine thenX ?_
   refine blkX ?_
   refine retF (.inr rfl) hA ?_
   refine leave0 (by rfl)  ?_
   clear hA
   exact ranDone hW 1 rfl (.inl ⟨_, key_done hp hdoner1, hJ⟩)
 · skip
   clear hA ac; intro k6 y7 w8 hkk6 hW ac hA
   refine st_rdF (v := Value.bool true) hA (by kernel_rfl) (by kernel_rfl) (by kernel_rfl) (by kernel_rfl) hW.cls (Rd.pure fun _ => by kernel_rfl) ?_; clear hA ac; intro ac hA
   refine wpListIn_nil ?_
   refine thenN ?_
   refine wpIn_seq ?_
   refine wpIn_cond_true (hA.eval (by kernel_rfl)) ?_
   refine wpIn_skip ?_
   refine thenN ?_
   refine wpIn_block ?_
   refine wpIn_seq ?_
   refine wpIn_region_lit ?_
   refine st_rdF (v := Value.tuple #[Value.int .u32 y7.1, Value.pointer (some ⟨y7.2, 0, none⟩)]) hA (by kernel_rfl) (by kernel_rfl) (by kernel_rfl) (by kernel_rfl) hW.cls (Rd.entry (ek := (fun a : Int => Value.int .u32 a)) (ev := (fun x_ : Nat => Value.pointer (some ⟨x_, 0, none⟩))) (r := r1) (b := b1) (es := es2) (clock := ck3) (left := (List.eraseIdx left k6)) (y := y7) (by kernel_rfl) hnr1 (fun _ hw => show _ = _ from (hw.1).getG 0 rfl) (fun _ hw => (hw.1).get 0 rfl)) ?_; clear hA ac; intro ac hA
   refine st_rdF (v := Value.int .u32 y7.1) hA (by kernel_rfl) (by kernel_rfl) (by kernel_rfl) (by kernel_rfl) hW.cls (Rd.pure fun _ => by kernel_rfl) ?_; clear hA ac; intro ac hA
   refine st_rdF (v := Value.int .u32 y7.1) hA (by kernel_rfl) (by kernel_rfl) (by kernel_rfl) (by kernel_rfl) hW.cls (Rd.pure fun _ => by kernel_rfl) ?_; clear hA ac; intro ac hA
   refine wpListIn_nil ?_
   refine thenN ?_
   refine wpIn_seq ?_
   refine wpIn_region_lit ?_
   refine st_rdF (v := Value.func (.yield l_) #[] #[]) hA (by kernel_rfl) (by kernel_rfl) (by kernel_rfl) (by kernel_rfl) hW.cls (Rd.pure fun _ => by kernel_rfl) ?_; clear hA ac; intro ac hA
   refine st_rdF (v := Value.int .u32 y7.1) hA (by kernel_rfl) (by kernel_rfl) (by kernel_rfl) (by kernel_rfl) hW.cls (Rd.pure fun _ => by kernel_rfl) ?_; clear hA ac; intro ac hA
   refine stF hA (by kernel_rfl) (by kernel_rfl) (by kernel_rfl) (by kernel_rfl) (RunsF.yield hR_ (pre) (y7.1) (fun _ => by kernel_rfl) hW 1 rfl (comes_key hp hkk6) (hJ) hW.fr (hW.may _ (List.mem_of_getElem? (i := 1) rfl)) ?_); clear hA ac hW; intro v9 r10 w11 hv9t hv9f hW ac hA
   refine st_rdF (v := Value.bool (!v9)) hA (by kernel_rfl) (by kernel_rfl) (by kernel_rfl) (by kernel_rfl) hW.cls (Rd.pure fun _ => by kernel_rfl) ?_; clear hA ac; intro ac hA
   refine wpListIn_nil ?_
   refine thenN ?_
   refine wpIn_cond_split (t := !v9) (hA.eval (by kernel_rfl)) (fun h12 => ?_) (fun h12 => ?_)
   · skip
     have h12 := not_t h12
     first
     | (exfalso; clear hA hW; omega)
     | (
       refine wpIn_ret ?_
       refine blkR ?_
       refine thenR ?_
       refine blkR ?_
       refine retF (.inl rfl) hA ?_
       refine leave0 (by rfl)  ?_
       clear hA
       exact ranDone hW 1 rfl (.inr ⟨_, hv9f h12⟩))
   · skip
     have h12 := not_f h12
     first
     | (exfalso; clear hA hW; omega)
     | (
       refine wpIn_skip ?_
       refine blkN ?_
       refine thenN ?_
       have hJn := hv9t h12; have hlt_ := er_len_ hkk6
       exact ⟨(List.eraseIdx left k6).length, by omega, List.eraseIdx left k6, (some y7), r10, pre ++ [y7.1], rfl, by exact hJn, by exact key_step hp hkk6, hA.sub ⟨⟨by kernel_rfl, by kernel_rfl⟩, ⟨by kernel_rfl, by kernel_rfl⟩, trivial⟩, (hW.pick [0, 1] (by decide) rfl).pickG [0, 1, 2] rfl⟩)

set_option maxRecDepth 100000 in
theorem e_keys_51 (b : Nat) (h : List (Int × Nat)) (w : World) (ho_x : (mapR b (fun a : Int => Value.int .u32 a) (fun x_ : Nat => Value.pointer (some ⟨x_, 0, none⟩)) h).p w) : Calls Try.prog 51 #[Value.map (some b)] w (fun e w' => ∃ (lb : Array Value) (g : Res), e = .returned (Value.func (.func 58) #[] lb) ∧ Iter Try.prog 58 lb (fun x_ : Int => #[Value.int .u32 x_]) (fun l_ => l_.Perm (keys h)) [g] ∧ g.from_ [mapR b (fun a : Int => Value.int .u32 a) (fun x_ : Nat => Value.pointer (some ⟨x_, 0, none⟩)) h] w w' ∧ Fr No w w') := by
 have _hu := ho_x; clear _hu
 refine enter_E 4 Try.func51 rfl rfl (by kernel_rfl) (L := [(0, Value.map (some b))]) (by kernel_rfl) ?_
 intro ac hA
 have hW := Ws.start w No
 have hW := hW.mapG ho_x
 refine wp_seq ?_
 refine wp_region_lit ?_
 refine st hA (by kernel_rfl) (by kernel_rfl) (by kernel_rfl) (Runs.cells (fun b => Value.pointer (some ⟨b, 0, none⟩)) #[Value.map (some b)] 52 (fun _ => by kernel_rfl) hW ?_); clear hA ac hW; intro b1 w2 hW hb1 hfw2 ac hA
 refine st_rd (v := Value.nilFunc) hA (by kernel_rfl) (by kernel_rfl) (by kernel_rfl) hW.cls (Rd.pure fun _ => by kernel_rfl) ?_; clear hA ac; intro ac hA
 refine wpList_nil ?_
 refine thenN ?_
 refine wp_seq ?_
 refine wp_region_lit ?_
 refine st_rd (v := Value.func (.func 58) #[] #[Value.pointer (some ⟨b1, 0, none⟩)]) hA (by kernel_rfl) (by kernel_rfl) (by kernel_rfl) hW.cls (Rd.pure fun _ => by kernel_rfl) ?_; clear hA ac; intro ac hA
 refine st_rd (v := Value.func (.func 58) #[] #[Value.pointer (some ⟨b1, 0, none⟩)]) hA (by kernel_rfl) (by kernel_rfl) (by kernel_rfl) hW.cls (Rd.pure fun _ => by kernel_rfl) ?_; clear hA ac; intro ac hA
 refine wpList_nil ?_
 refine thenN ?_
 refine wp_ret ?_
 refine ret1 (v := Value.func (.func 58) #[] #[Value.pointer (some ⟨b1, 0, none⟩)]) (by rfl) hA (Got.tmp hA (by kernel_rfl) (by kernel_rfl)) ?_
 clear hA
 exact ⟨_, _, rfl, iter_many (it_58 b1 b h), from_many (froms_cons (hW.outOwn 0 rfl (fun _ h => h)) (froms_cons (hW.outArg 0 rfl (.head _)) froms_nil)), hW.fr⟩

set_option maxRecDepth 100000 in
theorem e_app_57_58 (lb_q : Array Value) (g_q : Res) (Sx_q : List Int → Prop) (w : World) (hI_q : Iter Try.prog 58 lb_q (fun x_ : Int => #[Value.int .u32 x_]) Sx_q [g_q]) (hg_q : g_q.p w) (hgl_q : ∀ x_ ∈ g_q.fp, x_ < w.heap.size) (hb_ : ∀ l_, Sx_q l_ → l_.length ≤ 100000) : Calls Try.prog 57 #[Value.slice none 0 0, Value.func (.func 58) #[] lb_q] w (fun e w' => ∃ ks : List Int, ∃ (A_o : Option Addr) (c_o : Nat), e = .returned (Value.slice A_o (ks).length c_o) ∧ (Sx_q ks) ∧ (ks).length ≤ c_o ∧ Made (rowR 28 1 enU4 (.slice A_o (ks).length c_o) ks) w w') := by
 have _hu := hb_; clear _hu
 refine enter_F 13 Try.func57 rfl rfl (by kernel_rfl) (L := [(0, Value.slice none 0 0), (1, Value.func (.func 58) #[] lb_q)]) (by kernel_rfl) ?_
 intro ac hA
 have hW := Ws.start w No
 have hW := hW.addG g_q hg_q hgl_q (by simp)
 refine wpIn_seq ?_
 refine wpIn_region_lit ?_
 refine stF hA (by kernel_rfl) (by kernel_rfl) (by kernel_rfl) (by kernel_rfl) (RunsF.of (Runs.cells (fun b => Value.pointer (some ⟨b, 0, none⟩)) #[Value.slice none 0 0] 55 (fun _ => by kernel_rfl) hW ?_)); clear hA ac hW; intro b1 w2 hW hb1 hfw2 ac hA
 refine st_rdF (v := Value.slice none 0 0) hA (by kernel_rfl) (by kernel_rfl) (by kernel_rfl) (by kernel_rfl) hW.cls (Rd.pure fun _ => by kernel_rfl) ?_; clear hA ac; intro ac hA
 refine wpListIn_nil ?_
 refine thenN ?_
 refine wpIn_seq ?_
 refine wpIn_seq ?_
 have hW := hW.addNil 28 1 enU4
 refine wpIn_region_lit ?_
 refine st_rdF (v := Value.func (.func 58) #[] lb_q) hA (by kernel_rfl) (by kernel_rfl) (by kernel_rfl) (by kernel_rfl) hW.cls (Rd.pure fun _ => by kernel_rfl) ?_; clear hA ac; intro ac hA
 refine wpListIn_nil ?_
 refine thenN ?_
 refine wpIn_block ?_
 refine wp_range (encs := (fun x_ : Int => #[Value.int .u32 x_])) (Sx := Sx_q) hA (by kernel_rfl) (by kernel_rfl) (enters_of Try.func58 (by kernel_rfl) rfl) (by kernel_rfl) (fun _ => rfl) hI_q (List.forall_mem_singleton.2 (List.mem_of_getElem? (i := 0) rfl)) (fun pre_ H_ => ∃ A : Option Addr, ∃ c : Nat, True ∧ (pre_.length ≤ c) ∧ H_ = [Cel b1 #[Value.slice A pre_.length c] 55, rowR 28 1 enU4 (Value.slice A pre_.length c) pre_]) (fun _ _ _ => False) (H := [Cel b1 #[Value.slice none 0 0] 55, rowR 28 1 enU4 (Value.slice none 0 0) ([] : List Int)]) (K := []) (hW.pick [1, 0] (by decide) rfl) ⟨none, 0, trivial, by simp, rfl⟩ ?_ ?_ ?_
 · skip
   clear hA ac hW; intro l_3 rd_3 bs_3 pre_ x_ Hk_ w4 T_3 ac hrd_3 hbs_3 hbr_3 hok_ hJ_ hA hW hB_3 hT_3
   obtain ⟨A, c, _, hcap, rfl⟩ := hJ_
   obtain ⟨y5, h_⟩ : ∃ y_, y_ = x_ := ⟨_, rfl⟩; subst h_
   replace hA : Fm 13 [] [(0, Value.slice none 0 0), (1, Value.func (.func 58) #[] lb_q), (2, Value.pointer (some ⟨b1, 0, none⟩)), (4, Value.slice none 0 0), (6, Value.func (.func 58) #[] lb_q), (7, Value.int .u32 y5)] ac := hA.sub ⟨⟨by kernel_rfl, by kernel_rfl⟩, ⟨by kernel_rfl, by kernel_rfl⟩, ⟨by kernel_rfl, by kernel_rfl⟩, ⟨by kernel_rfl, by kernel_rfl⟩, ⟨by kernel_rfl, by kernel_rfl⟩, ⟨by kernel_rfl, by kernel_rfl⟩, trivial⟩
   have hpl_ := comes_lt hok_ hb_
   refine wpIn_region_lit ?_
   refine st_rdF (v := Value.int .u32 y5) hA (by kernel_rfl) (by kernel_rfl) (by kernel_rfl) (by kernel_rfl) hW.cls (Rd.pure fun _ => by kernel_rfl) ?_; clear hA ac; intro ac hA
   refine wpListIn_nil ?_
   refine thenN ?_
   refine begun (bs := bs_3) (H' := [bs_3, Cel b1 #[Value.slice A pre_.length c] 55, rowR 28 1 enU4 (Value.slice A pre_.length c) pre_]) hW 0 rfl (fun b hb => by rw [hbs_3] at hb; rw [hrd_3]; exact hb) rfl ?_; clear hW; intro w6 hW
   refine wpIn_block ?_
   refine wpIn_region_lit ?_
   refine st_rdF (v := Value.slice A pre_.length c) hA (by kernel_rfl) (by kernel_rfl) (by kernel_rfl) (by kernel_rfl) hW.cls (Rd.load (b := b1) (i := 0) (by kernel_rfl) (fun _ hw => (hw.1).cel 1 rfl) (by kernel_rfl)) ?_; clear hA ac; intro ac hA
   refine st_rdF (v := Value.int .u32 y5) hA (by kernel_rfl) (by kernel_rfl) (by kernel_rfl) (by kernel_rfl) hW.cls (Rd.pure fun _ => by kernel_rfl) ?_; clear hA ac; intro ac hA
   refine stF hA (by kernel_rfl) (by kernel_rfl) (by kernel_rfl) (by kernel_rfl) (RunsF.of (Runs.cells (fun b => Value.slice (some ⟨b, 0, none⟩) 1 1) #[Value.int .u32 y5] 28 (fun _ => by kernel_rfl) hW ?_)); clear hA ac hW; intro b7 w8 hW hb7 hfw8 ac hA
   refine stF hA (by kernel_rfl) (by kernel_rfl) (by kernel_rfl) (by kernel_rfl) (RunsF.of (Runs.appOwn (B := (some ⟨b7, 0, none⟩)) (k := 1) (E := 28) (sz := 1) (en := enU4) (l := pre_) (m := ([y5] : List Int)) (i := 3) (by kernel_rfl) (by kernel_rfl) elt_U4 (by kernel_rfl) hW rfl (rowAt_cel ((hW).cel 0 rfl) ([y5] : List Int) (by rfl) elt_U4.len) (by first | omega | (simp; done) | (simp; omega)) (by first | omega | (simp; done) | (simp; omega)) ?_)); clear hA ac hW; intro A9 c10 w11 hW hcc10 ac hA
   refine stF hA (by kernel_rfl) (by kernel_rfl) (by kernel_rfl) (by kernel_rfl) (RunsF.of (Runs.store (v := Value.slice A9 (pre_ ++ ([y5] : List Int)).length c10) (b := b1) (j := 0) (n := 1) (cs' := #[Value.slice A9 (pre_ ++ ([y5] : List Int)).length c10]) (H' := [Cel b7 #[Value.int .u32 y5] 28, bs_3, Cel b1 #[Value.slice A9 (pre_ ++ ([y5] : List Int)).length c10] 55, rowR 28 1 enU4 (Value.slice A9 (pre_ ++ ([y5] : List Int)).length c10) (pre_ ++ ([y5] : List Int))]) (by kernel_rfl) (by kernel_rfl) (by kernel_rfl) (by kernel_rfl) (by kernel_rfl) hW 2 (by rfl) (Nat.le_of_ble_eq_true (by kernel_rfl)) (by kernel_rfl) (by rfl) ?_)); clear hA ac hW; intro w12 hW ac hA
   refine wpListIn_nil ?_
   refine blkN ?_
   exact ⟨_, ⟨A9, c10, trivial, by exact hcc10, rfl⟩, (hW.pick [1, 2, 3] (by decide) rfl).pickG [0] rfl⟩
 · skip
   clear hA ac hW; intro D13 pre_ Hk_ w14 ac hS_ hJ_ hA hW
   obtain ⟨A, c, _, hcap, rfl⟩ := hJ_
   replace hW : Ws w No [Cel b1 #[Value.slice A pre_.length c] 55, rowR 28 1 enU4 (Value.slice A pre_.length c) pre_, DefR D13] [g_q] w14 := hW
   refine blkN ?_
   refine thenN ?_
   refine wpIn_seq ?_
   refine wpIn_region_lit ?_
   refine st_rdF (v := Value.slice A pre_.length c) hA (by kernel_rfl) (by kernel_rfl) (by kernel_rfl) (by kernel_rfl) hW.cls (Rd.load (b := b1) (i := 0) (by kernel_rfl) (fun _ hw => (hw.1).cel 0 rfl) (by kernel_rfl)) ?_; clear hA ac; intro ac hA
   refine st_rdF (v := Value.slice A pre_.length c) hA (by kernel_rfl) (by kernel_rfl) (by kernel_rfl) (by kernel_rfl) hW.cls (Rd.pure fun _ => by kernel_rfl) ?_; clear hA ac; intro ac hA
   refine wpListIn_nil ?_
   refine thenN ?_
   refine wpIn_ret ?_
   refine retF (.inl rfl) hA ?_
   refine leaveD (H' := [Cel b1 #[Value.slice A pre_.length c] 55, rowR 28 1 enU4 (Value.slice A pre_.length c) pre_]) hW 2 rfl rfl ?_; clear hW; intro w15 hW
   refine leave1 (v := Value.slice A pre_.length c) (by rfl) (GotF.tmp hA (by kernel_rfl) (by kernel_rfl)) ?_
   clear hA
   exact ⟨pre_, A, c, by first | rfl | (simp; done), by exact hS_, (own_cap ((hW).get 1 rfl)), hW.madeRow 1 rfl⟩
 · skip
   clear hA ac hW; intro D16 c_ pre_ Hk_ w17 ac hJ_ hA hW
   exact hJ_.elim

set_option maxRecDepth 100000 in
theorem e_col_50_58 (lb_q : Array Value) (g_q : Res) (Sx_q : List Int → Prop) (w : World) (hI_q : Iter Try.prog 58 lb_q (fun x_ : Int => #[Value.int .u32 x_]) Sx_q [g_q]) (hg_q : g_q.p w) (hgl_q : ∀ x_ ∈ g_q.fp, x_ < w.heap.size) (hb_ : ∀ l_, Sx_q l_ → l_.length ≤ 100000) : Calls Try.prog 50 #[Value.func (.func 58) #[] lb_q] w (fun e w' => ∃ ks : List Int, ∃ (A_o : Option Addr) (c_o : Nat), e = .returned (Value.slice A_o (ks).length c_o) ∧ (Sx_q ks) ∧ (ks).length ≤ c_o ∧ Made (rowR 28 1 enU4 (.slice A_o (ks).length c_o) ks) w w') := by
 have _hu := hb_; clear _hu
 refine enter_E 5 Try.func50 rfl rfl (by kernel_rfl) (L := [(0, Value.func (.func 58) #[] lb_q)]) (by kernel_rfl) ?_
 intro ac hA
 have hW := Ws.start w No
 have hW := hW.addG g_q hg_q hgl_q (by simp)
 refine wp_seq ?_
 refine wp_region_lit ?_
 refine st_rd (v := Value.slice none 0 0) hA (by kernel_rfl) (by kernel_rfl) (by kernel_rfl) hW.cls (Rd.pure fun _ => by kernel_rfl) ?_; clear hA ac; intro ac hA
 refine wpList_nil ?_
 refine thenN ?_
 refine wp_seq ?_
 refine wp_region_lit ?_
 refine st_rd (v := Value.func (.func 58) #[] lb_q) hA (by kernel_rfl) (by kernel_rfl) (by kernel_rfl) hW.cls (Rd.pure fun _ => by kernel_rfl) ?_; clear hA ac; intro ac hA
 refine st hA (by kernel_rfl) (by kernel_rfl) (by kernel_rfl) (Runs.call (fun _ => by kernel_rfl) (e_app_57_58 lb_q g_q Sx_q w hI_q ((hW).getG 0 rfl) ((hW).glt _ (List.mem_of_getElem? (i := 0) rfl)) (by assumption)) ?_)
 rintro _ w1 ⟨g2, Ao3, co4, rfl, hw1_hS, hcco4, hu_⟩; refine ⟨_, rfl, ?_⟩; replace hW := hW.made hu_; clear hA ac; intro ac hA
 refine st_rd (v := Value.slice Ao3 (g2).length co4) hA (by kernel_rfl) (by kernel_rfl) (by kernel_rfl) hW.cls (Rd.pure fun _ => by kernel_rfl) ?_; clear hA ac; intro ac hA
 refine wpList_nil ?_
 refine thenN ?_
 refine wp_ret ?_
 refine ret1 (v := Value.slice Ao3 (g2).length co4) (by rfl) hA (Got.tmp hA (by kernel_rfl) (by kernel_rfl)) ?_
 clear hA
 exact ⟨g2, Ao3, co4, by first | rfl | (simp; done), by assumption, (own_cap ((hW).get 0 rfl)), hW.madeRow 0 rfl⟩

set_option maxRecDepth 100000 in
theorem e_mrising (b : Nat) (h : List (Int × Nat)) (w : World) (ho_x : (mapR b (fun a : Int => Value.int .u32 a) (fun x_ : Nat => Value.pointer (some ⟨x_, 0, none⟩)) h).p w) (hl : h.length ≤ 100000) (hb : ∀ x ∈ h, 0 ≤ x.1 ∧ x.1 ≤ 1048575) : Calls Try.prog 40 #[Value.map (some b)] w (fun e w' => ∃ ks : List Int, ∃ (A_o : Option Addr) (c_o : Nat), e = .returned (Value.slice A_o (ks).length c_o) ∧ (ks.Perm (keys h)) ∧ (ks.Pairwise fun x y => x ≤ y) ∧ (ks).length ≤ c_o ∧ Made (rowR 28 1 enU4 (.slice A_o (ks).length c_o) ks) w w') := by
 have _hu := ho_x; clear _hu
 have _hu := hl; clear _hu
 have _hu := hb; clear _hu
 refine enter_E 7 Try.func40 rfl rfl (by kernel_rfl) (L := [(0, Value.map (some b))]) (by kernel_rfl) ?_
 intro ac hA
 have hW := Ws.start w No
 have hW := hW.mapG ho_x
 refine wp_seq ?_
 refine wp_region_lit ?_
 refine st_rd (v := Value.slice none 0 0) hA (by kernel_rfl) (by kernel_rfl) (by kernel_rfl) hW.cls (Rd.pure fun _ => by kernel_rfl) ?_; clear hA ac; intro ac hA
 refine wpList_nil ?_
 refine thenN ?_
 refine wp_seq ?_
 refine wp_region_lit ?_
 refine st_rd (v := Value.map (some b)) hA (by kernel_rfl) (by kernel_rfl) (by kernel_rfl) hW.cls (Rd.pure fun _ => by kernel_rfl) ?_; clear hA ac; intro ac hA
 refine st hA (by kernel_rfl) (by kernel_rfl) (by kernel_rfl) ((Runs.call (fun _ => by kernel_rfl) (e_keys_51 b h w ((hW).getG 0 rfl)) ?_))
 rintro _ w1 ⟨lb2, g3, rfl, hIg3, hfg3, hfw1⟩; refine ⟨_, rfl, ?_⟩; have hW0 := hW; have hW := hW0.call hfw1; have hW := hW0.addFromAt hW hfg3 (in_cons (in_at 0 rfl) in_nil); clear hW0 hA ac; intro ac hA
 refine st hA (by kernel_rfl) (by kernel_rfl) (by kernel_rfl) (Runs.call (fun _ => by kernel_rfl) (e_col_50_58 lb2 g3 (fun l_ => l_.Perm (keys h)) w1 hIg3 ((hW).getG 0 rfl) ((hW).glt _ (List.mem_of_getElem? (i := 0) rfl)) (fun l_ h_ => by have h2_ := h_.length_eq; simp only [keys, List.length_map] at h2_; omega)) ?_)
 rintro _ w4 ⟨g5, Ao6, co7, rfl, hw4_hS, hcco7, hu_⟩; refine ⟨_, rfl, ?_⟩; replace hW := hW.made hu_; clear hA ac; intro ac hA
 refine st hA (by kernel_rfl) (by kernel_rfl) (by kernel_rfl) (Runs.call (fun _ => by kernel_rfl) (e_sorted0 (A := Ao6) (c := co7) (l := g5) w4 (hW.get 0 rfl) (by have h_ := hw4_hS.length_eq; simp only [keys, List.length_map] at h_; omega) (fun x hx => by have h_ := (hw4_hS.mem_iff (a := x)).1 hx; simp only [keys, List.mem_map] at h_; obtain ⟨q_, hq_, rfl⟩ := h_; have := hb q_ hq_; omega)) ?_)
 rintro _ w9 ⟨rfl, l10, hperm_, hsort_, hu_⟩; refine ⟨_, rfl, ?_⟩; have hlen_ := hperm_.length_eq; replace hW := hW.upd 0 rfl hu_ rfl; rw [← hlen_] at hW ⊢; clear hA ac; intro ac hA
 refine st_rd (v := Value.slice Ao6 l10.length co7) hA (by kernel_rfl) (by kernel_rfl) (by kernel_rfl) hW.cls (Rd.pure fun _ => by kernel_rfl) ?_; clear hA ac; intro ac hA
 refine wpList_nil ?_
 refine thenN ?_
 refine wp_ret ?_
 refine ret1 (v := Value.slice Ao6 l10.length co7) (by rfl) hA (Got.tmp hA (by kernel_rfl) (by kernel_rfl)) ?_
 clear hA
 exact ⟨l10, Ao6, co7, by first | rfl | (simp; done), by exact hperm_.trans hw4_hS, by exact hsort_, (own_cap ((hW).get 0 rfl)), hW.madeRow 0 rfl⟩

set_option maxRecDepth 100000 in
theorem e_mpages (m : Nat) (b : Nat) (V : VT6) (w : World) (ho_p : (MemR m b V).p w) (hl_p : ∀ x_ ∈ (MemR m b V).fp, x_ < w.heap.size) (hl : V.length ≤ 100) (hh : ∀ e ∈ V, 0 ≤ e.1 ∧ e.1 ≤ 1048575) : Calls Try.prog 24 #[Value.pointer (some ⟨m, 0, none⟩)] w (fun e w' => ∃ ks : List Int, ∃ (A_o : Option Addr) (c_o : Nat), e = .returned (Value.slice A_o (ks).length c_o) ∧ (ks.Perm (keys (vals V))) ∧ (ks.Pairwise fun x y => x ≤ y) ∧ (ks).length ≤ c_o ∧ Made (rowR 28 1 enU4 (.slice A_o (ks).length c_o) ks) w w') := by
 have _hu := ho_p; have _hv := hl_p; clear _hu _hv
 have _hu := hl; clear _hu
 have _hu := hh; clear _hu
 refine enter_E 10 Try.func24 rfl rfl (by kernel_rfl) (L := [(0, Value.pointer (some ⟨m, 0, none⟩))]) (by kernel_rfl) ?_
 intro ac hA
 have hW := Ws.start w No
 have hW := hW.objG (L := [Cel m #[Value.map (some b)] 54, mapR b (fun a : Int => Value.int .u32 a) (fun x_ : Nat => Value.pointer (some ⟨x_, 0, none⟩)) (outs V), SubR (fun (c_ : Nat → Int) (b_ : Nat) => PgR .u32 4096 64 c_ b_) V]) ho_p hl_p
 clear ho_p hl_p
 refine wp_seq ?_
 refine wp_region_lit ?_
 refine st_rd (v := Value.slice none 0 0) hA (by kernel_rfl) (by kernel_rfl) (by kernel_rfl) hW.cls (Rd.pure fun _ => by kernel_rfl) ?_; clear hA ac; intro ac hA
 refine wpList_nil ?_
 refine thenN ?_
 refine wp_seq ?_
 refine wp_seq ?_
 refine wp_region_lit ?_
 refine st_rd (v := Value.pointer (some ⟨m, 0, none⟩)) hA (by kernel_rfl) (by kernel_rfl) (by kernel_rfl) hW.cls (Rd.pure fun _ => by kernel_rfl) ?_; clear hA ac; intro ac hA
 refine st hA (by kernel_rfl) (by kernel_rfl) (by kernel_rfl) (Runs.callS (v := Value.bool false) (fun _ => by kernel_rfl) (e_mnone m b w (show _ = _ from (hW).getG 0 rfl)) ?_); clear hA ac; intro  ac hA
 refine wpList_nil ?_
 refine thenN ?_
 refine wp_cond_false (hA.eval (by kernel_rfl)) ?_
 refine wp_skip ?_
 refine thenN ?_
 refine wp_seq ?_
 refine wp_region_lit ?_
 refine st_rd (v := Value.pointer (some ⟨m, 0, none⟩)) hA (by kernel_rfl) (by kernel_rfl) (by kernel_rfl) hW.cls (Rd.pure fun _ => by kernel_rfl) ?_; clear hA ac; intro ac hA
 refine st_rd (v := Value.pointer (some ⟨m, 0, none⟩)) hA (by kernel_rfl) (by kernel_rfl) (by kernel_rfl) hW.cls (Rd.pure fun _ => by kernel_rfl) ?_; clear hA ac; intro ac hA
 refine st_rd (v := Value.pointer (some ⟨m, 0, none⟩)) hA (by kernel_rfl) (by kernel_rfl) (by kernel_rfl) hW.cls (Rd.pure fun _ => by kernel_rfl) ?_; clear hA ac; intro ac hA
 refine st_rd (v := Value.map (some b)) hA (by kernel_rfl) (by kernel_rfl) (by kernel_rfl) hW.cls (Rd.load (b := m) (i := 0) (by kernel_rfl) (fun _ hw => show _ = _ from (hw.1).getG 0 rfl) (by kernel_rfl)) ?_; clear hA ac; intro ac hA
 refine st hA (by kernel_rfl) (by kernel_rfl) (by kernel_rfl) (Runs.call (fun _ => by kernel_rfl) (e_mrising b (outs V) w ((hW).getG 1 rfl) (by first | omega | assumption | (rw [outs_len]; omega) | (intro x hx; simp only [outs, List.mem_map] at hx; obtain ⟨e_, he_, rfl⟩ := hx; exact hh e_ he_)) (by first | omega | assumption | (rw [outs_len]; omega) | (intro x hx; simp only [outs, List.mem_map] at hx; obtain ⟨e_, he_, rfl⟩ := hx; exact hh e_ he_))) ?_)
 rintro _ w1 ⟨g2, Ao3, co4, rfl, hw1_hp, hw1_hs, hcco4, hu_⟩; refine ⟨_, rfl, ?_⟩; replace hW := hW.made hu_; clear hA ac; intro ac hA
 refine st_rd (v := Value.slice Ao3 (g2).length co4) hA (by kernel_rfl) (by kernel_rfl) (by kernel_rfl) hW.cls (Rd.pure fun _ => by kernel_rfl) ?_; clear hA ac; intro ac hA
 refine wpList_nil ?_
 refine thenN ?_
 refine wp_ret ?_
 refine ret1 (v := Value.slice Ao3 (g2).length co4) (by rfl) hA (Got.tmp hA (by kernel_rfl) (by kernel_rfl)) ?_
 clear hA
 exact ⟨g2, Ao3, co4, by first | rfl | (simp; done), by rw [← keys_outs]; exact hw1_hp, by exact hw1_hs, (own_cap ((hW).get 0 rfl)), hW.madeRow 0 rfl⟩

set_option maxRecDepth 100000 in
theorem e_cells (m : Nat) (b : Nat) (V : VT6) (frm : Int) (w : World) (ho_p : (MemR m b V).p w) (hl_p : ∀ x_ ∈ (MemR m b V).fp, x_ < w.heap.size) (hl : V.length ≤ 100) (hh : ∀ e ∈ V, 0 ≤ e.1 ∧ e.1 ≤ 1048575) (hf : 0 ≤ frm ∧ frm ≤ 4294967295) : Calls Try.prog 33 #[Value.pointer (some ⟨m, 0, none⟩), Value.int .u32 frm] w (fun e w' => ∃ ks : List Int, ∃ O_ : List Cell6, ∃ (A_o : Option Addr) (c_o : Nat), e = .returned (Value.slice A_o (O_).length c_o) ∧ (ks.Perm (keys (vals V))) ∧ (ks.Pairwise fun x y => x ≤ y) ∧ (O_ = cellsOf (vals V) frm ks) ∧ (O_).length ≤ c_o ∧ Made (rowR 30 2 enCell6 (.slice A_o (O_).length c_o) O_) w w') := by
 have _hu := ho_p; have _hv := hl_p; clear _hu _hv
 have _hu := hl; clear _hu
 have _hu := hh; clear _hu
 have _hu := hf; clear _hu
 refine enter_E 56 Try.func33 rfl rfl (by kernel_rfl) (L := [(0, Value.pointer (some ⟨m, 0, none⟩)), (1, Value.int .u32 frm)]) (by kernel_rfl) ?_
 intro ac hA
 have hW := Ws.start w No
 have hW := hW.objG (L := [Cel m #[Value.map (some b)] 54, mapR b (fun a : Int => Value.int .u32 a) (fun x_ : Nat => Value.pointer (some ⟨x_, 0, none⟩)) (outs V), SubR (fun (c_ : Nat → Int) (b_ : Nat) => PgR .u32 4096 64 c_ b_) V]) ho_p hl_p
 clear ho_p hl_p
 refine wp_seq ?_
 refine wp_region_lit ?_
 refine st_rd (v := Value.slice none 0 0) hA (by kernel_rfl) (by kernel_rfl) (by kernel_rfl) hW.cls (Rd.pure fun _ => by kernel_rfl) ?_; clear hA ac; intro ac hA
 refine wpList_nil ?_
 refine thenN ?_
 refine wp_seq ?_
 refine wp_seq ?_
 refine wp_region_lit ?_
 refine st_rd (v := Value.pointer (some ⟨m, 0, none⟩)) hA (by kernel_rfl) (by kernel_rfl) (by kernel_rfl) hW.cls (Rd.pure fun _ => by kernel_rfl) ?_; clear hA ac; intro ac hA
 refine st hA (by kernel_rfl) (by kernel_rfl) (by kernel_rfl) (Runs.callS (v := Value.bool false) (fun _ => by kernel_rfl) (e_mnone m b w (show _ = _ from (hW).getG 0 rfl)) ?_); clear hA ac; intro  ac hA
 refine wpList_nil ?_
 refine thenN ?_
 refine wp_cond_false (hA.eval (by kernel_rfl)) ?_
 refine wp_skip ?_
 refine thenN ?_
 refine wp_seq ?_
 refine wp_seq ?_
 refine wp_region_lit ?_
 refine st_rd (v := Value.pointer (some ⟨m, 0, none⟩)) hA (by kernel_rfl) (by kernel_rfl) (by kernel_rfl) hW.cls (Rd.pure fun _ => by kernel_rfl) ?_; clear hA ac; intro ac hA
 refine st_rd (v := Value.pointer (some ⟨m, 0, none⟩)) hA (by kernel_rfl) (by kernel_rfl) (by kernel_rfl) hW.cls (Rd.pure fun _ => by kernel_rfl) ?_; clear hA ac; intro ac hA
 refine st_rd (v := Value.pointer (some ⟨m, 0, none⟩)) hA (by kernel_rfl) (by kernel_rfl) (by kernel_rfl) hW.cls (Rd.pure fun _ => by kernel_rfl) ?_; clear hA ac; intro ac hA
 refine st_rd (v := Value.map (some b)) hA (by kernel_rfl) (by kernel_rfl) (by kernel_rfl) hW.cls (Rd.load (b := m) (i := 0) (by kernel_rfl) (fun _ hw => show _ = _ from (hw.1).getG 0 rfl) (by kernel_rfl)) ?_; clear hA ac; intro ac hA
 refine st hA (by kernel_rfl) (by kernel_rfl) (by kernel_rfl) (Runs.call (fun _ => by kernel_rfl) (e_mrising b (outs V) w ((hW).getG 1 rfl) (by first | omega | assumption | (rw [outs_len]; omega) | (intro x hx; simp only [outs, List.mem_map] at hx; obtain ⟨e_, he_, rfl⟩ := hx; exact hh e_ he_)) (by first | omega | assumption | (rw [outs_len]; omega) | (intro x hx; simp only [outs, List.mem_map] at hx; obtain ⟨e_, he_, rfl⟩ := hx; exact hh e_ he_))) ?_)
 rintro _ w1 ⟨g2, Ao3, co4, rfl, hw1_hp, hw1_hs, hcco4, hu_⟩; refine ⟨_, rfl, ?_⟩; replace hW := hW.made hu_; clear hA ac; intro ac hA
 refine st_rd (v := Value.int .i64 (((g2).length : Nat) : Int)) hA (by kernel_rfl) (by kernel_rfl) (by kernel_rfl) hW.cls (Rd.pure fun _ => by kernel_rfl) ?_; clear hA ac; intro ac hA
 refine st_rd (v := Value.int .i64 0) hA (by kernel_rfl) (by kernel_rfl) (by kernel_rfl) hW.cls (Rd.pure fun _ => by kernel_rfl) ?_; clear hA ac; intro ac hA
 refine wpList_nil ?_
 refine thenN ?_
 refine wp_block ?_
 have hkl_ : g2.length ≤ 100 := by have h_ := hw1_hp.length_eq; simp only [keys, List.length_map] at h_; rw [outs_len] at h_; omega
 have hW := hW.addNil 30 2 enCell6
 refine wp_loop_m (fun m_ ac_ wl_ => ∃ k : Nat, ∃ O : List Cell6, ∃ A : Option Addr, ∃ c : Nat, m_ = g2.length - k ∧ (k ≤ g2.length) ∧ (O = cellsOf (vals V) frm (g2.take k)) ∧ (O.length ≤ 4096 * k) ∧ (O.length ≤ c) ∧ Fm 56 [] [(0, Value.pointer (some ⟨m, 0, none⟩)), (1, Value.int .u32 frm), (4, Value.slice A O.length c), (16, Value.slice Ao3 (g2).length co4), (17, Value.int .i64 (((g2).length : Nat) : Int)), (18, Value.int .i64 ((k : Nat) : Int))] ac_ ∧ Ws w No [rowR 30 2 enCell6 (Value.slice A O.length c) O, rowR 28 1 enU4 (Value.slice Ao3 (g2).length co4) g2] [Cel m #[Value.map (some b)] 54, mapR b (fun a : Int => Value.int .u32 a) (fun x_ : Nat => Value.pointer (some ⟨x_, 0, none⟩)) (outs V), SubR (fun (c_ : Nat → Int) (b_ : Nat) => PgR .u32 4096 64 c_ b_) V] wl_) _ ⟨0, [], none, 0, rfl, by omega, by rfl, by simp, by simp, hA.sub ⟨⟨by kernel_rfl, by kernel_rfl⟩, ⟨by kernel_rfl, by kernel_rfl⟩, ⟨by kernel_rfl, by kernel_rfl⟩, ⟨by kernel_rfl, by kernel_rfl⟩, ⟨by kernel_rfl, by kernel_rfl⟩, ⟨by kernel_rfl, by kernel_rfl⟩, trivial⟩, (hW.pick [0, 1] (by decide) rfl).pickG [0, 1, 2] rfl⟩ ?_
 clear hA ac hW; rintro m_ ac w6 ⟨k, O, A, c, rfl, hk, hO, hOl, hcO, hA, hW⟩
 refine wp_seq ?_
 refine wp_region_lit ?_
 refine st_rd (v := Value.bool (decide ((((k : Nat) : Int) : Int) < ((((g2).length : Nat) : Int) : Int)))) hA (by kernel_rfl) (by kernel_rfl) (by kernel_rfl) hW.cls (Rd.pure fun _ => by kernel_rfl) ?_; clear hA ac; intro ac hA
 refine wpList_nil ?_
 refine thenN ?_
 refine wp_seq ?_
 refine wp_cond_split (t := decide ((((k : Nat) : Int) : Int) < ((((g2).length : Nat) : Int) : Int))) (hA.eval (by kernel_rfl)) (fun h7 => ?_) (fun h7 => ?_)
 · skip
   have h7 := of_decide_eq_true h7
   first
   | (exfalso; clear hA hW; omega)
   | (
     refine wp_skip ?_
     refine thenN ?_
     refine wp_seq ?_
     refine wp_block ?_
     refine wp_seq ?_
     refine wp_region_lit ?_
     obtain ⟨y8, hy8⟩ : ∃ y, g2[k]? = some y := ⟨_, List.getElem?_eq_getElem (by first | omega | (simp; done) | (simp; omega))⟩
     obtain ⟨b9, o10, rfl, hbb9⟩ := row_some (rowR_at ((hW).get 1 rfl) elt_U4.len) hy8
     refine st_rd (v := Value.pointer (some ⟨b9, o10 + k * 1, none⟩)) hA (by kernel_rfl) (by kernel_rfl) (by kernel_rfl) hW.cls (Rd.indexAddr (e := 28) (sz := 1) (b := b9) (off := o10) (n := (g2).length) (c := co4) (k := k) (by kernel_rfl) (by kernel_rfl) (by first | omega | (simp; done) | (simp; omega)) (fun _ => by kernel_rfl) (fun _ => by kernel_rfl)) ?_; clear hA ac; intro ac hA
     refine st_rd (v := Value.int .u32 y8) hA (by kernel_rfl) (by kernel_rfl) (by kernel_rfl) hW.cls (Rd.loadRow (b := b9) (i := o10 + k * 1) (xs := [Value.int .u32 y8]) (by kernel_rfl) (fun _ hw => row_ld (rowR_at ((hw.1).get 1 rfl) elt_U4.len) hy8 (Fr.refl No _) (fun h => h) 0 1 (by kernel_rfl)) (by kernel_rfl)) ?_; clear hA ac; intro ac hA
     refine st_rd (v := Value.int .u32 y8) hA (by kernel_rfl) (by kernel_rfl) (by kernel_rfl) hW.cls (Rd.pure fun _ => by kernel_rfl) ?_; clear hA ac; intro ac hA
     refine wpList_nil ?_
     refine thenN ?_
     refine wp_seq ?_
     have hyb_ : 0 ≤ y8 ∧ y8 ≤ 1048575 := by have h_ := (hw1_hp.mem_iff (a := y8)).1 (List.mem_of_getElem? hy8); simp only [keys, outs, List.map_map, List.mem_map] at h_; obtain ⟨e_, he_, rfl⟩ := h_; exact hh e_ he_
     refine wp_region_lit ?_
     refine st_rd (v := Value.pointer (some ⟨m, 0, none⟩)) hA (by kernel_rfl) (by kernel_rfl) (by kernel_rfl) hW.cls (Rd.pure fun _ => by kernel_rfl) ?_; clear hA ac; intro ac hA
     refine st_rd (v := Value.pointer (some ⟨m, 0, none⟩)) hA (by kernel_rfl) (by kernel_rfl) (by kernel_rfl) hW.cls (Rd.pure fun _ => by kernel_rfl) ?_; clear hA ac; intro ac hA
     refine st_rd (v := Value.pointer (some ⟨m, 0, none⟩)) hA (by kernel_rfl) (by kernel_rfl) (by kernel_rfl) hW.cls (Rd.pure fun _ => by kernel_rfl) ?_; clear hA ac; intro ac hA
     refine st_rd (v := Value.map (some b)) hA (by kernel_rfl) (by kernel_rfl) (by kernel_rfl) hW.cls (Rd.load (b := m) (i := 0) (by kernel_rfl) (fun _ hw => show _ = _ from (hw.1).getG 0 rfl) (by kernel_rfl)) ?_; clear hA ac; intro ac hA
     refine st_rd (v := Value.int .u32 y8) hA (by kernel_rfl) (by kernel_rfl) (by kernel_rfl) hW.cls (Rd.pure fun _ => by kernel_rfl) ?_; clear hA ac; intro ac hA
     rcases hk11 : look (outs V) (y8 : Int) with _ | bk12
     · skip
       first
       | (exfalso; clear hA hW; omega)
       | (exfalso; clear hA hW; exact look_none.1 hk11 ((hw1_hp.mem_iff).1 (List.mem_of_getElem? hy8)); done)
       | (
         fail)
     · skip
       first
       | (exfalso; clear hA hW; omega)
       | (
         obtain ⟨i13, c14, hi15, hv16⟩ := outs_at hk11
         have hW := hW.subG 2 rfl hi15
         replace hW : Ws w No [rowR 30 2 enCell6 (Value.slice A O.length c) O, rowR 28 1 enU4 (Value.slice (some ⟨b9, o10, none⟩) (g2).length co4) g2] [PgR .u32 4096 64 c14 bk12, Cel m #[Value.map (some b)] 54, mapR b (fun a : Int => Value.int .u32 a) (fun x_ : Nat => Value.pointer (some ⟨x_, 0, none⟩)) (outs V), SubR (fun (c_ : Nat → Int) (b_ : Nat) => PgR .u32 4096 64 c_ b_) V] w6 := hW
         refine st_rd (v := Value.pointer (some ⟨bk12, 0, none⟩)) hA (by kernel_rfl) (by kernel_rfl) (by kernel_rfl) hW.cls ((Rd.lookup (k := 28) (e := 62) (ek := (fun a : Int => Value.int .u32 a)) (ev := (fun x_ : Nat => Value.pointer (some ⟨x_, 0, none⟩))) (m := (outs V)) (z := Value.pointer none) (y8 : Int) false (by kernel_rfl) (by kernel_rfl) (KeyE.int (by kernel_rfl)) (by kernel_rfl) (fun _ => by kernel_rfl) (fun _ hw => (hw.1).getG 2 rfl)).cast (by rw [hk11]; rfl)) ?_; clear hA ac; intro ac hA
         refine st_rd (v := Value.int .i64 0) hA (by kernel_rfl) (by kernel_rfl) (by kernel_rfl) hW.cls (Rd.pure fun _ => by kernel_rfl) ?_; clear hA ac; intro ac hA
         refine wpList_nil ?_
         refine thenN ?_
         refine wp_block ?_
         refine wp_loop_m (fun m_ ac_ wl_ => ∃ i : Nat, ∃ O2 : List Cell6, ∃ A2 : Option Addr, ∃ c2 : Nat, m_ = 4096 - i ∧ (i ≤ 4096) ∧ (O2 = cellsOf (vals V) frm (g2.take k) ++ pgC frm y8 c14 i) ∧ (O2.length ≤ 4096 * k + i) ∧ (O2.length ≤ c2) ∧ Fm 56 [] [(0, Value.pointer (some ⟨m, 0, none⟩)), (1, Value.int .u32 frm), (4, Value.slice A2 O2.length c2), (6, Value.int .u32 y8), (16, Value.slice (some ⟨b9, o10, none⟩) (g2).length co4), (17, Value.int .i64 (((g2).length : Nat) : Int)), (18, Value.int .i64 ((k : Nat) : Int)), (27, Value.pointer (some ⟨bk12, 0, none⟩)), (28, Value.int .i64 ((i : Nat) : Int))] ac_ ∧ Ws w No [rowR 30 2 enCell6 (Value.slice A2 O2.length c2) O2, rowR 28 1 enU4 (Value.slice (some ⟨b9, o10, none⟩) (g2).length co4) g2] [PgR .u32 4096 64 c14 bk12, Cel m #[Value.map (some b)] 54, mapR b (fun a : Int => Value.int .u32 a) (fun x_ : Nat => Value.pointer (some ⟨x_, 0, none⟩)) (outs V), SubR (fun (c_ : Nat → Int) (b_ : Nat) => PgR .u32 4096 64 c_ b_) V] wl_) _ ⟨0, O, A, c, rfl, by omega, by rw [hO]; simp [pgC], by omega, by exact hcO, hA.sub ⟨⟨by kernel_rfl, by kernel_rfl⟩, ⟨by kernel_rfl, by kernel_rfl⟩, ⟨by kernel_rfl, by kernel_rfl⟩, ⟨by kernel_rfl, by kernel_rfl⟩, ⟨by kernel_rfl, by kernel_rfl⟩, ⟨by kernel_rfl, by kernel_rfl⟩, ⟨by kernel_rfl, by kernel_rfl⟩, ⟨by kernel_rfl, by kernel_rfl⟩, ⟨by kernel_rfl, by kernel_rfl⟩, trivial⟩, (hW.pick [0, 1] (by decide) rfl).pickG [0, 1, 2, 3] rfl⟩ ?_
         clear hA ac hW; rintro m_ ac w17 ⟨i, O2, A2, c2, rfl, hi, hO2, hOl2, hcO2, hA, hW⟩
         refine wp_seq ?_
         refine wp_region_lit ?_
         refine st_rd (v := Value.bool (decide ((((i : Nat) : Int) : Int) < (4096 : Int)))) hA (by kernel_rfl) (by kernel_rfl) (by kernel_rfl) hW.cls (Rd.pure fun _ => by kernel_rfl) ?_; clear hA ac; intro ac hA
         refine wpList_nil ?_
         refine thenN ?_
         refine wp_seq ?_
         refine wp_cond_split (t := decide ((((i : Nat) : Int) : Int) < (4096 : Int))) (hA.eval (by kernel_rfl)) (fun h18 => ?_) (fun h18 => ?_)
         · skip
           have h18 := of_decide_eq_true h18
           first
           | (exfalso; clear hA hW; omega)
           | (
             refine wp_skip ?_
             refine thenN ?_
             refine wp_seq ?_
             refine wp_block ?_
             refine wp_seq ?_
             refine q_region (by kernel_rfl) (by kernel_rfl) hW ?_
             refine sq_rd (v := Value.int .i64 ((i : Nat) : Int)) hA (by kernel_rfl) (by kernel_rfl) (by kernel_rfl) (Rd.pure fun _ => by kernel_rfl) ?_; clear hA ac; intro ac hA
             refine sq_rd (v := Value.pointer (some ⟨bk12, 0, none⟩)) hA (by kernel_rfl) (by kernel_rfl) (by kernel_rfl) (Rd.pure fun _ => by kernel_rfl) ?_; clear hA ac; intro ac hA
             refine sq_rd (v := Value.pointer (some ⟨bk12, 0 + i * 1, none⟩)) hA (by kernel_rfl) (by kernel_rfl) (by kernel_rfl) (Rd.indexArr (e := 28) (sz := 1) (m := 4096) (b := bk12) (off := 0) (i := i) (kk := .i64) (by kernel_rfl) (by kernel_rfl) (by first | omega | (simp; done) | (simp; omega)) (fun _ => by kernel_rfl) (fun _ => by kernel_rfl)) ?_; clear hA ac; intro ac hA
             refine sq_rd (v := Value.int .u32 (c14 i)) hA (by kernel_rfl) (by kernel_rfl) (by kernel_rfl) (Rd.load (b := bk12) (i := 0 + i * 1) (by kernel_rfl) (fun _ hw => show _ = _ from (hw.1).getG 0 rfl) (by rw [show 0 + i * 1 = i from by omega]; exact ldv_one (kk := .u32) (by kernel_rfl) (by first | omega | (simp; done) | (simp; omega)))) ?_; clear hA ac; intro ac hA
             refine sq_rd (v := Value.int .i64 ((i : Nat) : Int)) hA (by kernel_rfl) (by kernel_rfl) (by kernel_rfl) (Rd.pure fun _ => by kernel_rfl) ?_; clear hA ac; intro ac hA
             refine sq_rd (v := Value.int .u32 (c14 i)) hA (by kernel_rfl) (by kernel_rfl) (by kernel_rfl) (Rd.pure fun _ => by kernel_rfl) ?_; clear hA ac; intro ac hA
             refine sq_nil ?_; intro w19 hww19; have hW := hww19.1; have hfw19 := hww19.2; clear hww19
             refine thenN ?_
             refine wp_seq ?_
             refine wp_region_lit ?_
             refine st_rd (v := Value.int .u32 y8) hA (by kernel_rfl) (by kernel_rfl) (by kernel_rfl) hW.cls (Rd.pure fun _ => by kernel_rfl) ?_; clear hA ac; intro ac hA
             refine st_rd (v := Value.int .u32 ((y8 : Int) * 4096)) hA (by kernel_rfl) (by kernel_rfl) (by kernel_rfl) hW.cls (Rd.pureE (v0 := Value.int .u32 (IntKind.u32.wrap ((y8 : Int) * 4096))) (fun _ => by kernel_rfl) (congrArg (Value.int .u32) ((w_u32 (x := (y8 : Int) * 4096) (by omega) (by omega)).trans (by omega)))) ?_; clear hA ac; intro ac hA
             refine st_rd (v := Value.int .i64 ((i : Nat) : Int)) hA (by kernel_rfl) (by kernel_rfl) (by kernel_rfl) hW.cls (Rd.pure fun _ => by kernel_rfl) ?_; clear hA ac; intro ac hA
             refine st_rd (v := Value.int .u32 ((i : Nat) : Int)) hA (by kernel_rfl) (by kernel_rfl) (by kernel_rfl) hW.cls (Rd.pureE (v0 := Value.int .u32 (IntKind.u32.wrap (((i : Nat) : Int)))) (fun _ => by kernel_rfl) (congrArg (Value.int .u32) (w_u32 (x := ((i : Nat) : Int)) (by omega) (by omega)))) ?_; clear hA ac; intro ac hA
             refine st_rd (v := Value.int .u32 (((y8 : Int) * 4096 : Int) + ((i : Nat) : Int))) hA (by kernel_rfl) (by kernel_rfl) (by kernel_rfl) hW.cls (Rd.pureE (v0 := Value.int .u32 (IntKind.u32.wrap (((y8 : Int) * 4096 : Int) + ((i : Nat) : Int)))) (fun _ => by kernel_rfl) (congrArg (Value.int .u32) ((w_u32 (x := ((y8 : Int) * 4096 : Int) + ((i : Nat) : Int)) (by omega) (by omega)).trans (by omega)))) ?_; clear hA ac; intro ac hA
             refine st_rd (v := Value.int .u32 (c14 i)) hA (by kernel_rfl) (by kernel_rfl) (by kernel_rfl) hW.cls (Rd.pure fun _ => by kernel_rfl) ?_; clear hA ac; intro ac hA
             refine st_rd (v := Value.agg #[Value.int .u32 (((y8 : Int) * 4096 : Int) + ((i : Nat) : Int)), Value.int .u32 (c14 i)]) hA (by kernel_rfl) (by kernel_rfl) (by kernel_rfl) hW.cls (Rd.pure fun _ => by kernel_rfl) ?_; clear hA ac; intro ac hA
             refine st hA (by kernel_rfl) (by kernel_rfl) (by kernel_rfl) (Runs.cells (fun b => Value.pointer (some ⟨b, 0, none⟩)) #[Value.int .u32 0, Value.int .u32 0] 30 (fun _ => by kernel_rfl) hW ?_); clear hA ac hW; intro b20 w21 hW hb20 hfw21 ac hA
             refine st hA (by kernel_rfl) (by kernel_rfl) (by kernel_rfl) (Runs.store (v := Value.agg #[Value.int .u32 (((y8 : Int) * 4096 : Int) + ((i : Nat) : Int)), Value.int .u32 (c14 i)]) (b := b20) (j := 0) (n := 2) (cs' := #[Value.int .u32 (((y8 : Int) * 4096 : Int) + ((i : Nat) : Int)), Value.int .u32 (c14 i)]) (H' := [Cel b20 #[Value.int .u32 (((y8 : Int) * 4096 : Int) + ((i : Nat) : Int)), Value.int .u32 (c14 i)] 30, rowR 30 2 enCell6 (Value.slice A2 O2.length c2) O2, rowR 28 1 enU4 (Value.slice (some ⟨b9, o10, none⟩) (g2).length co4) g2]) (by kernel_rfl) (by kernel_rfl) (by kernel_rfl) (by kernel_rfl) (by kernel_rfl) hW 0 (by rfl) (Nat.le_of_ble_eq_true (by kernel_rfl)) (by kernel_rfl) (by rfl) ?_); clear hA ac hW; intro w22 hW ac hA
             refine wpList_nil ?_
             refine thenN ?_
             refine wp_seq ?_
             refine wp_region_lit ?_
             refine st_rd (v := Value.int .u32 (c14 i)) hA (by kernel_rfl) (by kernel_rfl) (by kernel_rfl) hW.cls (Rd.pure fun _ => by kernel_rfl) ?_; clear hA ac; intro ac hA
             refine st_rd (v := Value.bool (((c14 i) : Int) != (0 : Int))) hA (by kernel_rfl) (by kernel_rfl) (by kernel_rfl) hW.cls (Rd.pure fun _ => by kernel_rfl) ?_; clear hA ac; intro ac hA
             refine st_rd (v := Value.bool (((c14 i) : Int) != (0 : Int))) hA (by kernel_rfl) (by kernel_rfl) (by kernel_rfl) hW.cls (Rd.pure fun _ => by kernel_rfl) ?_; clear hA ac; intro ac hA
             rcases Bool.eq_false_or_eq_true (((c14 i) : Int) != (0 : Int)) with h23 | h23
             · skip
               rw [h23] at hA
               have h23 := bne_iff_ne.1 h23
               first
               | (exfalso; clear hA hW; omega)
               | (
                 refine st_rd (v := Value.pointer (some ⟨b20, 0, none⟩)) hA (by kernel_rfl) (by kernel_rfl) (by kernel_rfl) hW.cls (Rd.pure fun _ => by kernel_rfl) ?_; clear hA ac; intro ac hA
                 refine st_rd (v := Value.int .u32 (((y8 : Int) * 4096 : Int) + ((i : Nat) : Int))) hA (by kernel_rfl) (by kernel_rfl) (by kernel_rfl) hW.cls (Rd.load (b := b20) (i := 0) (by kernel_rfl) (fun _ hw => (hw.1).cel 0 rfl) (by kernel_rfl)) ?_; clear hA ac; intro ac hA
                 refine st_rd (v := Value.int .u32 frm) hA (by kernel_rfl) (by kernel_rfl) (by kernel_rfl) hW.cls (Rd.pure fun _ => by kernel_rfl) ?_; clear hA ac; intro ac hA
                 refine st_rd (v := Value.bool (decide ((((y8 : Int) * 4096 : Int) + ((i : Nat) : Int) : Int) ≥ (frm : Int)))) hA (by kernel_rfl) (by kernel_rfl) (by kernel_rfl) hW.cls (Rd.pure fun _ => by kernel_rfl) ?_; clear hA ac; intro ac hA
                 refine st_rd (v := Value.bool (decide ((((y8 : Int) * 4096 : Int) + ((i : Nat) : Int) : Int) ≥ (frm : Int)))) hA (by kernel_rfl) (by kernel_rfl) (by kernel_rfl) hW.cls (Rd.pure fun _ => by kernel_rfl) ?_; clear hA ac; intro ac hA
                 refine wpList_nil ?_
                 refine thenN ?_
                 refine wp_cond_split (t := decide ((((y8 : Int) * 4096 : Int) + ((i : Nat) : Int) : Int) ≥ (frm : Int))) (hA.eval (by kernel_rfl)) (fun h24 => ?_) (fun h24 => ?_)
                 · skip
                   have h24 := of_decide_eq_true h24
                   first
                   | (exfalso; clear hA hW; omega)
                   | (
                     refine wp_region_lit ?_
                     refine st_rd (v := Value.slice A2 O2.length c2) hA (by kernel_rfl) (by kernel_rfl) (by kernel_rfl) hW.cls (Rd.pure fun _ => by kernel_rfl) ?_; clear hA ac; intro ac hA
                     refine st_rd (v := Value.agg #[Value.int .u32 (((y8 : Int) * 4096 : Int) + ((i : Nat) : Int)), Value.int .u32 (c14 i)]) hA (by kernel_rfl) (by kernel_rfl) (by kernel_rfl) hW.cls (Rd.load (b := b20) (i := 0) (by kernel_rfl) (fun _ hw => (hw.1).cel 0 rfl) (by kernel_rfl)) ?_; clear hA ac; intro ac hA
                     refine st hA (by kernel_rfl) (by kernel_rfl) (by kernel_rfl) (Runs.cells (fun b => Value.slice (some ⟨b, 0, none⟩) 1 1) #[Value.int .u32 (((y8 : Int) * 4096 : Int) + ((i : Nat) : Int)), Value.int .u32 (c14 i)] 30 (fun _ => by kernel_rfl) hW ?_); clear hA ac hW; intro b25 w26 hW hb25 hfw26 ac hA
                     refine st hA (by kernel_rfl) (by kernel_rfl) (by kernel_rfl) (Runs.appOwn (B := (some ⟨b25, 0, none⟩)) (k := 1) (E := 30) (sz := 2) (en := enCell6) (l := O2) (m := ([(⟨((y8 : Int) * 4096 : Int) + ((i : Nat) : Int), (c14 i)⟩ : Cell6)] : List Cell6)) (i := 2) (by kernel_rfl) (by kernel_rfl) elt_Cell6 (by kernel_rfl) hW rfl (rowAt_cel ((hW).cel 0 rfl) ([(⟨((y8 : Int) * 4096 : Int) + ((i : Nat) : Int), (c14 i)⟩ : Cell6)] : List Cell6) (by rfl) elt_Cell6.len) (by first | omega | (simp; done) | (simp; omega)) (by first | omega | (simp; done) | (simp; omega)) ?_); clear hA ac hW; intro A27 c28 w29 hW hcc28 ac hA
                     refine st_rd (v := Value.slice A27 (O2 ++ ([(⟨((y8 : Int) * 4096 : Int) + ((i : Nat) : Int), (c14 i)⟩ : Cell6)] : List Cell6)).length c28) hA (by kernel_rfl) (by kernel_rfl) (by kernel_rfl) hW.cls (Rd.pure fun _ => by kernel_rfl) ?_; clear hA ac; intro ac hA
                     refine wpList_nil ?_
                     refine blkN ?_
                     refine thenN ?_
                     refine wp_region_lit ?_
                     refine st_rd (v := Value.int .i64 ((i + 1 : Nat) : Int)) hA (by kernel_rfl) (by kernel_rfl) (by kernel_rfl) hW.cls (Rd.pureE (v0 := Value.int .i64 (IntKind.i64.wrap ((((i : Nat) : Int) : Int) + 1))) (fun _ => by kernel_rfl) (congrArg (Value.int .i64) ((w_i64 (x := (((i : Nat) : Int) : Int) + 1) (by omega) (by omega)).trans (by omega)))) ?_; clear hA ac; intro ac hA
                     refine st_rd (v := Value.int .i64 ((i + 1 : Nat) : Int)) hA (by kernel_rfl) (by kernel_rfl) (by kernel_rfl) hW.cls (Rd.pure fun _ => by kernel_rfl) ?_; clear hA ac; intro ac hA
                     refine wpList_nil ?_
                     refine thenN ?_
                     exact ⟨4096 - (i + 1), by omega, i + 1, O2 ++ ([(⟨((y8 : Int) * 4096 : Int) + ((i : Nat) : Int), (c14 i)⟩ : Cell6)] : List Cell6), A27, c28, rfl, by omega, by (first | (rw [pgC_yes (by assumption) (by omega), ← List.append_assoc, ← hO2]) | (rw [pgC_no (by simp_all; done), ← hO2]) | (rw [pgC_no (by omega), ← hO2])), by first | omega | (simp; omega), by exact hcc28, hA.sub ⟨⟨by kernel_rfl, by kernel_rfl⟩, ⟨by kernel_rfl, by kernel_rfl⟩, ⟨by kernel_rfl, by kernel_rfl⟩, ⟨by kernel_rfl, by kernel_rfl⟩, ⟨by kernel_rfl, by kernel_rfl⟩, ⟨by kernel_rfl, by kernel_rfl⟩, ⟨by kernel_rfl, by kernel_rfl⟩, ⟨by kernel_rfl, by kernel_rfl⟩, ⟨by kernel_rfl, by kernel_rfl⟩, trivial⟩, (hW.pick [2, 3] (by decide) rfl).pickG [0, 1, 2, 3] rfl⟩)
                 · skip
                   have h24 := of_decide_eq_false h24
                   first
                   | (exfalso; clear hA hW; omega)
                   | (
                     refine wp_skip ?_
                     refine blkN ?_
                     refine thenN ?_
                     refine wp_region_lit ?_
                     refine st_rd (v := Value.int .i64 ((i + 1 : Nat) : Int)) hA (by kernel_rfl) (by kernel_rfl) (by kernel_rfl) hW.cls (Rd.pureE (v0 := Value.int .i64 (IntKind.i64.wrap ((((i : Nat) : Int) : Int) + 1))) (fun _ => by kernel_rfl) (congrArg (Value.int .i64) ((w_i64 (x := (((i : Nat) : Int) : Int) + 1) (by omega) (by omega)).trans (by omega)))) ?_; clear hA ac; intro ac hA
                     refine st_rd (v := Value.int .i64 ((i + 1 : Nat) : Int)) hA (by kernel_rfl) (by kernel_rfl) (by kernel_rfl) hW.cls (Rd.pure fun _ => by kernel_rfl) ?_; clear hA ac; intro ac hA
                     refine wpList_nil ?_
                     refine thenN ?_
                     exact ⟨4096 - (i + 1), by omega, i + 1, O2, A2, c2, rfl, by omega, by (first | (rw [pgC_yes (by assumption) (by omega), ← List.append_assoc, ← hO2]) | (rw [pgC_no (by simp_all; done), ← hO2]) | (rw [pgC_no (by omega), ← hO2])), by first | omega | (simp; omega), by exact hcO2, hA.sub ⟨⟨by kernel_rfl, by kernel_rfl⟩, ⟨by kernel_rfl, by kernel_rfl⟩, ⟨by kernel_rfl, by kernel_rfl⟩, ⟨by kernel_rfl, by kernel_rfl⟩, ⟨by kernel_rfl, by kernel_rfl⟩, ⟨by kernel_rfl, by kernel_rfl⟩, ⟨by kernel_rfl, by kernel_rfl⟩, ⟨by kernel_rfl, by kernel_rfl⟩, ⟨by kernel_rfl, by kernel_rfl⟩, trivial⟩, (hW.pick [1, 2] (by decide) rfl).pickG [0, 1, 2, 3] rfl⟩))
             · skip
               rw [h23] at hA
               have h23 := of_bne_f h23
               first
               | (exfalso; clear hA hW; omega)
               | (
                 refine st_skip hA (by kernel_rfl) (by kernel_rfl) ?_; clear hA ac; intro ac hA
                 refine st_skip hA (by kernel_rfl) (by kernel_rfl) ?_; clear hA ac; intro ac hA
                 refine st_skip hA (by kernel_rfl) (by kernel_rfl) ?_; clear hA ac; intro ac hA
                 refine st_skip hA (by kernel_rfl) (by kernel_rfl) ?_; clear hA ac; intro ac hA
                 refine st_rd (v := Value.bool false) hA (by kernel_rfl) (by kernel_rfl) (by kernel_rfl) hW.cls (Rd.pure fun _ => by kernel_rfl) ?_; clear hA ac; intro ac hA
                 refine wpList_nil ?_
                 refine thenN ?_
                 refine wp_cond_false (hA.eval (by kernel_rfl)) ?_
                 refine wp_skip ?_
                 refine blkN ?_
                 refine thenN ?_
                 refine wp_region_lit ?_
                 refine st_rd (v := Value.int .i64 ((i + 1 : Nat) : Int)) hA (by kernel_rfl) (by kernel_rfl) (by kernel_rfl) hW.cls (Rd.pureE (v0 := Value.int .i64 (IntKind.i64.wrap ((((i : Nat) : Int) : Int) + 1))) (fun _ => by kernel_rfl) (congrArg (Value.int .i64) ((w_i64 (x := (((i : Nat) : Int) : Int) + 1) (by omega) (by omega)).trans (by omega)))) ?_; clear hA ac; intro ac hA
                 refine st_rd (v := Value.int .i64 ((i + 1 : Nat) : Int)) hA (by kernel_rfl) (by kernel_rfl) (by kernel_rfl) hW.cls (Rd.pure fun _ => by kernel_rfl) ?_; clear hA ac; intro ac hA
                 refine wpList_nil ?_
                 refine thenN ?_
                 exact ⟨4096 - (i + 1), by omega, i + 1, O2, A2, c2, rfl, by omega, by (first | (rw [pgC_yes (by assumption) (by omega), ← List.append_assoc, ← hO2]) | (rw [pgC_no (by simp_all; done), ← hO2]) | (rw [pgC_no (by omega), ← hO2])), by first | omega | (simp; omega), by exact hcO2, hA.sub ⟨⟨by kernel_rfl, by kernel_rfl⟩, ⟨by kernel_rfl, by kernel_rfl⟩, ⟨by kernel_rfl, by kernel_rfl⟩, ⟨by kernel_rfl, by kernel_rfl⟩, ⟨by kernel_rfl, by kernel_rfl⟩, ⟨by kernel_rfl, by kernel_rfl⟩, ⟨by kernel_rfl, by kernel_rfl⟩, ⟨by kernel_rfl, by kernel_rfl⟩, ⟨by kernel_rfl, by kernel_rfl⟩, trivial⟩, (hW.pick [1, 2] (by decide) rfl).pickG [0, 1, 2, 3] rfl⟩))
         · skip
           have h18 := of_decide_eq_false h18
           first
           | (exfalso; clear hA hW; omega)
           | (
             refine wp_exit ?_
             refine thenX ?_
             refine thenX ?_
             refine blkX ?_
             refine blkN ?_
             refine thenN ?_
             refine wp_region_lit ?_
             refine st_rd (v := Value.int .i64 ((k + 1 : Nat) : Int)) hA (by kernel_rfl) (by kernel_rfl) (by kernel_rfl) hW.cls (Rd.pureE (v0 := Value.int .i64 (IntKind.i64.wrap ((((k : Nat) : Int) : Int) + 1))) (fun _ => by kernel_rfl) (congrArg (Value.int .i64) ((w_i64 (x := (((k : Nat) : Int) : Int) + 1) (by omega) (by omega)).trans (by omega)))) ?_; clear hA ac; intro ac hA
             refine st_rd (v := Value.int .i64 ((k + 1 : Nat) : Int)) hA (by kernel_rfl) (by kernel_rfl) (by kernel_rfl) hW.cls (Rd.pure fun _ => by kernel_rfl) ?_; clear hA ac; intro ac hA
             refine wpList_nil ?_
             refine thenN ?_
             exact ⟨g2.length - (k + 1), by omega, k + 1, O2, A2, c2, rfl, by omega, by rw [cellsOf_snoc hy8 hv16, hO2, show i = 4096 from by omega], by omega, by exact hcO2, hA.sub ⟨⟨by kernel_rfl, by kernel_rfl⟩, ⟨by kernel_rfl, by kernel_rfl⟩, ⟨by kernel_rfl, by kernel_rfl⟩, ⟨by kernel_rfl, by kernel_rfl⟩, ⟨by kernel_rfl, by kernel_rfl⟩, ⟨by kernel_rfl, by kernel_rfl⟩, trivial⟩, (hW.pick [0, 1] (by decide) rfl).pickG [1, 2, 3] rfl⟩)))
 · skip
   have h7 := of_decide_eq_false h7
   first
   | (exfalso; clear hA hW; omega)
   | (
     refine wp_exit ?_
     refine thenX ?_
     refine thenX ?_
     refine blkX ?_
     refine thenN ?_
     refine wp_seq ?_
     refine wp_region_lit ?_
     refine st_rd (v := Value.slice A O.length c) hA (by kernel_rfl) (by kernel_rfl) (by kernel_rfl) hW.cls (Rd.pure fun _ => by kernel_rfl) ?_; clear hA ac; intro ac hA
     refine st_rd (v := Value.slice A O.length c) hA (by kernel_rfl) (by kernel_rfl) (by kernel_rfl) hW.cls (Rd.pure fun _ => by kernel_rfl) ?_; clear hA ac; intro ac hA
     refine wpList_nil ?_
     refine thenN ?_
     refine wp_ret ?_
     refine ret1 (v := Value.slice A O.length c) (by rfl) hA (Got.tmp hA (by kernel_rfl) (by kernel_rfl)) ?_
     clear hA
     exact ⟨g2, O, A, c, by first | rfl | (simp; done), by rw [← keys_outs]; exact hw1_hp, by exact hw1_hs, by rw [List.take_of_length_le (by omega)] at hO; exact hO, (own_cap ((hW).get 0 rfl)), hW.madeRow 0 rfl⟩)

end Go.Proofs.Ytcokpdlmahlpnaa.L
