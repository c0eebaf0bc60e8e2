/- Contracts, walked by program over the engine's laws. -/
import Derived.Test.YtcgcippmbeileaaProg
import Derived.Test.YtcgcippmbeileaaT11
namespace Go.Proofs.Ytcgcippmbeileaa.L
open Go.RowKit

theorem elt_Cell22 : Elt Try.prog 81 8 enCell22 := ⟨⟨Value.agg #[Value.int .u32 0, Value.int .u64 0, Value.int .i64 0, Value.int .i64 0, Value.int .u64 0, Value.int .i64 0, Value.int .i64 0, Value.int .i64 0], 64, by kernel_rfl, rfl, by decide⟩, by decide, fun _ => rfl, fun x u hu => List.all_eq_true.1 (show (enCell22 x).all (·.oneCell') = true from rfl) u hu⟩
theorem vals_len {κ γ : Type} {V : List (κ × Nat × γ)} : (vals V).length = V.length := by simp [vals]
/-- What is gathered of a page, and of pages. -/
def pgG {β : Type} (p : Cell22 → Option β) (n : Int) (f : Nat → Shade) (i : Nat) : List β := (List.range i).filterMap fun j : Nat => p ⟨n * 4096 + (j : Int), f j⟩
theorem pgG_yes {β : Type} {p : Cell22 → Option β} {n : Int} {f : Nat → Shade} {i : Nat} {u : β} (h : p ⟨n * 4096 + (i : Int), f i⟩ = some u) : pgG p n f (i + 1) = pgG p n f i ++ [u] := by
  unfold pgG; rw [List.range_succ, List.filterMap_append]; simp [h]
theorem pgG_no {β : Type} {p : Cell22 → Option β} {n : Int} {f : Nat → Shade} {i : Nat} (h : p ⟨n * 4096 + (i : Int), f i⟩ = none) : pgG p n f (i + 1) = pgG p n f i := by
  unfold pgG; rw [List.range_succ, List.filterMap_append]; simp [h]
def gathOf {β : Type} (p : Cell22 → Option β) (M : List (Int × (Nat → Shade))) (ks : List Int) : List β := ks.flatMap fun n => pgG p n ((look M n).getD fun _ => zSh) 4096
theorem gathOf_snoc {β : Type} {p : Cell22 → Option β} {M : List (Int × (Nat → Shade))} {ks : List Int} {k : Nat} {y : Int} {f : Nat → Shade} (h : ks[k]? = some y) (hf : look M y = some f) : gathOf p M (ks.take (k + 1)) = gathOf p M (ks.take k) ++ pgG p y f 4096 := by
  unfold gathOf; rw [tk_snoc h, List.flatMap_append]; simp [hf]
def pVec (c : Cell22) : Option Int := if c.x.vec > 0 then some c.addr else none
def pAll (c : Cell22) : Option Cell22 := if c.x = (⟨0, ⟨0, 0⟩, 0, ⟨0, 0⟩, 0⟩ : Shade) then none else some c
set_option maxRecDepth 100000 in
theorem it_44 (b0 b1 : Nat) (m : List (Int × Nat)) : Iter Try.prog 44 #[Value.pointer (some ⟨b0, 0, none⟩)] (fun x_ : Int => #[Value.int .u32 x_]) (fun l_ => l_.Perm (keys m)) [Cel b0 #[Value.map (some b1)] 53, mapR b1 (fun a : Int => Value.int .u32 a) (fun x_ : Nat => Value.pointer (some ⟨x_, 0, none⟩)) m] := by
 intro l_ J_ Jx_ r0 w hOs_ hdis_ hR_ hJ0_ hp_ hlt_
 have hW := iterW hOs_ hdis_ hp_ hlt_; clear hOs_ hdis_ hp_ hlt_
 refine enter_F 14 Try.func44 rfl rfl (by kernel_rfl) (L := [(0, Value.func (.yield l_) #[] #[]), (1, Value.pointer (some ⟨b0, 0, none⟩))]) (by kernel_rfl) ?_
 intro ac hA
 refine wpIn_seq ?_
 refine wpIn_region_lit ?_
 refine st_rdF (v := Value.map (some b1)) hA (by kernel_rfl) (by kernel_rfl) (by kernel_rfl) (by kernel_rfl) hW.cls (Rd.load (b := b0) (i := 0) (by kernel_rfl) (fun _ hw => show _ = _ from (hw.1).getG 0 rfl) (by kernel_rfl)) ?_; clear hA ac; intro ac hA
 refine stF hA (by kernel_rfl) (by kernel_rfl) (by kernel_rfl) (by kernel_rfl) (RunsF.of (Runs.range (k := 35) (e := 65) (ek := (fun a : Int => Value.int .u32 a)) (ev := (fun x_ : Nat => Value.pointer (some ⟨x_, 0, none⟩))) (m := m) (by kernel_rfl) (by kernel_rfl) hW 1 rfl ?_)); clear hA ac hW; intro r1 es2 ck3 w4 hnr1 hW hfw4 ac hA
 refine wpListIn_nil ?_
 refine thenN ?_
 refine wpIn_block ?_
 refine wpIn_loop_m (fun m_ ac_ wl_ => ∃ left : List (Int × Nat), ∃ cur : Option (Int × Nat), ∃ r_ : Res, ∃ pre : List Int, m_ = left.length ∧ (J_ pre r_) ∧ ((pre ++ left.map (·.1)).Perm (keys m)) ∧ Fm 14 [] [(0, Value.func (.yield l_) #[] #[]), (5, Value.pointer (some ⟨r1, 0, none⟩))] ac_ ∧ Ws w (· ∈ r0.fp) [IterX r1 b1 es2 ck3 (fun a : Int => Value.int .u32 a) (fun x_ : Nat => Value.pointer (some ⟨x_, 0, none⟩)) left cur, r_] [MapX b1 es2 ck3, Cel b0 #[Value.map (some b1)] 53, mapR b1 (fun a : Int => Value.int .u32 a) (fun x_ : Nat => Value.pointer (some ⟨x_, 0, none⟩)) m] wl_) _ ⟨m, none, r0, [], rfl, by exact hJ0_, by exact List.Perm.refl _, hA.sub ⟨⟨by kernel_rfl, by kernel_rfl⟩, ⟨by kernel_rfl, by kernel_rfl⟩, trivial⟩, (hW.pick [0, 1] (by decide) rfl).pickG [0, 1, 2] rfl⟩ ?_
 clear hA ac hW; rintro m_ ac w5 ⟨left, cur, r_, pre, rfl, hJ, hp, hA, hW⟩
 refine wpIn_seq ?_
 refine wpIn_region_lit ?_
 refine stF hA (by kernel_rfl) (by kernel_rfl) (by kernel_rfl) (by kernel_rfl) (RunsF.of (Runs.next (ek := (fun a : Int => Value.int .u32 a)) (ev := (fun x_ : Nat => Value.pointer (some ⟨x_, 0, none⟩))) (r := r1) (b := b1) (es := es2) (clock := ck3) (left := left) (cur := cur) (by kernel_rfl) hnr1 hW 0 0 rfl rfl ?_ ?_))
 · skip
   intro hdoner1 ac hA
   refine st_rdF (v := Value.bool false) hA (by kernel_rfl) (by kernel_rfl) (by kernel_rfl) (by kernel_rfl) hW.cls (Rd.pure fun _ => by kernel_rfl) ?_; clear hA ac; intro ac hA
   refine wpListIn_nil ?_
   refine thenN ?_
   refine wpIn_seq ?_
   refine wpIn_cond_false (hA.eval (by kernel_rfl)) ?_
   refine wpIn_exit ?_
   refine thenX ?_
   refine thenX ?_
   refine blkX ?_
   refine retF (.inr rfl) hA ?_
   refine leave0 (by rfl)  ?_
   clear hA
   exact ranDone hW 1 rfl (.inl ⟨_, key_done hp hdoner1, hJ⟩)
 · skip
   clear hA ac; intro k6 y7 w8 hkk6 hW ac hA
   refine st_rdF (v := Value.bool true) hA (by kernel_rfl) (by kernel_rfl) (by kernel_rfl) (by kernel_rfl) hW.cls (Rd.pure fun _ => by kernel_rfl) ?_; clear hA ac; intro ac hA
   refine wpListIn_nil ?_
   refine thenN ?_
   refine wpIn_seq ?_
   refine wpIn_cond_true (hA.eval (by kernel_rfl)) ?_
   refine wpIn_skip ?_
   refine thenN ?_
   refine wpIn_block ?_
   refine wpIn_seq ?_
   refine wpIn_region_lit ?_
   refine st_rdF (v := Value.tuple #[Value.int .u32 y7.1, Value.pointer (some ⟨y7.2, 0, none⟩)]) hA (by kernel_rfl) (by kernel_rfl) (by kernel_rfl) (by kernel_rfl) hW.cls (Rd.entry (ek := (fun a : Int => Value.int .u32 a)) (ev := (fun x_ : Nat => Value.pointer (some ⟨x_, 0, none⟩))) (r := r1) (b := b1) (es := es2) (clock := ck3) (left := (List.eraseIdx left k6)) (y := y7) (by kernel_rfl) hnr1 (fun _ hw => show _ = _ from (hw.1).getG 0 rfl) (fun _ hw => (hw.1).get 0 rfl)) ?_; clear hA ac; intro ac hA
   refine st_rdF (v := Value.int .u32 y7.1) hA (by kernel_rfl) (by kernel_rfl) (by kernel_rfl) (by kernel_rfl) hW.cls (Rd.pure fun _ => by kernel_rfl) ?_; clear hA ac; intro ac hA
   refine st_rdF (v := Value.int .u32 y7.1) hA (by kernel_rfl) (by kernel_rfl) (by kernel_rfl) (by kernel_rfl) hW.cls (Rd.pure fun _ => by kernel_rfl) ?_; clear hA ac; intro ac hA
   refine wpListIn_nil ?_
   refine thenN ?_
   refine wpIn_seq ?_
   refine wpIn_region_lit ?_
   refine st_rdF (v := Value.func (.yield l_) #[] #[]) hA (by kernel_rfl) (by kernel_rfl) (by kernel_rfl) (by kernel_rfl) hW.cls (Rd.pure fun _ => by kernel_rfl) ?_; clear hA ac; intro ac hA
   refine st_rdF (v := Value.int .u32 y7.1) hA (by kernel_rfl) (by kernel_rfl) (by kernel_rfl) (by kernel_rfl) hW.cls (Rd.pure fun _ => by kernel_rfl) ?_; clear hA ac; intro ac hA
   refine stF hA (by kernel_rfl) (by kernel_rfl) (by kernel_rfl) (by kernel_rfl) (RunsF.yield hR_ (pre) (y7.1) (fun _ => by kernel_rfl) hW 1 rfl (comes_key hp hkk6) (hJ) hW.fr (hW.may _ (List.mem_of_getElem? (i := 1) rfl)) ?_); clear hA ac hW; intro v9 r10 w11 hv9t hv9f hW ac hA
   refine st_rdF (v := Value.bool (!v9)) hA (by kernel_rfl) (by kernel_rfl) (by kernel_rfl) (by kernel_rfl) hW.cls (Rd.pure fun _ => by kernel_rfl) ?_; clear hA ac; intro ac hA
   refine wpListIn_nil ?_
   refine thenN ?_
   refine wpIn_cond_split (t := !v9) (hA.eval (by kernel_rfl)) (fun h12 => ?_) (fun h12 => ?_)
   · skip
     have h12 := not_t h12
     first
     | (exfalso; clear hA hW; omega)
     | (
       refine wpIn_ret ?_
       refine blkR ?_
       refine thenR ?_
       refine blkR ?_
       refine retF (.inl rfl) hA ?_
       refine leave0 (by rfl)  ?_
       clear hA
       exact ranDone hW 1 rfl (.inr ⟨_, hv9f h12⟩))
   · skip
     have h12 := not_f h12
     first
     | (exfalso; clear hA hW; omega)
     | (
       refine wpIn_skip ?_
       refine blkN ?_
       refine thenN ?_
       have hJn := hv9t h12; have hlt_ := er_len_ hkk6
       exact ⟨(List.eraseIdx left k6).length, by omega, List.eraseIdx left k6, (some y7), r10, pre ++ [y7.1], rfl, by exact hJn, by exact key_step hp hkk6, hA.sub ⟨⟨by kernel_rfl, by kernel_rfl⟩, ⟨by kernel_rfl, by kernel_rfl⟩, trivial⟩, (hW.pick [0, 1] (by decide) rfl).pickG [0, 1, 2] rfl⟩)

set_option maxRecDepth 100000 in
theorem e_keys_26 (b : Nat) (h : List (Int × Nat)) (w : World) (ho_x : (mapR b (fun a : Int => Value.int .u32 a) (fun x_ : Nat => Value.pointer (some ⟨x_, 0, none⟩)) h).p w) : Calls Try.prog 26 #[Value.map (some b)] w (fun e w' => ∃ (lb : Array Value) (g : Res), e = .returned (Value.func (.func 44) #[] lb) ∧ Iter Try.prog 44 lb (fun x_ : Int => #[Value.int .u32 x_]) (fun l_ => l_.Perm (keys h)) [g] ∧ g.from_ [mapR b (fun a : Int => Value.int .u32 a) (fun x_ : Nat => Value.pointer (some ⟨x_, 0, none⟩)) h] w w' ∧ Fr No w w') := by
 have _hu := ho_x; clear _hu
 refine enter_E 4 Try.func26 rfl rfl (by kernel_rfl) (L := [(0, Value.map (some b))]) (by kernel_rfl) ?_
 intro ac hA
 have hW := Ws.start w No
 have hW := hW.mapG ho_x
 refine wp_seq ?_
 refine wp_region_lit ?_
 refine st_s hA (Runs.cells (fun b => Value.pointer (some ⟨b, 0, none⟩)) #[Value.map (some b)] 53 (fun _ => by kernel_rfl) hW ?_); clear hA ac hW; intro b1 w2 hW hb1 hfw2 ac hA
 refine st_p (Value.nilFunc) hA ?_; clear hA ac; intro ac hA
 refine wpList_nil ?_
 refine thenN ?_
 refine wp_seq ?_
 refine wp_region_lit ?_
 refine st_p (Value.func (.func 44) #[] #[Value.pointer (some ⟨b1, 0, none⟩)]) hA ?_; clear hA ac; intro ac hA
 refine st_p (Value.func (.func 44) #[] #[Value.pointer (some ⟨b1, 0, none⟩)]) hA ?_; clear hA ac; intro ac hA
 refine wpList_nil ?_
 refine thenN ?_
 refine wp_ret ?_
 refine ret1 (v := Value.func (.func 44) #[] #[Value.pointer (some ⟨b1, 0, none⟩)]) (by rfl) hA (Got.tmp hA (by kernel_rfl) (by kernel_rfl)) ?_
 clear hA
 exact ⟨_, _, rfl, iter_many (it_44 b1 b h), from_many (froms_cons (hW.outOwn 0 rfl (fun _ h => h)) (froms_cons (hW.outArg 0 rfl (.head _)) froms_nil)), hW.fr⟩

set_option maxRecDepth 100000 in
theorem e_app_50_44 (lb_q : Array Value) (g_q : Res) (Sx_q : List Int → Prop) (w : World) (hI_q : Iter Try.prog 44 lb_q (fun x_ : Int => #[Value.int .u32 x_]) Sx_q [g_q]) (hg_q : g_q.p w) (hgl_q : ∀ x_ ∈ g_q.fp, x_ < w.heap.size) (hb_ : ∀ l_, Sx_q l_ → l_.length ≤ 100000) : Calls Try.prog 50 #[Value.slice none 0 0, Value.func (.func 44) #[] lb_q] w (fun e w' => ∃ ks : List Int, ∃ (A_o : Option Addr) (c_o : Nat), e = .returned (Value.slice A_o (ks).length c_o) ∧ (Sx_q ks) ∧ (ks).length ≤ c_o ∧ Made (rowR 35 1 enU4 (.slice A_o (ks).length c_o) ks) w w') := by
 have _hu := hb_; clear _hu
 refine enter_F 13 Try.func50 rfl rfl (by kernel_rfl) (L := [(0, Value.slice none 0 0), (1, Value.func (.func 44) #[] lb_q)]) (by kernel_rfl) ?_
 intro ac hA
 have hW := Ws.start w No
 have hW := hW.addG g_q hg_q hgl_q (by simp)
 refine wpIn_seq ?_
 refine wpIn_region_lit ?_
 refine stF hA (by kernel_rfl) (by kernel_rfl) (by kernel_rfl) (by kernel_rfl) (RunsF.of (Runs.cells (fun b => Value.pointer (some ⟨b, 0, none⟩)) #[Value.slice none 0 0] 38 (fun _ => by kernel_rfl) hW ?_)); clear hA ac hW; intro b1 w2 hW hb1 hfw2 ac hA
 refine st_rdF (v := Value.slice none 0 0) hA (by kernel_rfl) (by kernel_rfl) (by kernel_rfl) (by kernel_rfl) hW.cls (Rd.pure fun _ => by kernel_rfl) ?_; clear hA ac; intro ac hA
 refine wpListIn_nil ?_
 refine thenN ?_
 refine wpIn_seq ?_
 refine wpIn_seq ?_
 have hW := hW.addNil 35 1 enU4
 refine wpIn_region_lit ?_
 refine st_rdF (v := Value.func (.func 44) #[] lb_q) hA (by kernel_rfl) (by kernel_rfl) (by kernel_rfl) (by kernel_rfl) hW.cls (Rd.pure fun _ => by kernel_rfl) ?_; clear hA ac; intro ac hA
 refine wpListIn_nil ?_
 refine thenN ?_
 refine wpIn_block ?_
 refine wp_range (encs := (fun x_ : Int => #[Value.int .u32 x_])) (Sx := Sx_q) hA (by kernel_rfl) (by kernel_rfl) (enters_of Try.func44 (by kernel_rfl) rfl) (by kernel_rfl) (fun _ => rfl) hI_q (List.forall_mem_singleton.2 (List.mem_of_getElem? (i := 0) rfl)) (fun pre_ H_ => ∃ A : Option Addr, ∃ c : Nat, True ∧ (pre_.length ≤ c) ∧ H_ = [Cel b1 #[Value.slice A pre_.length c] 38, rowR 35 1 enU4 (Value.slice A pre_.length c) pre_]) (fun _ _ _ => False) (H := [Cel b1 #[Value.slice none 0 0] 38, rowR 35 1 enU4 (Value.slice none 0 0) ([] : List Int)]) (K := []) (hW.pick [1, 0] (by decide) rfl) ⟨none, 0, trivial, by simp, rfl⟩ ?_ ?_ ?_
 · skip
   clear hA ac hW; intro l_3 rd_3 bs_3 pre_ x_ Hk_ w4 T_3 ac hrd_3 hbs_3 hbr_3 hok_ hJ_ hA hW hB_3 hT_3
   obtain ⟨A, c, _, hcap, rfl⟩ := hJ_
   obtain ⟨y5, h_⟩ : ∃ y_, y_ = x_ := ⟨_, rfl⟩; subst h_
   replace hA : Fm 13 [] [(0, Value.slice none 0 0), (1, Value.func (.func 44) #[] lb_q), (2, Value.pointer (some ⟨b1, 0, none⟩)), (4, Value.slice none 0 0), (6, Value.func (.func 44) #[] lb_q), (7, Value.int .u32 y5)] ac := hA.sub ⟨⟨by kernel_rfl, by kernel_rfl⟩, ⟨by kernel_rfl, by kernel_rfl⟩, ⟨by kernel_rfl, by kernel_rfl⟩, ⟨by kernel_rfl, by kernel_rfl⟩, ⟨by kernel_rfl, by kernel_rfl⟩, ⟨by kernel_rfl, by kernel_rfl⟩, trivial⟩
   have hpl_ := comes_lt hok_ hb_
   refine wpIn_region_lit ?_
   refine st_rdF (v := Value.int .u32 y5) hA (by kernel_rfl) (by kernel_rfl) (by kernel_rfl) (by kernel_rfl) hW.cls (Rd.pure fun _ => by kernel_rfl) ?_; clear hA ac; intro ac hA
   refine wpListIn_nil ?_
   refine thenN ?_
   refine begun (bs := bs_3) (H' := [bs_3, Cel b1 #[Value.slice A pre_.length c] 38, rowR 35 1 enU4 (Value.slice A pre_.length c) pre_]) hW 0 rfl (fun b hb => by rw [hbs_3] at hb; rw [hrd_3]; exact hb) rfl ?_; clear hW; intro w6 hW
   refine wpIn_block ?_
   refine wpIn_region_lit ?_
   refine st_rdF (v := Value.slice A pre_.length c) hA (by kernel_rfl) (by kernel_rfl) (by kernel_rfl) (by kernel_rfl) hW.cls (Rd.load (b := b1) (i := 0) (by kernel_rfl) (fun _ hw => (hw.1).cel 1 rfl) (by kernel_rfl)) ?_; clear hA ac; intro ac hA
   refine st_rdF (v := Value.int .u32 y5) hA (by kernel_rfl) (by kernel_rfl) (by kernel_rfl) (by kernel_rfl) hW.cls (Rd.pure fun _ => by kernel_rfl) ?_; clear hA ac; intro ac hA
   refine stF hA (by kernel_rfl) (by kernel_rfl) (by kernel_rfl) (by kernel_rfl) (RunsF.of (Runs.cells (fun b => Value.slice (some ⟨b, 0, none⟩) 1 1) #[Value.int .u32 y5] 35 (fun _ => by kernel_rfl) hW ?_)); clear hA ac hW; intro b7 w8 hW hb7 hfw8 ac hA
   refine stF hA (by kernel_rfl) (by kernel_rfl) (by kernel_rfl) (by kernel_rfl) (RunsF.of (Runs.appOwn (B := (some ⟨b7, 0, none⟩)) (k := 1) (E := 35) (sz := 1) (en := enU4) (l := pre_) (m := ([y5] : List Int)) (i := 3) (by kernel_rfl) (by kernel_rfl) elt_U4 (by kernel_rfl) hW rfl (rowAt_cel ((hW).cel 0 rfl) ([y5] : List Int) (by rfl) elt_U4.len) (by first | omega | (simp; done) | (simp; omega)) (by first | omega | (simp; done) | (simp; omega)) ?_)); clear hA ac hW; intro A9 c10 w11 hW hcc10 ac hA
   refine stF hA (by kernel_rfl) (by kernel_rfl) (by kernel_rfl) (by kernel_rfl) (RunsF.of (Runs.store (v := Value.slice A9 (pre_ ++ ([y5] : List Int)).length c10) (b := b1) (j := 0) (n := 1) (cs' := #[Value.slice A9 (pre_ ++ ([y5] : List Int)).length c10]) (H' := [Cel b7 #[Value.int .u32 y5] 35, bs_3, Cel b1 #[Value.slice A9 (pre_ ++ ([y5] : List Int)).length c10] 38, rowR 35 1 enU4 (Value.slice A9 (pre_ ++ ([y5] : List Int)).length c10) (pre_ ++ ([y5] : List Int))]) (by kernel_rfl) (by kernel_rfl) (by kernel_rfl) (by kernel_rfl) (by kernel_rfl) hW 2 (by rfl) (Nat.le_of_ble_eq_true (by kernel_rfl)) (by kernel_rfl) (by rfl) ?_)); clear hA ac hW; intro w12 hW ac hA
   refine wpListIn_nil ?_
   refine blkN ?_
   exact ⟨_, ⟨A9, c10, trivial, by exact hcc10, rfl⟩, (hW.pick [1, 2, 3] (by decide) rfl).pickG [0] rfl⟩
 · skip
   clear hA ac hW; intro D13 pre_ Hk_ w14 ac hS_ hJ_ hA hW
   obtain ⟨A, c, _, hcap, rfl⟩ := hJ_
   replace hW : Ws w No [Cel b1 #[Value.slice A pre_.length c] 38, rowR 35 1 enU4 (Value.slice A pre_.length c) pre_, DefR D13] [g_q] w14 := hW
   refine blkN ?_
   refine thenN ?_
   refine wpIn_seq ?_
   refine wpIn_region_lit ?_
   refine st_rdF (v := Value.slice A pre_.length c) hA (by kernel_rfl) (by kernel_rfl) (by kernel_rfl) (by kernel_rfl) hW.cls (Rd.load (b := b1) (i := 0) (by kernel_rfl) (fun _ hw => (hw.1).cel 0 rfl) (by kernel_rfl)) ?_; clear hA ac; intro ac hA
   refine st_rdF (v := Value.slice A pre_.length c) hA (by kernel_rfl) (by kernel_rfl) (by kernel_rfl) (by kernel_rfl) hW.cls (Rd.pure fun _ => by kernel_rfl) ?_; clear hA ac; intro ac hA
   refine wpListIn_nil ?_
   refine thenN ?_
   refine wpIn_ret ?_
   refine retF (.inl rfl) hA ?_
   refine leaveD (H' := [Cel b1 #[Value.slice A pre_.length c] 38, rowR 35 1 enU4 (Value.slice A pre_.length c) pre_]) hW 2 rfl rfl ?_; clear hW; intro w15 hW
   refine leave1 (v := Value.slice A pre_.length c) (by rfl) (GotF.tmp hA (by kernel_rfl) (by kernel_rfl)) ?_
   clear hA
   exact ⟨pre_, A, c, by first | rfl | (simp; done), by exact hS_, (own_cap ((hW).get 1 rfl)), hW.madeRow 1 rfl⟩
 · skip
   clear hA ac hW; intro D16 c_ pre_ Hk_ w17 ac hJ_ hA hW
   exact hJ_.elim

set_option maxRecDepth 100000 in
theorem e_col_42_44 (lb_q : Array Value) (g_q : Res) (Sx_q : List Int → Prop) (w : World) (hI_q : Iter Try.prog 44 lb_q (fun x_ : Int => #[Value.int .u32 x_]) Sx_q [g_q]) (hg_q : g_q.p w) (hgl_q : ∀ x_ ∈ g_q.fp, x_ < w.heap.size) (hb_ : ∀ l_, Sx_q l_ → l_.length ≤ 100000) : Calls Try.prog 42 #[Value.func (.func 44) #[] lb_q] w (fun e w' => ∃ ks : List Int, ∃ (A_o : Option Addr) (c_o : Nat), e = .returned (Value.slice A_o (ks).length c_o) ∧ (Sx_q ks) ∧ (ks).length ≤ c_o ∧ Made (rowR 35 1 enU4 (.slice A_o (ks).length c_o) ks) w w') := by
 have _hu := hb_; clear _hu
 refine enter_E 5 Try.func42 rfl rfl (by kernel_rfl) (L := [(0, Value.func (.func 44) #[] lb_q)]) (by kernel_rfl) ?_
 intro ac hA
 have hW := Ws.start w No
 have hW := hW.addG g_q hg_q hgl_q (by simp)
 refine wp_seq ?_
 refine wp_region_lit ?_
 refine st_p (Value.slice none 0 0) hA ?_; clear hA ac; intro ac hA
 refine wpList_nil ?_
 refine thenN ?_
 refine wp_seq ?_
 refine wp_region_lit ?_
 refine st_p (Value.func (.func 44) #[] lb_q) hA ?_; clear hA ac; intro ac hA
 refine st_s hA (Runs.call (fun _ => by kernel_rfl) (e_app_50_44 lb_q g_q Sx_q w hI_q ((hW).getG 0 rfl) ((hW).glt _ (List.mem_of_getElem? (i := 0) rfl)) (by assumption)) ?_)
 rintro _ w1 ⟨g2, Ao3, co4, rfl, hw1_hS, hcco4, hu_⟩; refine ⟨_, rfl, ?_⟩; replace hW := hW.made hu_; clear hA ac; intro ac hA
 refine st_p (Value.slice Ao3 (g2).length co4) hA ?_; clear hA ac; intro ac hA
 refine wpList_nil ?_
 refine thenN ?_
 refine wp_ret ?_
 refine ret1 (v := Value.slice Ao3 (g2).length co4) (by rfl) hA (Got.tmp hA (by kernel_rfl) (by kernel_rfl)) ?_
 clear hA
 exact ⟨g2, Ao3, co4, by first | rfl | (simp; done), by assumption, (own_cap ((hW).get 0 rfl)), hW.madeRow 0 rfl⟩

set_option maxRecDepth 100000 in
theorem e_sorted (lb_q : Array Value) (g_q : Res) (Sx_q : List Int → Prop) (w : World) (hI_q : Iter Try.prog 44 lb_q (fun x_ : Int => #[Value.int .u32 x_]) Sx_q [g_q]) (hg_q : g_q.p w) (hgl_q : ∀ x_ ∈ g_q.fp, x_ < w.heap.size) (hb_ : ∀ l_, Sx_q l_ → l_.length < 50) : Calls Try.prog 25 #[Value.func (.func 44) #[] lb_q] w (fun e w' => ∃ ks : List Int, ∃ (A_o : Option Addr) (c_o : Nat), e = .returned (Value.slice A_o (ks).length c_o) ∧ (∃ l0, Sx_q l0 ∧ ks.Perm l0) ∧ (ks.Pairwise fun x y => x ≤ y) ∧ (ks).length ≤ c_o ∧ Made (rowR 35 1 enU4 (.slice A_o (ks).length c_o) ks) w w') := by
 have _hu := hb_; clear _hu
 refine enter_E 9 Try.func25 rfl rfl (by kernel_rfl) (L := [(0, Value.func (.func 44) #[] lb_q)]) (by kernel_rfl) ?_
 intro ac hA
 have hW := Ws.start w No
 have hW := hW.addG g_q hg_q hgl_q (by simp)
 refine wp_seq ?_
 refine wp_region_lit ?_
 refine st_p (Value.slice none 0 0) hA ?_; clear hA ac; intro ac hA
 refine wpList_nil ?_
 refine thenN ?_
 refine wp_seq ?_
 refine wp_region_lit ?_
 refine st_p (Value.func (.func 44) #[] lb_q) hA ?_; clear hA ac; intro ac hA
 refine st_s hA (Runs.call (fun _ => by kernel_rfl) (e_col_42_44 lb_q g_q Sx_q w hI_q ((hW).getG 0 rfl) ((hW).glt _ (List.mem_of_getElem? (i := 0) rfl)) (by first | omega | exact hb_ _ (by assumption) | (intro l_ h_; have := hb_ l_ h_; omega))) ?_)
 rintro _ w1 ⟨g2, Ao3, co4, rfl, hw1_hS, hcco4, hu_⟩; refine ⟨_, rfl, ?_⟩; replace hW := hW.made hu_; clear hA ac; intro ac hA
 refine st_p (Value.slice Ao3 (g2).length co4) hA ?_; clear hA ac; intro ac hA
 refine wpList_nil ?_
 refine thenN ?_
 refine wp_seq ?_
 refine wp_region_lit ?_
 refine st_p (Value.slice Ao3 (g2).length co4) hA ?_; clear hA ac; intro ac hA
 refine st_s hA (Runs.call (fun _ => by kernel_rfl) (e_sort Ao3 (g2).length co4 g2 w1 ((hW).get 0 rfl) ((hW).lt _ (List.mem_of_getElem? (i := 0) rfl)) (by first | omega | exact hb_ _ (by assumption) | (intro l_ h_; have := hb_ l_ h_; omega))) ?_)
 rintro _ w6 ⟨u7, rfl, hw6_hP, hw6_hS, hu_⟩; refine ⟨_, rfl, ?_⟩; replace hW := hW.upd (H' := [rowR 35 1 enU4 (Value.slice Ao3 (g2).length co4) u7]) 0 rfl hu_ rfl; clear hA ac; intro ac hA
 refine wpList_nil ?_
 refine thenN ?_
 refine wp_seq ?_
 refine wp_region_lit ?_
 refine st_p (Value.slice Ao3 (g2).length co4) hA ?_; clear hA ac; intro ac hA
 refine st_p (Value.slice Ao3 (g2).length co4) hA ?_; clear hA ac; intro ac hA
 refine wpList_nil ?_
 refine thenN ?_
 refine wp_ret ?_
 refine ret1 (v := Value.slice Ao3 (g2).length co4) (by rfl) hA (Got.tmp hA (by kernel_rfl) (by kernel_rfl)) ?_
 clear hA
 have hle_ := hw6_hP.length_eq; rw [← hle_] at hW ⊢
 exact ⟨u7, Ao3, co4, by first | rfl | (simp; done), by exact ⟨_, hw1_hS, hw6_hP⟩, by exact hw6_hS, (own_cap ((hW).get 0 rfl)), hW.madeRow 0 rfl⟩

set_option maxRecDepth 100000 in
theorem e_spages (m : Nat) (b : Nat) (V : VT22) (w : World) (ho_p : (ShR m b V).p w) (hl_p : ∀ x_ ∈ (ShR m b V).fp, x_ < w.heap.size) (hl : V.length < 50) (hh : ∀ e ∈ V, 0 ≤ e.1 ∧ e.1 ≤ 1048575) : Calls Try.prog 10 #[Value.pointer (some ⟨m, 0, none⟩)] w (fun e w' => ∃ ks : List Int, ∃ (A_o : Option Addr) (c_o : Nat), e = .returned (Value.slice A_o (ks).length c_o) ∧ (ks.Perm (keys (vals V))) ∧ (ks.Pairwise fun x y => x ≤ y) ∧ (ks).length ≤ c_o ∧ Made (rowR 35 1 enU4 (.slice A_o (ks).length c_o) ks) w w') := by
 have _hu := ho_p; have _hv := hl_p; clear _hu _hv
 have _hu := hl; clear _hu
 have _hu := hh; clear _hu
 refine enter_E 11 Try.func10 rfl rfl (by kernel_rfl) (L := [(0, Value.pointer (some ⟨m, 0, none⟩))]) (by kernel_rfl) ?_
 intro ac hA
 have hW := Ws.start w No
 have hW := hW.objG (L := [Cel m #[Value.map (some b)] 55, mapR b (fun a : Int => Value.int .u32 a) (fun x_ : Nat => Value.pointer (some ⟨x_, 0, none⟩)) (outs V), SubR (fun (c_ : Nat → Shade) (b_ : Nat) => PsR 4096 enShade 67 c_ b_) V]) ho_p hl_p
 clear ho_p hl_p
 refine wp_seq ?_
 refine wp_region_lit ?_
 refine st_p (Value.slice none 0 0) hA ?_; clear hA ac; intro ac hA
 refine wpList_nil ?_
 refine thenN ?_
 refine wp_seq ?_
 refine wp_seq ?_
 refine wp_region_lit ?_
 refine st_p (Value.pointer (some ⟨m, 0, none⟩)) hA ?_; clear hA ac; intro ac hA
 refine st_s hA (Runs.callS (v := Value.bool false) (fun _ => by kernel_rfl) (e_snone m b w (show _ = _ from (hW).getG 0 rfl)) ?_); clear hA ac; intro  ac hA
 refine wpList_nil ?_
 refine thenN ?_
 refine wp_cond_false (hA.eval (by kernel_rfl)) ?_
 refine wp_skip ?_
 refine thenN ?_
 refine wp_seq ?_
 refine wp_region_lit ?_
 refine st_p (Value.pointer (some ⟨m, 0, none⟩)) hA ?_; clear hA ac; intro ac hA
 refine st_p (Value.pointer (some ⟨m, 0, none⟩)) hA ?_; clear hA ac; intro ac hA
 refine st_p (Value.pointer (some ⟨m, 0, none⟩)) hA ?_; clear hA ac; intro ac hA
 refine st_q (Value.map (some b)) hA hW.cls (Rd.load (b := m) (i := 0) (by kernel_rfl) (fun _ hw => show _ = _ from (hw.1).getG 0 rfl) (by kernel_rfl)) ?_; clear hA ac; intro ac hA
 refine st_s hA ((Runs.call (fun _ => by kernel_rfl) (e_keys_26 b (outs V) w ((hW).getG 1 rfl)) ?_))
 rintro _ w1 ⟨lb2, g3, rfl, hIg3, hfg3, hfw1⟩; refine ⟨_, rfl, ?_⟩; have hW0 := hW; have hW := hW0.call hfw1; have hW := hW0.addFromAt hW hfg3 (in_cons (in_at 1 rfl) in_nil); clear hW0 hA ac; intro ac hA
 refine st_s hA (Runs.call (fun _ => by kernel_rfl) (e_sorted lb2 g3 (fun l_ => l_.Perm (keys (outs V))) w1 hIg3 ((hW).getG 0 rfl) ((hW).glt _ (List.mem_of_getElem? (i := 0) rfl)) (by first | omega | assumption | (intro l_ h_; have h2_ := List.Perm.length_eq h_; simp only [keys, outs, List.length_map] at h2_; omega))) ?_)
 rintro _ w4 ⟨g5, Ao6, co7, rfl, hw4_hp, hw4_hs, hcco7, hu_⟩; refine ⟨_, rfl, ?_⟩; replace hW := hW.made hu_; clear hA ac; intro ac hA
 refine st_p (Value.slice Ao6 (g5).length co7) hA ?_; clear hA ac; intro ac hA
 refine wpList_nil ?_
 refine thenN ?_
 refine wp_ret ?_
 refine ret1 (v := Value.slice Ao6 (g5).length co7) (by rfl) hA (Got.tmp hA (by kernel_rfl) (by kernel_rfl)) ?_
 clear hA
 obtain ⟨l0_, hl0_, hl1_⟩ := hw4_hp
 exact ⟨g5, Ao6, co7, by first | rfl | (simp; done), by rw [← keys_outs]; exact hl1_.trans hl0_, by exact hw4_hs, (own_cap ((hW).get 0 rfl)), hW.madeRow 0 rfl⟩

set_option maxRecDepth 100000 in
theorem e_vec1 (c : Cell22) (w : World)  : Calls Try.prog 40 #[c.v] w (fun e w' => e = .returned (Value.tuple #[Value.int .u32 c.addr, Value.bool (decide (c.x.vec > 0))]) ∧ Fr No w w') := by
 refine enter_E 10 Try.func40 rfl rfl (by kernel_rfl) (L := [(0, c.v)]) (by kernel_rfl) ?_
 intro ac hA
 have hW := Ws.start w No
 refine wp_seq ?_
 refine wp_region_lit ?_
 refine st_s hA (Runs.cells (fun b => Value.pointer (some ⟨b, 0, none⟩)) #[Value.int .u32 c.addr, Value.int .u64 c.x.wr, Value.int .i64 c.x.ws.f, Value.int .i64 c.x.ws.pc, Value.int .u64 c.x.rd, Value.int .i64 c.x.rs.f, Value.int .i64 c.x.rs.pc, Value.int .i64 c.x.vec] 81 (fun _ => by kernel_rfl) hW ?_); clear hA ac hW; intro b1 w2 hW hb1 hfw2 ac hA
 refine st_p (Value.int .u32 0) hA ?_; clear hA ac; intro ac hA
 refine st_p (Value.bool false) hA ?_; clear hA ac; intro ac hA
 refine wpList_nil ?_
 refine thenN ?_
 refine wp_seq ?_
 refine q_region (by kernel_rfl) (by kernel_rfl) hW ?_
 refine sq_p (Value.pointer (some ⟨b1, 0, none⟩)) hA ?_; clear hA ac; intro ac hA
 refine sq_q (Value.int .u32 c.addr) hA (Rd.load (b := b1) (i := 0) (by kernel_rfl) (fun _ hw => (hw.1).cel 0 rfl) (by kernel_rfl)) ?_; clear hA ac; intro ac hA
 refine sq_p (Value.pointer (some ⟨b1, 1, none⟩)) hA ?_; clear hA ac; intro ac hA
 refine sq_p (Value.pointer (some ⟨b1, 7, none⟩)) hA ?_; clear hA ac; intro ac hA
 refine sq_q (Value.int .i64 c.x.vec) hA (Rd.load (b := b1) (i := 7) (by kernel_rfl) (fun _ hw => (hw.1).cel 0 rfl) (by kernel_rfl)) ?_; clear hA ac; intro ac hA
 refine sq_p (Value.bool (decide ((c.x.vec : Int) > (0 : Int)))) hA ?_; clear hA ac; intro ac hA
 refine sq_p (Value.int .u32 c.addr) hA ?_; clear hA ac; intro ac hA
 refine sq_p (Value.bool (decide ((c.x.vec : Int) > (0 : Int)))) hA ?_; clear hA ac; intro ac hA
 refine sq_nil ?_; intro w3 hww3; have hW := hww3.1; have hfw3 := hww3.2; clear hww3
 refine thenN ?_
 refine wp_ret ?_
 refine ret2 (v1 := Value.int .u32 c.addr) (v2 := Value.bool (decide ((c.x.vec : Int) > (0 : Int)))) (by rfl) hA (Got.tmp hA (by kernel_rfl) (by kernel_rfl)) (Got.tmp hA (by kernel_rfl) (by kernel_rfl)) ?_
 clear hA
 exact ⟨retv (by rfl), hW.fr⟩

set_option maxRecDepth 100000 in
theorem e_all1 (c : Cell22) (w : World)  : Calls Try.prog 36 #[c.v] w (fun e w' => e = .returned (Value.tuple #[c.v, Value.bool (!decide (c.x = (⟨0, ⟨0, 0⟩, 0, ⟨0, 0⟩, 0⟩ : Shade)))]) ∧ Fr No w w') := by
 refine enter_E 9 Try.func36 rfl rfl (by kernel_rfl) (L := [(0, c.v)]) (by kernel_rfl) ?_
 intro ac hA
 have hW := Ws.start w No
 refine wp_seq ?_
 refine wp_region_lit ?_
 refine st_s hA (Runs.cells (fun b => Value.pointer (some ⟨b, 0, none⟩)) #[Value.int .u32 c.addr, Value.int .u64 c.x.wr, Value.int .i64 c.x.ws.f, Value.int .i64 c.x.ws.pc, Value.int .u64 c.x.rd, Value.int .i64 c.x.rs.f, Value.int .i64 c.x.rs.pc, Value.int .i64 c.x.vec] 81 (fun _ => by kernel_rfl) hW ?_); clear hA ac hW; intro b1 w2 hW hb1 hfw2 ac hA
 refine st_s hA (Runs.cells (fun b => Value.pointer (some ⟨b, 0, none⟩)) #[Value.int .u32 0, Value.int .u64 0, Value.int .i64 0, Value.int .i64 0, Value.int .u64 0, Value.int .i64 0, Value.int .i64 0, Value.int .i64 0] 81 (fun _ => by kernel_rfl) hW ?_); clear hA ac hW; intro b3 w4 hW hb3 hfw4 ac hA
 refine st_p (Value.bool false) hA ?_; clear hA ac; intro ac hA
 refine wpList_nil ?_
 refine thenN ?_
 refine wp_seq ?_
 refine wp_cut (fun ac_ wl_ => Fm 9 [] [(0, c.v), (2, Value.pointer (some ⟨b3, 0, none⟩)), (3, Value.bool (!decide (c.x = (⟨0, (⟨0, 0⟩ : Site), 0, (⟨0, 0⟩ : Site), 0⟩ : Shade))))] ac_ ∧ Ws w No [Cel b3 #[Value.int .u32 c.addr, Value.int .u64 c.x.wr, Value.int .i64 c.x.ws.f, Value.int .i64 c.x.ws.pc, Value.int .u64 c.x.rd, Value.int .i64 c.x.rs.f, Value.int .i64 c.x.rs.pc, Value.int .i64 c.x.vec] 81, Cel b1 #[Value.int .u32 c.addr, Value.int .u64 c.x.wr, Value.int .i64 c.x.ws.f, Value.int .i64 c.x.ws.pc, Value.int .u64 c.x.rd, Value.int .i64 c.x.rs.f, Value.int .i64 c.x.rs.pc, Value.int .i64 c.x.vec] 81] [] wl_) ?_ ?_
 · refine sr_region (m := 7) (C := Ws w No [Cel b1 #[Value.int .u32 c.addr, Value.int .u64 c.x.wr, Value.int .i64 c.x.ws.f, Value.int .i64 c.x.ws.pc, Value.int .u64 c.x.rd, Value.int .i64 c.x.rs.f, Value.int .i64 c.x.rs.pc, Value.int .i64 c.x.vec] 81] []) (fun i => [0, 2].contains i) (fun i => [0, 2, 5].contains i) (fun i => [1, 3, 4, 6].contains i) (by kernel_rfl) (by kernel_rfl) (by kernel_rfl) (by kernel_rfl) hW ?_; clear hW; intro w5 hW hfw5 hR; have hC : Ws w No [Cel b1 #[Value.int .u32 c.addr, Value.int .u64 c.x.wr, Value.int .i64 c.x.ws.f, Value.int .i64 c.x.ws.pc, Value.int .u64 c.x.rd, Value.int .i64 c.x.rs.f, Value.int .i64 c.x.rs.pc, Value.int .i64 c.x.vec] 81] [] w5 := hW.pick [1] (by decide) rfl
   refine sr_t 0 (Value.agg #[Value.int .u32 c.addr, Value.int .u64 c.x.wr, Value.int .i64 c.x.ws.f, Value.int .i64 c.x.ws.pc, Value.int .u64 c.x.rd, Value.int .i64 c.x.rs.f, Value.int .i64 c.x.rs.pc, Value.int .i64 c.x.vec]) hR rfl hA hC (Rd.load (b := b1) (i := 0) (by kernel_rfl) (fun _ hw => (hw).cel 0 rfl) (by kernel_rfl)) ?_; clear hA ac; intro ac hA
   refine sr_p 1 (Value.pointer (some ⟨b1, 1, none⟩)) hR rfl hA ?_; clear hA ac; intro ac hA
   refine sr_t 2 (Value.agg #[Value.int .u64 c.x.wr, Value.int .i64 c.x.ws.f, Value.int .i64 c.x.ws.pc, Value.int .u64 c.x.rd, Value.int .i64 c.x.rs.f, Value.int .i64 c.x.rs.pc, Value.int .i64 c.x.vec]) hR rfl hA hC (Rd.load (b := b1) (i := 1) (by kernel_rfl) (fun _ hw => (hw).cel 0 rfl) (by kernel_rfl)) ?_; clear hA ac; intro ac hA
   refine sr_p 3 (Value.agg #[Value.int .u64 0, Value.int .i64 0, Value.int .i64 0, Value.int .u64 0, Value.int .i64 0, Value.int .i64 0, Value.int .i64 0]) hR rfl hA ?_; clear hA ac; intro ac hA
   refine sr_q 4 (Value.bool (!decide (c.x = (⟨0, (⟨0, 0⟩ : Site), 0, (⟨0, 0⟩ : Site), 0⟩ : Shade)))) hR rfl hA (Rd.neS (u := c.x.v) (v := (⟨0, (⟨0, 0⟩ : Site), 0, (⟨0, 0⟩ : Site), 0⟩ : Shade).v) (by kernel_rfl) (by kernel_rfl) rfl rfl (by kernel_rfl) (fun w => eq_Shade w c.x (⟨0, (⟨0, 0⟩ : Site), 0, (⟨0, 0⟩ : Site), 0⟩ : Shade))) ?_; clear hA ac; intro ac hA
   refine sr_one (i := 5) (by kernel_rfl) (sr_d rfl hA (Runs.store (v := Value.agg #[Value.int .u32 c.addr, Value.int .u64 c.x.wr, Value.int .i64 c.x.ws.f, Value.int .i64 c.x.ws.pc, Value.int .u64 c.x.rd, Value.int .i64 c.x.rs.f, Value.int .i64 c.x.rs.pc, Value.int .i64 c.x.vec]) (b := b3) (j := 0) (n := 8) (cs' := #[Value.int .u32 c.addr, Value.int .u64 c.x.wr, Value.int .i64 c.x.ws.f, Value.int .i64 c.x.ws.pc, Value.int .u64 c.x.rd, Value.int .i64 c.x.rs.f, Value.int .i64 c.x.rs.pc, Value.int .i64 c.x.vec]) (H' := [Cel b3 #[Value.int .u32 c.addr, Value.int .u64 c.x.wr, Value.int .i64 c.x.ws.f, Value.int .i64 c.x.ws.pc, Value.int .u64 c.x.rd, Value.int .i64 c.x.rs.f, Value.int .i64 c.x.rs.pc, Value.int .i64 c.x.vec] 81, Cel b1 #[Value.int .u32 c.addr, Value.int .u64 c.x.wr, Value.int .i64 c.x.ws.f, Value.int .i64 c.x.ws.pc, Value.int .u64 c.x.rd, Value.int .i64 c.x.rs.f, Value.int .i64 c.x.rs.pc, Value.int .i64 c.x.vec] 81]) (by kernel_rfl) (by kernel_rfl) (by kernel_rfl) (by kernel_rfl) (by kernel_rfl) hW 0 (by rfl) (Nat.le_of_ble_eq_true (by kernel_rfl)) (by kernel_rfl) (by rfl) ?_)); clear hA ac hW; intro w6 hW ac hA
   refine ⟨⟨fun _ => (hW.pick [1] (by decide) rfl).pickG [] rfl, fun h => absurd h (by decide)⟩, ?_⟩; have hC : Ws w No [Cel b1 #[Value.int .u32 c.addr, Value.int .u64 c.x.wr, Value.int .i64 c.x.ws.f, Value.int .i64 c.x.ws.pc, Value.int .u64 c.x.rd, Value.int .i64 c.x.rs.f, Value.int .i64 c.x.rs.pc, Value.int .i64 c.x.vec] 81] [] w6 := (hW.pick [1] (by decide) rfl).pickG [] rfl
   refine sr_p 6 (Value.bool (!decide (c.x = (⟨0, (⟨0, 0⟩ : Site), 0, (⟨0, 0⟩ : Site), 0⟩ : Shade)))) hR rfl hA ?_; clear hA ac; intro ac hA
   refine sr_done (by kernel_rfl) ?_ _
   exact ⟨hA.sub ⟨⟨by kernel_rfl, by kernel_rfl⟩, ⟨by kernel_rfl, by kernel_rfl⟩, ⟨by kernel_rfl, by kernel_rfl⟩, trivial⟩, (hW.pick [0, 1] (by decide) rfl).pickG [] rfl⟩
 clear hA ac hW; rintro ac w7 ⟨hA, hW⟩
 refine thenN ?_
 refine wp_ret ?_
 refine ret2 (v1 := Value.agg #[Value.int .u32 c.addr, Value.int .u64 c.x.wr, Value.int .i64 c.x.ws.f, Value.int .i64 c.x.ws.pc, Value.int .u64 c.x.rd, Value.int .i64 c.x.rs.f, Value.int .i64 c.x.rs.pc, Value.int .i64 c.x.vec]) (v2 := Value.bool (!decide (c.x = (⟨0, (⟨0, 0⟩ : Site), 0, (⟨0, 0⟩ : Site), 0⟩ : Shade)))) (by rfl) hA (Got.cell (b := b3) (i := 0) hA (by kernel_rfl) (by kernel_rfl) (hW.cel 0 rfl) (by kernel_rfl)) (Got.tmp hA (by kernel_rfl) (by kernel_rfl)) ?_
 clear hA
 exact ⟨retv (by rfl), hW.fr⟩

set_option maxRecDepth 100000 in
theorem e_gathV (m : Nat) (b : Nat) (V : VT22) (w : World) (ho_s_ : (ShR m b V).p w) (hl_s_ : ∀ x_ ∈ (ShR m b V).fp, x_ < w.heap.size) (hl : V.length < 50) (hh : ∀ e ∈ V, 0 ≤ e.1 ∧ e.1 ≤ 1048575) : Calls Try.prog 39 #[Value.pointer (some ⟨m, 0, none⟩), Value.func (.func 40) #[] #[]] w (fun e w' => ∃ ks : List Int, ∃ O_ : List Int, ∃ (A_o : Option Addr) (c_o : Nat), e = .returned (Value.slice A_o (O_).length c_o) ∧ (ks.Perm (keys (vals V))) ∧ (ks.Pairwise fun x y => x ≤ y) ∧ (O_ = gathOf pVec (vals V) ks) ∧ (O_).length ≤ c_o ∧ Made (rowR 35 1 enU4 (.slice A_o (O_).length c_o) O_) w w') := by
 have _hu := ho_s_; have _hv := hl_s_; clear _hu _hv
 have _hu := hl; clear _hu
 have _hu := hh; clear _hu
 refine enter_E 51 Try.func39 rfl rfl (by kernel_rfl) (L := [(0, Value.pointer (some ⟨m, 0, none⟩)), (1, Value.func (.func 40) #[] #[])]) (by kernel_rfl) ?_
 intro ac hA
 have hW := Ws.start w No
 have hW := hW.addG (ShR m b V) ho_s_ hl_s_ (by simp)
 have hW := hW.objG (L := [Cel m #[Value.map (some b)] 55, mapR b (fun a : Int => Value.int .u32 a) (fun x_ : Nat => Value.pointer (some ⟨x_, 0, none⟩)) (outs V), SubR (fun (c_ : Nat → Shade) (b_ : Nat) => PsR 4096 enShade 67 c_ b_) V]) ho_s_ hl_s_
 clear ho_s_ hl_s_
 refine wp_seq ?_
 refine wp_region_lit ?_
 refine st_p (Value.slice none 0 0) hA ?_; clear hA ac; intro ac hA
 refine wpList_nil ?_
 refine thenN ?_
 refine wp_seq ?_
 refine wp_seq ?_
 refine wp_region_lit ?_
 refine st_p (Value.pointer (some ⟨m, 0, none⟩)) hA ?_; clear hA ac; intro ac hA
 refine st_s hA (Runs.call (fun _ => by kernel_rfl) (e_spages m b V w ((hW).getG 3 rfl) ((hW).glt _ (List.mem_of_getElem? (i := 3) rfl)) (by first | omega | assumption) (by first | omega | assumption)) ?_)
 rintro _ w1 ⟨g2, Ao3, co4, rfl, hw1_hp, hw1_hs, hcco4, hu_⟩; refine ⟨_, rfl, ?_⟩; replace hW := hW.made hu_; clear hA ac; intro ac hA
 refine st_p (Value.int .i64 (((g2).length : Nat) : Int)) hA ?_; clear hA ac; intro ac hA
 refine st_p (Value.int .i64 0) hA ?_; clear hA ac; intro ac hA
 refine wpList_nil ?_
 refine thenN ?_
 refine wp_block ?_
 have hkl_ : g2.length < 50 := by have h_ := hw1_hp.length_eq; simp only [keys, List.length_map] at h_; rw [vals_len] at h_; omega
 have hW := hW.addNil 35 1 enU4
 refine wp_loop_m (fun m_ ac_ wl_ => ∃ k : Nat, ∃ O : List Int, ∃ A : Option Addr, ∃ c : Nat, m_ = g2.length - k ∧ (k ≤ g2.length) ∧ (O = gathOf pVec (vals V) (g2.take k)) ∧ (O.length ≤ 4096 * k) ∧ (O.length ≤ c) ∧ Fm 51 [] [(0, Value.pointer (some ⟨m, 0, none⟩)), (1, Value.func (.func 40) #[] #[]), (4, Value.slice A O.length c), (12, Value.slice Ao3 (g2).length co4), (13, Value.int .i64 (((g2).length : Nat) : Int)), (14, Value.int .i64 ((k : Nat) : Int))] ac_ ∧ Ws w No [rowR 35 1 enU4 (Value.slice A O.length c) O, rowR 35 1 enU4 (Value.slice Ao3 (g2).length co4) g2] [Cel m #[Value.map (some b)] 55, mapR b (fun a : Int => Value.int .u32 a) (fun x_ : Nat => Value.pointer (some ⟨x_, 0, none⟩)) (outs V), SubR (fun (c_ : Nat → Shade) (b_ : Nat) => PsR 4096 enShade 67 c_ b_) V, ShR m b V] wl_) _ ⟨0, [], none, 0, rfl, by omega, by rfl, by simp, by simp, hA.sub ⟨⟨by kernel_rfl, by kernel_rfl⟩, ⟨by kernel_rfl, by kernel_rfl⟩, ⟨by kernel_rfl, by kernel_rfl⟩, ⟨by kernel_rfl, by kernel_rfl⟩, ⟨by kernel_rfl, by kernel_rfl⟩, ⟨by kernel_rfl, by kernel_rfl⟩, trivial⟩, (hW.pick [0, 1] (by decide) rfl).pickG [0, 1, 2, 3] rfl⟩ ?_
 clear hA ac hW; rintro m_ ac w6 ⟨k, O, A, c, rfl, hk, hO, hOl, hcO, hA, hW⟩
 refine wp_seq ?_
 refine wp_region_lit ?_
 refine st_p (Value.bool (decide ((((k : Nat) : Int) : Int) < ((((g2).length : Nat) : Int) : Int)))) hA ?_; clear hA ac; intro ac hA
 refine wpList_nil ?_
 refine thenN ?_
 refine wp_seq ?_
 refine wp_cond_split (t := decide ((((k : Nat) : Int) : Int) < ((((g2).length : Nat) : Int) : Int))) (hA.eval (by kernel_rfl)) (fun h7 => ?_) (fun h7 => ?_)
 · skip
   have h7 := of_decide_eq_true h7
   first
   | (exfalso; clear hA hW; omega)
   | (
     refine wp_skip ?_
     refine thenN ?_
     refine wp_seq ?_
     refine wp_block ?_
     refine wp_seq ?_
     refine wp_region_lit ?_
     obtain ⟨y8, hy8⟩ : ∃ y, g2[k]? = some y := ⟨_, List.getElem?_eq_getElem (by first | omega | (simp; done) | (simp; omega))⟩
     obtain ⟨b9, o10, rfl, hbb9⟩ := row_some (rowR_at ((hW).get 1 rfl) elt_U4.len) hy8
     refine st_q (Value.pointer (some ⟨b9, o10 + k * 1, none⟩)) hA hW.cls (Rd.indexAddr (e := 35) (sz := 1) (b := b9) (off := o10) (n := (g2).length) (c := co4) (k := k) (by kernel_rfl) (by kernel_rfl) (by first | omega | (simp; done) | (simp; omega)) (fun _ => by kernel_rfl) (fun _ => by kernel_rfl)) ?_; clear hA ac; intro ac hA
     refine st_q (Value.int .u32 y8) hA hW.cls (Rd.loadRow (b := b9) (i := o10 + k * 1) (xs := [Value.int .u32 y8]) (by kernel_rfl) (fun _ hw => row_ld (rowR_at ((hw.1).get 1 rfl) elt_U4.len) hy8 (Fr.refl No _) (fun h => h) 0 1 (by kernel_rfl)) (by kernel_rfl)) ?_; clear hA ac; intro ac hA
     refine st_p (Value.int .u32 y8) hA ?_; clear hA ac; intro ac hA
     refine wpList_nil ?_
     refine thenN ?_
     refine wp_seq ?_
     refine wp_region_lit ?_
     refine st_p (Value.pointer (some ⟨m, 0, none⟩)) hA ?_; clear hA ac; intro ac hA
     refine st_p (Value.pointer (some ⟨m, 0, none⟩)) hA ?_; clear hA ac; intro ac hA
     refine st_p (Value.pointer (some ⟨m, 0, none⟩)) hA ?_; clear hA ac; intro ac hA
     refine st_q (Value.map (some b)) hA hW.cls (Rd.load (b := m) (i := 0) (by kernel_rfl) (fun _ hw => show _ = _ from (hw.1).getG 0 rfl) (by kernel_rfl)) ?_; clear hA ac; intro ac hA
     refine st_p (Value.int .u32 y8) hA ?_; clear hA ac; intro ac hA
     rcases hk11 : look (outs V) (y8 : Int) with _ | bk12
     · skip
       first
       | (exfalso; clear hA hW; omega)
       | (exfalso; clear hA hW; rw [outs_none] at hk11; exact look_none.1 hk11 ((hw1_hp.mem_iff).1 (List.mem_of_getElem? hy8)); done)
       | (
         fail)
     · skip
       first
       | (exfalso; clear hA hW; omega)
       | (
         obtain ⟨i13, c14, hi15, hv16⟩ := outs_at hk11
         have hW := hW.subG 2 rfl hi15
         replace hW : Ws w No [rowR 35 1 enU4 (Value.slice A O.length c) O, rowR 35 1 enU4 (Value.slice (some ⟨b9, o10, none⟩) (g2).length co4) g2] [PsR 4096 enShade 67 c14 bk12, Cel m #[Value.map (some b)] 55, mapR b (fun a : Int => Value.int .u32 a) (fun x_ : Nat => Value.pointer (some ⟨x_, 0, none⟩)) (outs V), SubR (fun (c_ : Nat → Shade) (b_ : Nat) => PsR 4096 enShade 67 c_ b_) V, ShR m b V] w6 := hW
         refine st_q (Value.pointer (some ⟨bk12, 0, none⟩)) hA hW.cls ((Rd.lookup (k := 35) (e := 65) (ek := (fun a : Int => Value.int .u32 a)) (ev := (fun x_ : Nat => Value.pointer (some ⟨x_, 0, none⟩))) (m := (outs V)) (z := Value.pointer none) (y8 : Int) false (by kernel_rfl) (by kernel_rfl) (KeyE.int (by kernel_rfl)) (by kernel_rfl) (fun _ => by kernel_rfl) (fun _ hw => (hw.1).getG 2 rfl)).cast (by rw [hk11]; rfl)) ?_; clear hA ac; intro ac hA
         refine st_p (Value.pointer (some ⟨bk12, 0, none⟩)) hA ?_; clear hA ac; intro ac hA
         refine st_p (Value.int .i64 0) hA ?_; clear hA ac; intro ac hA
         refine wpList_nil ?_
         refine thenN ?_
         refine wp_block ?_
         refine wp_loop_m (fun m_ ac_ wl_ => ∃ i : Nat, ∃ O2 : List Int, ∃ A2 : Option Addr, ∃ c2 : Nat, m_ = 4096 - i ∧ (i ≤ 4096) ∧ (O2 = gathOf pVec (vals V) (g2.take k) ++ pgG pVec y8 c14 i) ∧ (O2.length ≤ 4096 * k + i) ∧ (O2.length ≤ c2) ∧ Fm 51 [] [(0, Value.pointer (some ⟨m, 0, none⟩)), (1, Value.func (.func 40) #[] #[]), (4, Value.slice A2 O2.length c2), (6, Value.int .u32 y8), (12, Value.slice (some ⟨b9, o10, none⟩) (g2).length co4), (13, Value.int .i64 (((g2).length : Nat) : Int)), (14, Value.int .i64 ((k : Nat) : Int)), (23, Value.pointer (some ⟨bk12, 0, none⟩)), (25, Value.int .i64 ((i : Nat) : Int))] ac_ ∧ Ws w No [rowR 35 1 enU4 (Value.slice A2 O2.length c2) O2, rowR 35 1 enU4 (Value.slice (some ⟨b9, o10, none⟩) (g2).length co4) g2] [PsR 4096 enShade 67 c14 bk12, Cel m #[Value.map (some b)] 55, mapR b (fun a : Int => Value.int .u32 a) (fun x_ : Nat => Value.pointer (some ⟨x_, 0, none⟩)) (outs V), SubR (fun (c_ : Nat → Shade) (b_ : Nat) => PsR 4096 enShade 67 c_ b_) V, ShR m b V] wl_) _ ⟨0, O, A, c, rfl, by omega, by rw [hO]; simp [pgG], by omega, by exact hcO, hA.sub ⟨⟨by kernel_rfl, by kernel_rfl⟩, ⟨by kernel_rfl, by kernel_rfl⟩, ⟨by kernel_rfl, by kernel_rfl⟩, ⟨by kernel_rfl, by kernel_rfl⟩, ⟨by kernel_rfl, by kernel_rfl⟩, ⟨by kernel_rfl, by kernel_rfl⟩, ⟨by kernel_rfl, by kernel_rfl⟩, ⟨by kernel_rfl, by kernel_rfl⟩, ⟨by kernel_rfl, by kernel_rfl⟩, trivial⟩, (hW.pick [0, 1] (by decide) rfl).pickG [0, 1, 2, 3, 4] rfl⟩ ?_
         clear hA ac hW; rintro m_ ac w17 ⟨i, O2, A2, c2, rfl, hi, hO2, hOl2, hcO2, hA, hW⟩
         refine wp_seq ?_
         refine wp_region_lit ?_
         refine st_p (Value.bool (decide ((((i : Nat) : Int) : Int) < (4096 : Int)))) hA ?_; clear hA ac; intro ac hA
         refine wpList_nil ?_
         refine thenN ?_
         refine wp_seq ?_
         refine wp_cond_split (t := decide ((((i : Nat) : Int) : Int) < (4096 : Int))) (hA.eval (by kernel_rfl)) (fun h18 => ?_) (fun h18 => ?_)
         · skip
           have h18 := of_decide_eq_true h18
           first
           | (exfalso; clear hA hW; omega)
           | (
             refine wp_skip ?_
             refine thenN ?_
             refine wp_seq ?_
             refine wp_block ?_
             refine wp_seq ?_
             refine wp_cut (fun ac_ wl_ => ∃ br6_4 : Nat, Fm 51 [] [(0, Value.pointer (some ⟨m, 0, none⟩)), (1, Value.func (.func 40) #[] #[]), (4, Value.slice A2 O2.length c2), (6, Value.int .u32 y8), (7, Value.int .i64 ((i : Nat) : Int)), (8, Value.pointer (some ⟨br6_4, 0, none⟩)), (12, Value.slice (some ⟨b9, o10, none⟩) (g2).length co4), (13, Value.int .i64 (((g2).length : Nat) : Int)), (14, Value.int .i64 ((k : Nat) : Int)), (23, Value.pointer (some ⟨bk12, 0, none⟩)), (25, Value.int .i64 ((i : Nat) : Int)), (26, Value.bool (decide ((((i : Nat) : Int) : Int) < (4096 : Int))))] ac_ ∧ Ws w No [Cel br6_4 #[Value.int .u64 (c14 i).wr, Value.int .i64 (c14 i).ws.f, Value.int .i64 (c14 i).ws.pc, Value.int .u64 (c14 i).rd, Value.int .i64 (c14 i).rs.f, Value.int .i64 (c14 i).rs.pc, Value.int .i64 (c14 i).vec] 31, rowR 35 1 enU4 (Value.slice A2 O2.length c2) O2, rowR 35 1 enU4 (Value.slice (some ⟨b9, o10, none⟩) (g2).length co4) g2] [PsR 4096 enShade 67 c14 bk12, Cel m #[Value.map (some b)] 55, mapR b (fun a : Int => Value.int .u32 a) (fun x_ : Nat => Value.pointer (some ⟨x_, 0, none⟩)) (outs V), SubR (fun (c_ : Nat → Shade) (b_ : Nat) => PsR 4096 enShade 67 c_ b_) V, ShR m b V] wl_) ?_ ?_
             · refine sr_region (m := 7) (C := Ws w No [rowR 35 1 enU4 (Value.slice A2 O2.length c2) O2, rowR 35 1 enU4 (Value.slice (some ⟨b9, o10, none⟩) (g2).length co4) g2] [PsR 4096 enShade 67 c14 bk12, Cel m #[Value.map (some b)] 55, mapR b (fun a : Int => Value.int .u32 a) (fun x_ : Nat => Value.pointer (some ⟨x_, 0, none⟩)) (outs V), SubR (fun (c_ : Nat → Shade) (b_ : Nat) => PsR 4096 enShade 67 c_ b_) V, ShR m b V]) (fun i => [3].contains i) (fun i => [3, 4].contains i) (fun i => [0, 1, 2, 5].contains i) (by kernel_rfl) (by kernel_rfl) (by kernel_rfl) (by kernel_rfl) hW ?_; clear hW; intro w19 hW hfw19 hR; have hC : Ws w No [rowR 35 1 enU4 (Value.slice A2 O2.length c2) O2, rowR 35 1 enU4 (Value.slice (some ⟨b9, o10, none⟩) (g2).length co4) g2] [PsR 4096 enShade 67 c14 bk12, Cel m #[Value.map (some b)] 55, mapR b (fun a : Int => Value.int .u32 a) (fun x_ : Nat => Value.pointer (some ⟨x_, 0, none⟩)) (outs V), SubR (fun (c_ : Nat → Shade) (b_ : Nat) => PsR 4096 enShade 67 c_ b_) V, ShR m b V] w19 := hW.pick [0, 1] (by decide) rfl
               refine sr_p 0 (Value.int .i64 ((i : Nat) : Int)) hR rfl hA ?_; clear hA ac; intro ac hA
               refine sr_p 1 (Value.pointer (some ⟨bk12, 0, none⟩)) hR rfl hA ?_; clear hA ac; intro ac hA
               refine sr_q 2 (Value.pointer (some ⟨bk12, 0 + i * 7, none⟩)) hR rfl hA (Rd.indexArr (e := 31) (sz := 7) (m := 4096) (b := bk12) (off := 0) (i := i) (kk := .i64) (by kernel_rfl) (by kernel_rfl) (by first | omega | (simp; done) | (simp; omega)) (fun _ => by kernel_rfl) (fun _ => by kernel_rfl)) ?_; clear hA ac; intro ac hA
               refine sr_t 3 ((c14 i).v) hR rfl hA hC (Rd.load (b := bk12) (i := 0 + i * 7) (by kernel_rfl) (fun _ hw => show _ = _ from (hw).getG 0 rfl) (by rw [Nat.zero_add]; exact ldv_elem (F := Try.prog.fieldsOf 31) elt_Shade.len (by kernel_rfl) (by kernel_rfl) (by first | omega | (simp; done) | (simp; omega)))) ?_; clear hA ac; intro ac hA
               refine sr_one (i := 4) (by kernel_rfl) (sr_d rfl hA (Runs.cells (fun b => Value.pointer (some ⟨b, 0, none⟩)) #[Value.int .u64 0, Value.int .i64 0, Value.int .i64 0, Value.int .u64 0, Value.int .i64 0, Value.int .i64 0, Value.int .i64 0] 31 (fun _ => by kernel_rfl) hW ?_)); clear hA ac hW; intro br6_4 w20 hW hbr6_4 hfw20 ac hA
               refine ⟨⟨fun _ => (hW.pick [1, 2] (by decide) rfl).pickG [0, 1, 2, 3, 4] rfl, fun h => absurd h (by decide)⟩, ?_⟩; have hC : Ws w No [rowR 35 1 enU4 (Value.slice A2 O2.length c2) O2, rowR 35 1 enU4 (Value.slice (some ⟨b9, o10, none⟩) (g2).length co4) g2] [PsR 4096 enShade 67 c14 bk12, Cel m #[Value.map (some b)] 55, mapR b (fun a : Int => Value.int .u32 a) (fun x_ : Nat => Value.pointer (some ⟨x_, 0, none⟩)) (outs V), SubR (fun (c_ : Nat → Shade) (b_ : Nat) => PsR 4096 enShade 67 c_ b_) V, ShR m b V] w20 := (hW.pick [1, 2] (by decide) rfl).pickG [0, 1, 2, 3, 4] rfl
               refine sr_p 5 (Value.int .i64 ((i : Nat) : Int)) hR rfl hA ?_; clear hA ac; intro ac hA
               refine sr_one (i := 6) (by kernel_rfl) (sr_d rfl hA (Runs.store (v := (c14 i).v) (b := br6_4) (j := 0) (n := 7) (cs' := #[Value.int .u64 (c14 i).wr, Value.int .i64 (c14 i).ws.f, Value.int .i64 (c14 i).ws.pc, Value.int .u64 (c14 i).rd, Value.int .i64 (c14 i).rs.f, Value.int .i64 (c14 i).rs.pc, Value.int .i64 (c14 i).vec]) (H' := [Cel br6_4 #[Value.int .u64 (c14 i).wr, Value.int .i64 (c14 i).ws.f, Value.int .i64 (c14 i).ws.pc, Value.int .u64 (c14 i).rd, Value.int .i64 (c14 i).rs.f, Value.int .i64 (c14 i).rs.pc, Value.int .i64 (c14 i).vec] 31, rowR 35 1 enU4 (Value.slice A2 O2.length c2) O2, rowR 35 1 enU4 (Value.slice (some ⟨b9, o10, none⟩) (g2).length co4) g2]) (by kernel_rfl) (by kernel_rfl) (by kernel_rfl) (by kernel_rfl) (by kernel_rfl) hW 0 (by rfl) (Nat.le_of_ble_eq_true (by kernel_rfl)) (by kernel_rfl) (by rfl) ?_)); clear hA ac hW; intro w21 hW ac hA
               refine ⟨⟨fun h => absurd h (by decide), fun h => absurd h (by decide)⟩, ?_⟩
               refine sr_done (by kernel_rfl) ?_ _
               exact ⟨br6_4, hA.sub ⟨⟨by kernel_rfl, by kernel_rfl⟩, ⟨by kernel_rfl, by kernel_rfl⟩, ⟨by kernel_rfl, by kernel_rfl⟩, ⟨by kernel_rfl, by kernel_rfl⟩, ⟨by kernel_rfl, by kernel_rfl⟩, ⟨by kernel_rfl, by kernel_rfl⟩, ⟨by kernel_rfl, by kernel_rfl⟩, ⟨by kernel_rfl, by kernel_rfl⟩, ⟨by kernel_rfl, by kernel_rfl⟩, ⟨by kernel_rfl, by kernel_rfl⟩, ⟨by kernel_rfl, by kernel_rfl⟩, ⟨by kernel_rfl, by kernel_rfl⟩, trivial⟩, (hW.pick [0, 1, 2] (by decide) rfl).pickG [0, 1, 2, 3, 4] rfl⟩
             clear hA ac hW; rintro ac w22 ⟨br6_4, hA, hW⟩
             refine thenN ?_
             refine wp_seq ?_
             have hyb_ : 0 ≤ y8 ∧ y8 ≤ 1048575 := by have h_ := (hw1_hp.mem_iff (a := y8)).1 (List.mem_of_getElem? hy8); simp only [keys, vals, List.map_map, List.mem_map] at h_; obtain ⟨e_, he_, rfl⟩ := h_; exact hh e_ he_
             refine wp_region_lit ?_
             refine st_p (Value.func (.func 40) #[] #[]) hA ?_; clear hA ac; intro ac hA
             refine st_p (Value.int .u32 y8) hA ?_; clear hA ac; intro ac hA
             refine st_q (Value.int .u32 ((y8 : Int) * 4096)) hA hW.cls (Rd.pureE (v0 := Value.int .u32 (IntKind.u32.wrap ((y8 : Int) * 4096))) (fun _ => by kernel_rfl) (congrArg (Value.int .u32) ((w_u32 (x := (y8 : Int) * 4096) (by omega) (by omega)).trans (by omega)))) ?_; clear hA ac; intro ac hA
             refine st_p (Value.int .i64 ((i : Nat) : Int)) hA ?_; clear hA ac; intro ac hA
             refine st_q (Value.int .u32 ((i : Nat) : Int)) hA hW.cls (Rd.pureE (v0 := Value.int .u32 (IntKind.u32.wrap (((i : Nat) : Int)))) (fun _ => by kernel_rfl) (congrArg (Value.int .u32) (w_u32 (x := ((i : Nat) : Int)) (by omega) (by omega)))) ?_; clear hA ac; intro ac hA
             refine st_q (Value.int .u32 (((y8 : Int) * 4096 : Int) + ((i : Nat) : Int))) hA hW.cls (Rd.pureE (v0 := Value.int .u32 (IntKind.u32.wrap (((y8 : Int) * 4096 : Int) + ((i : Nat) : Int)))) (fun _ => by kernel_rfl) (congrArg (Value.int .u32) ((w_u32 (x := ((y8 : Int) * 4096 : Int) + ((i : Nat) : Int)) (by omega) (by omega)).trans (by omega)))) ?_; clear hA ac; intro ac hA
             refine st_q (Value.agg #[Value.int .u64 (c14 i).wr, Value.int .i64 (c14 i).ws.f, Value.int .i64 (c14 i).ws.pc, Value.int .u64 (c14 i).rd, Value.int .i64 (c14 i).rs.f, Value.int .i64 (c14 i).rs.pc, Value.int .i64 (c14 i).vec]) hA hW.cls (Rd.load (b := br6_4) (i := 0) (by kernel_rfl) (fun _ hw => (hw.1).cel 0 rfl) (by kernel_rfl)) ?_; clear hA ac; intro ac hA
             refine st_p (Value.agg #[Value.int .u32 (((y8 : Int) * 4096 : Int) + ((i : Nat) : Int)), Value.int .u64 (c14 i).wr, Value.int .i64 (c14 i).ws.f, Value.int .i64 (c14 i).ws.pc, Value.int .u64 (c14 i).rd, Value.int .i64 (c14 i).rs.f, Value.int .i64 (c14 i).rs.pc, Value.int .i64 (c14 i).vec]) hA ?_; clear hA ac; intro ac hA
             refine st_s hA (Runs.callN (v := Value.tuple #[Value.int .u32 (⟨((y8 : Int) * 4096 : Int) + ((i : Nat) : Int), (c14 i)⟩ : Cell22).addr, Value.bool (decide ((⟨((y8 : Int) * 4096 : Int) + ((i : Nat) : Int), (c14 i)⟩ : Cell22).x.vec > 0))]) (fun _ => by kernel_rfl) hW (e_vec1 (⟨((y8 : Int) * 4096 : Int) + ((i : Nat) : Int), (c14 i)⟩ : Cell22) w22) ?_); clear hA ac hW; intro w23 hW hfw23 ac hA
             refine st_p (Value.tuple #[Value.int .u32 (⟨((y8 : Int) * 4096 : Int) + ((i : Nat) : Int), (c14 i)⟩ : Cell22).addr, Value.bool (decide ((⟨((y8 : Int) * 4096 : Int) + ((i : Nat) : Int), (c14 i)⟩ : Cell22).x.vec > 0))]) hA ?_; clear hA ac; intro ac hA
             refine st_p (Value.int .u32 (⟨((y8 : Int) * 4096 : Int) + ((i : Nat) : Int), (c14 i)⟩ : Cell22).addr) hA ?_; clear hA ac; intro ac hA
             refine st_p (Value.bool (decide ((⟨((y8 : Int) * 4096 : Int) + ((i : Nat) : Int), (c14 i)⟩ : Cell22).x.vec > 0))) hA ?_; clear hA ac; intro ac hA
             refine st_p (Value.int .u32 (⟨((y8 : Int) * 4096 : Int) + ((i : Nat) : Int), (c14 i)⟩ : Cell22).addr) hA ?_; clear hA ac; intro ac hA
             refine st_p (Value.bool (decide ((⟨((y8 : Int) * 4096 : Int) + ((i : Nat) : Int), (c14 i)⟩ : Cell22).x.vec > 0))) hA ?_; clear hA ac; intro ac hA
             refine wpList_nil ?_
             refine thenN ?_
             refine wp_seq ?_
             refine wp_region_lit ?_
             refine st_p (Value.bool (decide ((⟨((y8 : Int) * 4096 : Int) + ((i : Nat) : Int), (c14 i)⟩ : Cell22).x.vec > 0))) hA ?_; clear hA ac; intro ac hA
             refine wpList_nil ?_
             refine thenN ?_
             refine wp_cond_split (t := decide ((⟨((y8 : Int) * 4096 : Int) + ((i : Nat) : Int), (c14 i)⟩ : Cell22).x.vec > 0)) (hA.eval (by kernel_rfl)) (fun h24 => ?_) (fun h24 => ?_)
             · skip
               have h24 := of_decide_eq_true h24
               first
               | (exfalso; clear hA hW; omega)
               | (
                 refine wp_region_lit ?_
                 refine st_p (Value.slice A2 O2.length c2) hA ?_; clear hA ac; intro ac hA
                 refine st_p (Value.int .u32 (⟨((y8 : Int) * 4096 : Int) + ((i : Nat) : Int), (c14 i)⟩ : Cell22).addr) hA ?_; clear hA ac; intro ac hA
                 refine st_s hA (Runs.cells (fun b => Value.slice (some ⟨b, 0, none⟩) 1 1) #[Value.int .u32 (⟨((y8 : Int) * 4096 : Int) + ((i : Nat) : Int), (c14 i)⟩ : Cell22).addr] 35 (fun _ => by kernel_rfl) hW ?_); clear hA ac hW; intro b25 w26 hW hb25 hfw26 ac hA
                 refine st_s hA (Runs.appOwn (B := (some ⟨b25, 0, none⟩)) (k := 1) (E := 35) (sz := 1) (en := enU4) (l := O2) (m := ([(⟨((y8 : Int) * 4096 : Int) + ((i : Nat) : Int), (c14 i)⟩ : Cell22).addr] : List Int)) (i := 2) (by kernel_rfl) (by kernel_rfl) elt_U4 (by kernel_rfl) hW rfl (rowAt_cel ((hW).cel 0 rfl) ([(⟨((y8 : Int) * 4096 : Int) + ((i : Nat) : Int), (c14 i)⟩ : Cell22).addr] : List Int) (by rfl) elt_U4.len) (by first | omega | (simp; done) | (simp; omega)) (by first | omega | (simp; done) | (simp; omega)) ?_); clear hA ac hW; intro A27 c28 w29 hW hcc28 ac hA
                 refine st_p (Value.slice A27 (O2 ++ ([(⟨((y8 : Int) * 4096 : Int) + ((i : Nat) : Int), (c14 i)⟩ : Cell22).addr] : List Int)).length c28) hA ?_; clear hA ac; intro ac hA
                 refine wpList_nil ?_
                 refine blkN ?_
                 refine thenN ?_
                 refine wp_region_lit ?_
                 refine st_q (Value.int .i64 ((i + 1 : Nat) : Int)) hA hW.cls (Rd.pureE (v0 := Value.int .i64 (IntKind.i64.wrap ((((i : Nat) : Int) : Int) + 1))) (fun _ => by kernel_rfl) (congrArg (Value.int .i64) ((w_i64 (x := (((i : Nat) : Int) : Int) + 1) (by omega) (by omega)).trans (by omega)))) ?_; clear hA ac; intro ac hA
                 refine st_p (Value.int .i64 ((i + 1 : Nat) : Int)) hA ?_; clear hA ac; intro ac hA
                 refine wpList_nil ?_
                 refine thenN ?_
                 exact ⟨4096 - (i + 1), by omega, i + 1, O2 ++ ([(⟨((y8 : Int) * 4096 : Int) + ((i : Nat) : Int), (c14 i)⟩ : Cell22).addr] : List Int), A27, c28, rfl, by omega, by rw [pgG_yes (u := (⟨((y8 : Int) * 4096 : Int) + ((i : Nat) : Int), (c14 i)⟩ : Cell22).addr) (if_pos h24), ← List.append_assoc, ← hO2], by first | omega | (simp; omega), by exact hcc28, hA.sub ⟨⟨by kernel_rfl, by kernel_rfl⟩, ⟨by kernel_rfl, by kernel_rfl⟩, ⟨by kernel_rfl, by kernel_rfl⟩, ⟨by kernel_rfl, by kernel_rfl⟩, ⟨by kernel_rfl, by kernel_rfl⟩, ⟨by kernel_rfl, by kernel_rfl⟩, ⟨by kernel_rfl, by kernel_rfl⟩, ⟨by kernel_rfl, by kernel_rfl⟩, ⟨by kernel_rfl, by kernel_rfl⟩, trivial⟩, (hW.pick [2, 3] (by decide) rfl).pickG [0, 1, 2, 3, 4] rfl⟩)
             · skip
               have h24 := of_decide_eq_false h24
               first
               | (exfalso; clear hA hW; omega)
               | (
                 refine wp_skip ?_
                 refine blkN ?_
                 refine thenN ?_
                 refine wp_region_lit ?_
                 refine st_q (Value.int .i64 ((i + 1 : Nat) : Int)) hA hW.cls (Rd.pureE (v0 := Value.int .i64 (IntKind.i64.wrap ((((i : Nat) : Int) : Int) + 1))) (fun _ => by kernel_rfl) (congrArg (Value.int .i64) ((w_i64 (x := (((i : Nat) : Int) : Int) + 1) (by omega) (by omega)).trans (by omega)))) ?_; clear hA ac; intro ac hA
                 refine st_p (Value.int .i64 ((i + 1 : Nat) : Int)) hA ?_; clear hA ac; intro ac hA
                 refine wpList_nil ?_
                 refine thenN ?_
                 exact ⟨4096 - (i + 1), by omega, i + 1, O2, A2, c2, rfl, by omega, by rw [pgG_no (if_neg h24), ← hO2], by first | omega | (simp; omega), by exact hcO2, hA.sub ⟨⟨by kernel_rfl, by kernel_rfl⟩, ⟨by kernel_rfl, by kernel_rfl⟩, ⟨by kernel_rfl, by kernel_rfl⟩, ⟨by kernel_rfl, by kernel_rfl⟩, ⟨by kernel_rfl, by kernel_rfl⟩, ⟨by kernel_rfl, by kernel_rfl⟩, ⟨by kernel_rfl, by kernel_rfl⟩, ⟨by kernel_rfl, by kernel_rfl⟩, ⟨by kernel_rfl, by kernel_rfl⟩, trivial⟩, (hW.pick [1, 2] (by decide) rfl).pickG [0, 1, 2, 3, 4] rfl⟩))
         · skip
           have h18 := of_decide_eq_false h18
           first
           | (exfalso; clear hA hW; omega)
           | (
             refine wp_exit ?_
             refine thenX ?_
             refine thenX ?_
             refine blkX ?_
             refine blkN ?_
             refine thenN ?_
             refine wp_region_lit ?_
             refine st_q (Value.int .i64 ((k + 1 : Nat) : Int)) hA hW.cls (Rd.pureE (v0 := Value.int .i64 (IntKind.i64.wrap ((((k : Nat) : Int) : Int) + 1))) (fun _ => by kernel_rfl) (congrArg (Value.int .i64) ((w_i64 (x := (((k : Nat) : Int) : Int) + 1) (by omega) (by omega)).trans (by omega)))) ?_; clear hA ac; intro ac hA
             refine st_p (Value.int .i64 ((k + 1 : Nat) : Int)) hA ?_; clear hA ac; intro ac hA
             refine wpList_nil ?_
             refine thenN ?_
             exact ⟨g2.length - (k + 1), by omega, k + 1, O2, A2, c2, rfl, by omega, by rw [gathOf_snoc hy8 hv16, hO2, show i = 4096 from by omega], by omega, by exact hcO2, hA.sub ⟨⟨by kernel_rfl, by kernel_rfl⟩, ⟨by kernel_rfl, by kernel_rfl⟩, ⟨by kernel_rfl, by kernel_rfl⟩, ⟨by kernel_rfl, by kernel_rfl⟩, ⟨by kernel_rfl, by kernel_rfl⟩, ⟨by kernel_rfl, by kernel_rfl⟩, trivial⟩, (hW.pick [0, 1] (by decide) rfl).pickG [1, 2, 3, 4] rfl⟩)))
 · skip
   have h7 := of_decide_eq_false h7
   first
   | (exfalso; clear hA hW; omega)
   | (
     refine wp_exit ?_
     refine thenX ?_
     refine thenX ?_
     refine blkX ?_
     refine thenN ?_
     refine wp_seq ?_
     refine wp_region_lit ?_
     refine st_p (Value.slice A O.length c) hA ?_; clear hA ac; intro ac hA
     refine st_p (Value.slice A O.length c) hA ?_; clear hA ac; intro ac hA
     refine wpList_nil ?_
     refine thenN ?_
     refine wp_ret ?_
     refine ret1 (v := Value.slice A O.length c) (by rfl) hA (Got.tmp hA (by kernel_rfl) (by kernel_rfl)) ?_
     clear hA
     exact ⟨g2, O, A, c, by first | rfl | (simp; done), by exact hw1_hp, by exact hw1_hs, by rw [List.take_of_length_le (by omega)] at hO; exact hO, (own_cap ((hW).get 0 rfl)), hW.madeRow 0 rfl⟩)

set_option maxRecDepth 100000 in
theorem e_gathA (m : Nat) (b : Nat) (V : VT22) (w : World) (ho_s_ : (ShR m b V).p w) (hl_s_ : ∀ x_ ∈ (ShR m b V).fp, x_ < w.heap.size) (hl : V.length < 50) (hh : ∀ e ∈ V, 0 ≤ e.1 ∧ e.1 ≤ 1048575) : Calls Try.prog 35 #[Value.pointer (some ⟨m, 0, none⟩), Value.func (.func 36) #[] #[]] w (fun e w' => ∃ ks : List Int, ∃ O_ : List Cell22, ∃ (A_o : Option Addr) (c_o : Nat), e = .returned (Value.slice A_o (O_).length c_o) ∧ (ks.Perm (keys (vals V))) ∧ (ks.Pairwise fun x y => x ≤ y) ∧ (O_ = gathOf pAll (vals V) ks) ∧ (O_).length ≤ c_o ∧ Made (rowR 81 8 enCell22 (.slice A_o (O_).length c_o) O_) w w') := by
 have _hu := ho_s_; have _hv := hl_s_; clear _hu _hv
 have _hu := hl; clear _hu
 have _hu := hh; clear _hu
 refine enter_E 51 Try.func35 rfl rfl (by kernel_rfl) (L := [(0, Value.pointer (some ⟨m, 0, none⟩)), (1, Value.func (.func 36) #[] #[])]) (by kernel_rfl) ?_
 intro ac hA
 have hW := Ws.start w No
 have hW := hW.addG (ShR m b V) ho_s_ hl_s_ (by simp)
 have hW := hW.objG (L := [Cel m #[Value.map (some b)] 55, mapR b (fun a : Int => Value.int .u32 a) (fun x_ : Nat => Value.pointer (some ⟨x_, 0, none⟩)) (outs V), SubR (fun (c_ : Nat → Shade) (b_ : Nat) => PsR 4096 enShade 67 c_ b_) V]) ho_s_ hl_s_
 clear ho_s_ hl_s_
 refine wp_seq ?_
 refine wp_region_lit ?_
 refine st_p (Value.slice none 0 0) hA ?_; clear hA ac; intro ac hA
 refine wpList_nil ?_
 refine thenN ?_
 refine wp_seq ?_
 refine wp_seq ?_
 refine wp_region_lit ?_
 refine st_p (Value.pointer (some ⟨m, 0, none⟩)) hA ?_; clear hA ac; intro ac hA
 refine st_s hA (Runs.call (fun _ => by kernel_rfl) (e_spages m b V w ((hW).getG 3 rfl) ((hW).glt _ (List.mem_of_getElem? (i := 3) rfl)) (by first | omega | assumption) (by first | omega | assumption)) ?_)
 rintro _ w1 ⟨g2, Ao3, co4, rfl, hw1_hp, hw1_hs, hcco4, hu_⟩; refine ⟨_, rfl, ?_⟩; replace hW := hW.made hu_; clear hA ac; intro ac hA
 refine st_p (Value.int .i64 (((g2).length : Nat) : Int)) hA ?_; clear hA ac; intro ac hA
 refine st_p (Value.int .i64 0) hA ?_; clear hA ac; intro ac hA
 refine wpList_nil ?_
 refine thenN ?_
 refine wp_block ?_
 have hkl_ : g2.length < 50 := by have h_ := hw1_hp.length_eq; simp only [keys, List.length_map] at h_; rw [vals_len] at h_; omega
 have hW := hW.addNil 81 8 enCell22
 refine wp_loop_m (fun m_ ac_ wl_ => ∃ k : Nat, ∃ O : List Cell22, ∃ A : Option Addr, ∃ c : Nat, m_ = g2.length - k ∧ (k ≤ g2.length) ∧ (O = gathOf pAll (vals V) (g2.take k)) ∧ (O.length ≤ 4096 * k) ∧ (O.length ≤ c) ∧ Fm 51 [] [(0, Value.pointer (some ⟨m, 0, none⟩)), (1, Value.func (.func 36) #[] #[]), (4, Value.slice A O.length c), (12, Value.slice Ao3 (g2).length co4), (13, Value.int .i64 (((g2).length : Nat) : Int)), (14, Value.int .i64 ((k : Nat) : Int))] ac_ ∧ Ws w No [rowR 81 8 enCell22 (Value.slice A O.length c) O, rowR 35 1 enU4 (Value.slice Ao3 (g2).length co4) g2] [Cel m #[Value.map (some b)] 55, mapR b (fun a : Int => Value.int .u32 a) (fun x_ : Nat => Value.pointer (some ⟨x_, 0, none⟩)) (outs V), SubR (fun (c_ : Nat → Shade) (b_ : Nat) => PsR 4096 enShade 67 c_ b_) V, ShR m b V] wl_) _ ⟨0, [], none, 0, rfl, by omega, by rfl, by simp, by simp, hA.sub ⟨⟨by kernel_rfl, by kernel_rfl⟩, ⟨by kernel_rfl, by kernel_rfl⟩, ⟨by kernel_rfl, by kernel_rfl⟩, ⟨by kernel_rfl, by kernel_rfl⟩, ⟨by kernel_rfl, by kernel_rfl⟩, ⟨by kernel_rfl, by kernel_rfl⟩, trivial⟩, (hW.pick [0, 1] (by decide) rfl).pickG [0, 1, 2, 3] rfl⟩ ?_
 clear hA ac hW; rintro m_ ac w6 ⟨k, O, A, c, rfl, hk, hO, hOl, hcO, hA, hW⟩
 refine wp_seq ?_
 refine wp_region_lit ?_
 refine st_p (Value.bool (decide ((((k : Nat) : Int) : Int) < ((((g2).length : Nat) : Int) : Int)))) hA ?_; clear hA ac; intro ac hA
 refine wpList_nil ?_
 refine thenN ?_
 refine wp_seq ?_
 refine wp_cond_split (t := decide ((((k : Nat) : Int) : Int) < ((((g2).length : Nat) : Int) : Int))) (hA.eval (by kernel_rfl)) (fun h7 => ?_) (fun h7 => ?_)
 · skip
   have h7 := of_decide_eq_true h7
   first
   | (exfalso; clear hA hW; omega)
   | (
     refine wp_skip ?_
     refine thenN ?_
     refine wp_seq ?_
     refine wp_block ?_
     refine wp_seq ?_
     refine wp_region_lit ?_
     obtain ⟨y8, hy8⟩ : ∃ y, g2[k]? = some y := ⟨_, List.getElem?_eq_getElem (by first | omega | (simp; done) | (simp; omega))⟩
     obtain ⟨b9, o10, rfl, hbb9⟩ := row_some (rowR_at ((hW).get 1 rfl) elt_U4.len) hy8
     refine st_q (Value.pointer (some ⟨b9, o10 + k * 1, none⟩)) hA hW.cls (Rd.indexAddr (e := 35) (sz := 1) (b := b9) (off := o10) (n := (g2).length) (c := co4) (k := k) (by kernel_rfl) (by kernel_rfl) (by first | omega | (simp; done) | (simp; omega)) (fun _ => by kernel_rfl) (fun _ => by kernel_rfl)) ?_; clear hA ac; intro ac hA
     refine st_q (Value.int .u32 y8) hA hW.cls (Rd.loadRow (b := b9) (i := o10 + k * 1) (xs := [Value.int .u32 y8]) (by kernel_rfl) (fun _ hw => row_ld (rowR_at ((hw.1).get 1 rfl) elt_U4.len) hy8 (Fr.refl No _) (fun h => h) 0 1 (by kernel_rfl)) (by kernel_rfl)) ?_; clear hA ac; intro ac hA
     refine st_p (Value.int .u32 y8) hA ?_; clear hA ac; intro ac hA
     refine wpList_nil ?_
     refine thenN ?_
     refine wp_seq ?_
     refine wp_region_lit ?_
     refine st_p (Value.pointer (some ⟨m, 0, none⟩)) hA ?_; clear hA ac; intro ac hA
     refine st_p (Value.pointer (some ⟨m, 0, none⟩)) hA ?_; clear hA ac; intro ac hA
     refine st_p (Value.pointer (some ⟨m, 0, none⟩)) hA ?_; clear hA ac; intro ac hA
     refine st_q (Value.map (some b)) hA hW.cls (Rd.load (b := m) (i := 0) (by kernel_rfl) (fun _ hw => show _ = _ from (hw.1).getG 0 rfl) (by kernel_rfl)) ?_; clear hA ac; intro ac hA
     refine st_p (Value.int .u32 y8) hA ?_; clear hA ac; intro ac hA
     rcases hk11 : look (outs V) (y8 : Int) with _ | bk12
     · skip
       first
       | (exfalso; clear hA hW; omega)
       | (exfalso; clear hA hW; rw [outs_none] at hk11; exact look_none.1 hk11 ((hw1_hp.mem_iff).1 (List.mem_of_getElem? hy8)); done)
       | (
         fail)
     · skip
       first
       | (exfalso; clear hA hW; omega)
       | (
         obtain ⟨i13, c14, hi15, hv16⟩ := outs_at hk11
         have hW := hW.subG 2 rfl hi15
         replace hW : Ws w No [rowR 81 8 enCell22 (Value.slice A O.length c) O, rowR 35 1 enU4 (Value.slice (some ⟨b9, o10, none⟩) (g2).length co4) g2] [PsR 4096 enShade 67 c14 bk12, Cel m #[Value.map (some b)] 55, mapR b (fun a : Int => Value.int .u32 a) (fun x_ : Nat => Value.pointer (some ⟨x_, 0, none⟩)) (outs V), SubR (fun (c_ : Nat → Shade) (b_ : Nat) => PsR 4096 enShade 67 c_ b_) V, ShR m b V] w6 := hW
         refine st_q (Value.pointer (some ⟨bk12, 0, none⟩)) hA hW.cls ((Rd.lookup (k := 35) (e := 65) (ek := (fun a : Int => Value.int .u32 a)) (ev := (fun x_ : Nat => Value.pointer (some ⟨x_, 0, none⟩))) (m := (outs V)) (z := Value.pointer none) (y8 : Int) false (by kernel_rfl) (by kernel_rfl) (KeyE.int (by kernel_rfl)) (by kernel_rfl) (fun _ => by kernel_rfl) (fun _ hw => (hw.1).getG 2 rfl)).cast (by rw [hk11]; rfl)) ?_; clear hA ac; intro ac hA
         refine st_p (Value.pointer (some ⟨bk12, 0, none⟩)) hA ?_; clear hA ac; intro ac hA
         refine st_p (Value.int .i64 0) hA ?_; clear hA ac; intro ac hA
         refine wpList_nil ?_
         refine thenN ?_
         refine wp_block ?_
         refine wp_loop_m (fun m_ ac_ wl_ => ∃ i : Nat, ∃ O2 : List Cell22, ∃ A2 : Option Addr, ∃ c2 : Nat, m_ = 4096 - i ∧ (i ≤ 4096) ∧ (O2 = gathOf pAll (vals V) (g2.take k) ++ pgG pAll y8 c14 i) ∧ (O2.length ≤ 4096 * k + i) ∧ (O2.length ≤ c2) ∧ Fm 51 [] [(0, Value.pointer (some ⟨m, 0, none⟩)), (1, Value.func (.func 36) #[] #[]), (4, Value.slice A2 O2.length c2), (6, Value.int .u32 y8), (12, Value.slice (some ⟨b9, o10, none⟩) (g2).length co4), (13, Value.int .i64 (((g2).length : Nat) : Int)), (14, Value.int .i64 ((k : Nat) : Int)), (23, Value.pointer (some ⟨bk12, 0, none⟩)), (25, Value.int .i64 ((i : Nat) : Int))] ac_ ∧ Ws w No [rowR 81 8 enCell22 (Value.slice A2 O2.length c2) O2, rowR 35 1 enU4 (Value.slice (some ⟨b9, o10, none⟩) (g2).length co4) g2] [PsR 4096 enShade 67 c14 bk12, Cel m #[Value.map (some b)] 55, mapR b (fun a : Int => Value.int .u32 a) (fun x_ : Nat => Value.pointer (some ⟨x_, 0, none⟩)) (outs V), SubR (fun (c_ : Nat → Shade) (b_ : Nat) => PsR 4096 enShade 67 c_ b_) V, ShR m b V] wl_) _ ⟨0, O, A, c, rfl, by omega, by rw [hO]; simp [pgG], by omega, by exact hcO, hA.sub ⟨⟨by kernel_rfl, by kernel_rfl⟩, ⟨by kernel_rfl, by kernel_rfl⟩, ⟨by kernel_rfl, by kernel_rfl⟩, ⟨by kernel_rfl, by kernel_rfl⟩, ⟨by kernel_rfl, by kernel_rfl⟩, ⟨by kernel_rfl, by kernel_rfl⟩, ⟨by kernel_rfl, by kernel_rfl⟩, ⟨by kernel_rfl, by kernel_rfl⟩, ⟨by kernel_rfl, by kernel_rfl⟩, trivial⟩, (hW.pick [0, 1] (by decide) rfl).pickG [0, 1, 2, 3, 4] rfl⟩ ?_
         clear hA ac hW; rintro m_ ac w17 ⟨i, O2, A2, c2, rfl, hi, hO2, hOl2, hcO2, hA, hW⟩
         refine wp_seq ?_
         refine wp_region_lit ?_
         refine st_p (Value.bool (decide ((((i : Nat) : Int) : Int) < (4096 : Int)))) hA ?_; clear hA ac; intro ac hA
         refine wpList_nil ?_
         refine thenN ?_
         refine wp_seq ?_
         refine wp_cond_split (t := decide ((((i : Nat) : Int) : Int) < (4096 : Int))) (hA.eval (by kernel_rfl)) (fun h18 => ?_) (fun h18 => ?_)
         · skip
           have h18 := of_decide_eq_true h18
           first
           | (exfalso; clear hA hW; omega)
           | (
             refine wp_skip ?_
             refine thenN ?_
             refine wp_seq ?_
             refine wp_block ?_
             refine wp_seq ?_
             refine wp_cut (fun ac_ wl_ => ∃ br6_4 : Nat, Fm 51 [] [(0, Value.pointer (some ⟨m, 0, none⟩)), (1, Value.func (.func 36) #[] #[]), (4, Value.slice A2 O2.length c2), (6, Value.int .u32 y8), (7, Value.int .i64 ((i : Nat) : Int)), (8, Value.pointer (some ⟨br6_4, 0, none⟩)), (12, Value.slice (some ⟨b9, o10, none⟩) (g2).length co4), (13, Value.int .i64 (((g2).length : Nat) : Int)), (14, Value.int .i64 ((k : Nat) : Int)), (23, Value.pointer (some ⟨bk12, 0, none⟩)), (25, Value.int .i64 ((i : Nat) : Int)), (26, Value.bool (decide ((((i : Nat) : Int) : Int) < (4096 : Int))))] ac_ ∧ Ws w No [Cel br6_4 #[Value.int .u64 (c14 i).wr, Value.int .i64 (c14 i).ws.f, Value.int .i64 (c14 i).ws.pc, Value.int .u64 (c14 i).rd, Value.int .i64 (c14 i).rs.f, Value.int .i64 (c14 i).rs.pc, Value.int .i64 (c14 i).vec] 31, rowR 81 8 enCell22 (Value.slice A2 O2.length c2) O2, rowR 35 1 enU4 (Value.slice (some ⟨b9, o10, none⟩) (g2).length co4) g2] [PsR 4096 enShade 67 c14 bk12, Cel m #[Value.map (some b)] 55, mapR b (fun a : Int => Value.int .u32 a) (fun x_ : Nat => Value.pointer (some ⟨x_, 0, none⟩)) (outs V), SubR (fun (c_ : Nat → Shade) (b_ : Nat) => PsR 4096 enShade 67 c_ b_) V, ShR m b V] wl_) ?_ ?_
             · refine sr_region (m := 7) (C := Ws w No [rowR 81 8 enCell22 (Value.slice A2 O2.length c2) O2, rowR 35 1 enU4 (Value.slice (some ⟨b9, o10, none⟩) (g2).length co4) g2] [PsR 4096 enShade 67 c14 bk12, Cel m #[Value.map (some b)] 55, mapR b (fun a : Int => Value.int .u32 a) (fun x_ : Nat => Value.pointer (some ⟨x_, 0, none⟩)) (outs V), SubR (fun (c_ : Nat → Shade) (b_ : Nat) => PsR 4096 enShade 67 c_ b_) V, ShR m b V]) (fun i => [3].contains i) (fun i => [3, 4].contains i) (fun i => [0, 1, 2, 5].contains i) (by kernel_rfl) (by kernel_rfl) (by kernel_rfl) (by kernel_rfl) hW ?_; clear hW; intro w19 hW hfw19 hR; have hC : Ws w No [rowR 81 8 enCell22 (Value.slice A2 O2.length c2) O2, rowR 35 1 enU4 (Value.slice (some ⟨b9, o10, none⟩) (g2).length co4) g2] [PsR 4096 enShade 67 c14 bk12, Cel m #[Value.map (some b)] 55, mapR b (fun a : Int => Value.int .u32 a) (fun x_ : Nat => Value.pointer (some ⟨x_, 0, none⟩)) (outs V), SubR (fun (c_ : Nat → Shade) (b_ : Nat) => PsR 4096 enShade 67 c_ b_) V, ShR m b V] w19 := hW.pick [0, 1] (by decide) rfl
               refine sr_p 0 (Value.int .i64 ((i : Nat) : Int)) hR rfl hA ?_; clear hA ac; intro ac hA
               refine sr_p 1 (Value.pointer (some ⟨bk12, 0, none⟩)) hR rfl hA ?_; clear hA ac; intro ac hA
               refine sr_q 2 (Value.pointer (some ⟨bk12, 0 + i * 7, none⟩)) hR rfl hA (Rd.indexArr (e := 31) (sz := 7) (m := 4096) (b := bk12) (off := 0) (i := i) (kk := .i64) (by kernel_rfl) (by kernel_rfl) (by first | omega | (simp; done) | (simp; omega)) (fun _ => by kernel_rfl) (fun _ => by kernel_rfl)) ?_; clear hA ac; intro ac hA
               refine sr_t 3 ((c14 i).v) hR rfl hA hC (Rd.load (b := bk12) (i := 0 + i * 7) (by kernel_rfl) (fun _ hw => show _ = _ from (hw).getG 0 rfl) (by rw [Nat.zero_add]; exact ldv_elem (F := Try.prog.fieldsOf 31) elt_Shade.len (by kernel_rfl) (by kernel_rfl) (by first | omega | (simp; done) | (simp; omega)))) ?_; clear hA ac; intro ac hA
               refine sr_one (i := 4) (by kernel_rfl) (sr_d rfl hA (Runs.cells (fun b => Value.pointer (some ⟨b, 0, none⟩)) #[Value.int .u64 0, Value.int .i64 0, Value.int .i64 0, Value.int .u64 0, Value.int .i64 0, Value.int .i64 0, Value.int .i64 0] 31 (fun _ => by kernel_rfl) hW ?_)); clear hA ac hW; intro br6_4 w20 hW hbr6_4 hfw20 ac hA
               refine ⟨⟨fun _ => (hW.pick [1, 2] (by decide) rfl).pickG [0, 1, 2, 3, 4] rfl, fun h => absurd h (by decide)⟩, ?_⟩; have hC : Ws w No [rowR 81 8 enCell22 (Value.slice A2 O2.length c2) O2, rowR 35 1 enU4 (Value.slice (some ⟨b9, o10, none⟩) (g2).length co4) g2] [PsR 4096 enShade 67 c14 bk12, Cel m #[Value.map (some b)] 55, mapR b (fun a : Int => Value.int .u32 a) (fun x_ : Nat => Value.pointer (some ⟨x_, 0, none⟩)) (outs V), SubR (fun (c_ : Nat → Shade) (b_ : Nat) => PsR 4096 enShade 67 c_ b_) V, ShR m b V] w20 := (hW.pick [1, 2] (by decide) rfl).pickG [0, 1, 2, 3, 4] rfl
               refine sr_p 5 (Value.int .i64 ((i : Nat) : Int)) hR rfl hA ?_; clear hA ac; intro ac hA
               refine sr_one (i := 6) (by kernel_rfl) (sr_d rfl hA (Runs.store (v := (c14 i).v) (b := br6_4) (j := 0) (n := 7) (cs' := #[Value.int .u64 (c14 i).wr, Value.int .i64 (c14 i).ws.f, Value.int .i64 (c14 i).ws.pc, Value.int .u64 (c14 i).rd, Value.int .i64 (c14 i).rs.f, Value.int .i64 (c14 i).rs.pc, Value.int .i64 (c14 i).vec]) (H' := [Cel br6_4 #[Value.int .u64 (c14 i).wr, Value.int .i64 (c14 i).ws.f, Value.int .i64 (c14 i).ws.pc, Value.int .u64 (c14 i).rd, Value.int .i64 (c14 i).rs.f, Value.int .i64 (c14 i).rs.pc, Value.int .i64 (c14 i).vec] 31, rowR 81 8 enCell22 (Value.slice A2 O2.length c2) O2, rowR 35 1 enU4 (Value.slice (some ⟨b9, o10, none⟩) (g2).length co4) g2]) (by kernel_rfl) (by kernel_rfl) (by kernel_rfl) (by kernel_rfl) (by kernel_rfl) hW 0 (by rfl) (Nat.le_of_ble_eq_true (by kernel_rfl)) (by kernel_rfl) (by rfl) ?_)); clear hA ac hW; intro w21 hW ac hA
               refine ⟨⟨fun h => absurd h (by decide), fun h => absurd h (by decide)⟩, ?_⟩
               refine sr_done (by kernel_rfl) ?_ _
               exact ⟨br6_4, hA.sub ⟨⟨by kernel_rfl, by kernel_rfl⟩, ⟨by kernel_rfl, by kernel_rfl⟩, ⟨by kernel_rfl, by kernel_rfl⟩, ⟨by kernel_rfl, by kernel_rfl⟩, ⟨by kernel_rfl, by kernel_rfl⟩, ⟨by kernel_rfl, by kernel_rfl⟩, ⟨by kernel_rfl, by kernel_rfl⟩, ⟨by kernel_rfl, by kernel_rfl⟩, ⟨by kernel_rfl, by kernel_rfl⟩, ⟨by kernel_rfl, by kernel_rfl⟩, ⟨by kernel_rfl, by kernel_rfl⟩, ⟨by kernel_rfl, by kernel_rfl⟩, trivial⟩, (hW.pick [0, 1, 2] (by decide) rfl).pickG [0, 1, 2, 3, 4] rfl⟩
             clear hA ac hW; rintro ac w22 ⟨br6_4, hA, hW⟩
             refine thenN ?_
             refine wp_seq ?_
             have hyb_ : 0 ≤ y8 ∧ y8 ≤ 1048575 := by have h_ := (hw1_hp.mem_iff (a := y8)).1 (List.mem_of_getElem? hy8); simp only [keys, vals, List.map_map, List.mem_map] at h_; obtain ⟨e_, he_, rfl⟩ := h_; exact hh e_ he_
             refine wp_region_lit ?_
             refine st_p (Value.func (.func 36) #[] #[]) hA ?_; clear hA ac; intro ac hA
             refine st_p (Value.int .u32 y8) hA ?_; clear hA ac; intro ac hA
             refine st_q (Value.int .u32 ((y8 : Int) * 4096)) hA hW.cls (Rd.pureE (v0 := Value.int .u32 (IntKind.u32.wrap ((y8 : Int) * 4096))) (fun _ => by kernel_rfl) (congrArg (Value.int .u32) ((w_u32 (x := (y8 : Int) * 4096) (by omega) (by omega)).trans (by omega)))) ?_; clear hA ac; intro ac hA
             refine st_p (Value.int .i64 ((i : Nat) : Int)) hA ?_; clear hA ac; intro ac hA
             refine st_q (Value.int .u32 ((i : Nat) : Int)) hA hW.cls (Rd.pureE (v0 := Value.int .u32 (IntKind.u32.wrap (((i : Nat) : Int)))) (fun _ => by kernel_rfl) (congrArg (Value.int .u32) (w_u32 (x := ((i : Nat) : Int)) (by omega) (by omega)))) ?_; clear hA ac; intro ac hA
             refine st_q (Value.int .u32 (((y8 : Int) * 4096 : Int) + ((i : Nat) : Int))) hA hW.cls (Rd.pureE (v0 := Value.int .u32 (IntKind.u32.wrap (((y8 : Int) * 4096 : Int) + ((i : Nat) : Int)))) (fun _ => by kernel_rfl) (congrArg (Value.int .u32) ((w_u32 (x := ((y8 : Int) * 4096 : Int) + ((i : Nat) : Int)) (by omega) (by omega)).trans (by omega)))) ?_; clear hA ac; intro ac hA
             refine st_q (Value.agg #[Value.int .u64 (c14 i).wr, Value.int .i64 (c14 i).ws.f, Value.int .i64 (c14 i).ws.pc, Value.int .u64 (c14 i).rd, Value.int .i64 (c14 i).rs.f, Value.int .i64 (c14 i).rs.pc, Value.int .i64 (c14 i).vec]) hA hW.cls (Rd.load (b := br6_4) (i := 0) (by kernel_rfl) (fun _ hw => (hw.1).cel 0 rfl) (by kernel_rfl)) ?_; clear hA ac; intro ac hA
             refine st_p (Value.agg #[Value.int .u32 (((y8 : Int) * 4096 : Int) + ((i : Nat) : Int)), Value.int .u64 (c14 i).wr, Value.int .i64 (c14 i).ws.f, Value.int .i64 (c14 i).ws.pc, Value.int .u64 (c14 i).rd, Value.int .i64 (c14 i).rs.f, Value.int .i64 (c14 i).rs.pc, Value.int .i64 (c14 i).vec]) hA ?_; clear hA ac; intro ac hA
             refine st_s hA (Runs.callN (v := Value.tuple #[(⟨((y8 : Int) * 4096 : Int) + ((i : Nat) : Int), (c14 i)⟩ : Cell22).v, Value.bool (!decide ((⟨((y8 : Int) * 4096 : Int) + ((i : Nat) : Int), (c14 i)⟩ : Cell22).x = (⟨0, ⟨0, 0⟩, 0, ⟨0, 0⟩, 0⟩ : Shade)))]) (fun _ => by kernel_rfl) hW (e_all1 (⟨((y8 : Int) * 4096 : Int) + ((i : Nat) : Int), (c14 i)⟩ : Cell22) w22) ?_); clear hA ac hW; intro w23 hW hfw23 ac hA
             refine st_p (Value.tuple #[(⟨((y8 : Int) * 4096 : Int) + ((i : Nat) : Int), (c14 i)⟩ : Cell22).v, Value.bool (!decide ((⟨((y8 : Int) * 4096 : Int) + ((i : Nat) : Int), (c14 i)⟩ : Cell22).x = (⟨0, ⟨0, 0⟩, 0, ⟨0, 0⟩, 0⟩ : Shade)))]) hA ?_; clear hA ac; intro ac hA
             refine st_p ((⟨((y8 : Int) * 4096 : Int) + ((i : Nat) : Int), (c14 i)⟩ : Cell22).v) hA ?_; clear hA ac; intro ac hA
             refine st_p (Value.bool (!decide ((⟨((y8 : Int) * 4096 : Int) + ((i : Nat) : Int), (c14 i)⟩ : Cell22).x = (⟨0, ⟨0, 0⟩, 0, ⟨0, 0⟩, 0⟩ : Shade)))) hA ?_; clear hA ac; intro ac hA
             refine st_s hA (Runs.cells (fun b => Value.pointer (some ⟨b, 0, none⟩)) #[Value.int .u32 0, Value.int .u64 0, Value.int .i64 0, Value.int .i64 0, Value.int .u64 0, Value.int .i64 0, Value.int .i64 0, Value.int .i64 0] 81 (fun _ => by kernel_rfl) hW ?_); clear hA ac hW; intro b24 w25 hW hb24 hfw25 ac hA
             refine st_s hA (Runs.store (v := (⟨((y8 : Int) * 4096 : Int) + ((i : Nat) : Int), (c14 i)⟩ : Cell22).v) (b := b24) (j := 0) (n := 8) (cs' := #[Value.int .u32 (⟨((y8 : Int) * 4096 : Int) + ((i : Nat) : Int), (c14 i)⟩ : Cell22).addr, Value.int .u64 (⟨((y8 : Int) * 4096 : Int) + ((i : Nat) : Int), (c14 i)⟩ : Cell22).x.wr, Value.int .i64 (⟨((y8 : Int) * 4096 : Int) + ((i : Nat) : Int), (c14 i)⟩ : Cell22).x.ws.f, Value.int .i64 (⟨((y8 : Int) * 4096 : Int) + ((i : Nat) : Int), (c14 i)⟩ : Cell22).x.ws.pc, Value.int .u64 (⟨((y8 : Int) * 4096 : Int) + ((i : Nat) : Int), (c14 i)⟩ : Cell22).x.rd, Value.int .i64 (⟨((y8 : Int) * 4096 : Int) + ((i : Nat) : Int), (c14 i)⟩ : Cell22).x.rs.f, Value.int .i64 (⟨((y8 : Int) * 4096 : Int) + ((i : Nat) : Int), (c14 i)⟩ : Cell22).x.rs.pc, Value.int .i64 (⟨((y8 : Int) * 4096 : Int) + ((i : Nat) : Int), (c14 i)⟩ : Cell22).x.vec]) (H' := [Cel b24 #[Value.int .u32 (⟨((y8 : Int) * 4096 : Int) + ((i : Nat) : Int), (c14 i)⟩ : Cell22).addr, Value.int .u64 (⟨((y8 : Int) * 4096 : Int) + ((i : Nat) : Int), (c14 i)⟩ : Cell22).x.wr, Value.int .i64 (⟨((y8 : Int) * 4096 : Int) + ((i : Nat) : Int), (c14 i)⟩ : Cell22).x.ws.f, Value.int .i64 (⟨((y8 : Int) * 4096 : Int) + ((i : Nat) : Int), (c14 i)⟩ : Cell22).x.ws.pc, Value.int .u64 (⟨((y8 : Int) * 4096 : Int) + ((i : Nat) : Int), (c14 i)⟩ : Cell22).x.rd, Value.int .i64 (⟨((y8 : Int) * 4096 : Int) + ((i : Nat) : Int), (c14 i)⟩ : Cell22).x.rs.f, Value.int .i64 (⟨((y8 : Int) * 4096 : Int) + ((i : Nat) : Int), (c14 i)⟩ : Cell22).x.rs.pc, Value.int .i64 (⟨((y8 : Int) * 4096 : Int) + ((i : Nat) : Int), (c14 i)⟩ : Cell22).x.vec] 81, Cel br6_4 #[Value.int .u64 (c14 i).wr, Value.int .i64 (c14 i).ws.f, Value.int .i64 (c14 i).ws.pc, Value.int .u64 (c14 i).rd, Value.int .i64 (c14 i).rs.f, Value.int .i64 (c14 i).rs.pc, Value.int .i64 (c14 i).vec] 31, rowR 81 8 enCell22 (Value.slice A2 O2.length c2) O2, rowR 35 1 enU4 (Value.slice (some ⟨b9, o10, none⟩) (g2).length co4) g2]) (by kernel_rfl) (by kernel_rfl) (by kernel_rfl) (by kernel_rfl) (by kernel_rfl) hW 0 (by rfl) (Nat.le_of_ble_eq_true (by kernel_rfl)) (by kernel_rfl) (by rfl) ?_); clear hA ac hW; intro w26 hW ac hA
             refine st_p (Value.bool (!decide ((⟨((y8 : Int) * 4096 : Int) + ((i : Nat) : Int), (c14 i)⟩ : Cell22).x = (⟨0, ⟨0, 0⟩, 0, ⟨0, 0⟩, 0⟩ : Shade)))) hA ?_; clear hA ac; intro ac hA
             refine wpList_nil ?_
             refine thenN ?_
             refine wp_seq ?_
             refine wp_region_lit ?_
             refine st_p (Value.bool (!decide ((⟨((y8 : Int) * 4096 : Int) + ((i : Nat) : Int), (c14 i)⟩ : Cell22).x = (⟨0, ⟨0, 0⟩, 0, ⟨0, 0⟩, 0⟩ : Shade)))) hA ?_; clear hA ac; intro ac hA
             refine wpList_nil ?_
             refine thenN ?_
             refine wp_cond_split (t := !decide ((⟨((y8 : Int) * 4096 : Int) + ((i : Nat) : Int), (c14 i)⟩ : Cell22).x = (⟨0, ⟨0, 0⟩, 0, ⟨0, 0⟩, 0⟩ : Shade))) (hA.eval (by kernel_rfl)) (fun h27 => ?_) (fun h27 => ?_)
             · skip
               have h27 := not_t h27
               have h27 := of_decide_eq_false h27
               first
               | (exfalso; clear hA hW; omega)
               | (
                 refine wp_region_lit ?_
                 refine st_p (Value.slice A2 O2.length c2) hA ?_; clear hA ac; intro ac hA
                 refine st_q (Value.agg #[Value.int .u32 (⟨((y8 : Int) * 4096 : Int) + ((i : Nat) : Int), (c14 i)⟩ : Cell22).addr, Value.int .u64 (⟨((y8 : Int) * 4096 : Int) + ((i : Nat) : Int), (c14 i)⟩ : Cell22).x.wr, Value.int .i64 (⟨((y8 : Int) * 4096 : Int) + ((i : Nat) : Int), (c14 i)⟩ : Cell22).x.ws.f, Value.int .i64 (⟨((y8 : Int) * 4096 : Int) + ((i : Nat) : Int), (c14 i)⟩ : Cell22).x.ws.pc, Value.int .u64 (⟨((y8 : Int) * 4096 : Int) + ((i : Nat) : Int), (c14 i)⟩ : Cell22).x.rd, Value.int .i64 (⟨((y8 : Int) * 4096 : Int) + ((i : Nat) : Int), (c14 i)⟩ : Cell22).x.rs.f, Value.int .i64 (⟨((y8 : Int) * 4096 : Int) + ((i : Nat) : Int), (c14 i)⟩ : Cell22).x.rs.pc, Value.int .i64 (⟨((y8 : Int) * 4096 : Int) + ((i : Nat) : Int), (c14 i)⟩ : Cell22).x.vec]) hA hW.cls (Rd.load (b := b24) (i := 0) (by kernel_rfl) (fun _ hw => (hw.1).cel 0 rfl) (by kernel_rfl)) ?_; clear hA ac; intro ac hA
                 refine st_s hA (Runs.cells (fun b => Value.slice (some ⟨b, 0, none⟩) 1 1) #[Value.int .u32 (⟨((y8 : Int) * 4096 : Int) + ((i : Nat) : Int), (c14 i)⟩ : Cell22).addr, Value.int .u64 (⟨((y8 : Int) * 4096 : Int) + ((i : Nat) : Int), (c14 i)⟩ : Cell22).x.wr, Value.int .i64 (⟨((y8 : Int) * 4096 : Int) + ((i : Nat) : Int), (c14 i)⟩ : Cell22).x.ws.f, Value.int .i64 (⟨((y8 : Int) * 4096 : Int) + ((i : Nat) : Int), (c14 i)⟩ : Cell22).x.ws.pc, Value.int .u64 (⟨((y8 : Int) * 4096 : Int) + ((i : Nat) : Int), (c14 i)⟩ : Cell22).x.rd, Value.int .i64 (⟨((y8 : Int) * 4096 : Int) + ((i : Nat) : Int), (c14 i)⟩ : Cell22).x.rs.f, Value.int .i64 (⟨((y8 : Int) * 4096 : Int) + ((i : Nat) : Int), (c14 i)⟩ : Cell22).x.rs.pc, Value.int .i64 (⟨((y8 : Int) * 4096 : Int) + ((i : Nat) : Int), (c14 i)⟩ : Cell22).x.vec] 81 (fun _ => by kernel_rfl) hW ?_); clear hA ac hW; intro b28 w29 hW hb28 hfw29 ac hA
                 refine st_s hA (Runs.appOwn (B := (some ⟨b28, 0, none⟩)) (k := 1) (E := 81) (sz := 8) (en := enCell22) (l := O2) (m := ([(⟨((y8 : Int) * 4096 : Int) + ((i : Nat) : Int), (c14 i)⟩ : Cell22)] : List Cell22)) (i := 3) (by kernel_rfl) (by kernel_rfl) elt_Cell22 (by kernel_rfl) hW rfl (rowAt_cel ((hW).cel 0 rfl) ([(⟨((y8 : Int) * 4096 : Int) + ((i : Nat) : Int), (c14 i)⟩ : Cell22)] : List Cell22) (by rfl) elt_Cell22.len) (by first | omega | (simp; done) | (simp; omega)) (by first | omega | (simp; done) | (simp; omega)) ?_); clear hA ac hW; intro A30 c31 w32 hW hcc31 ac hA
                 refine st_p (Value.slice A30 (O2 ++ ([(⟨((y8 : Int) * 4096 : Int) + ((i : Nat) : Int), (c14 i)⟩ : Cell22)] : List Cell22)).length c31) hA ?_; clear hA ac; intro ac hA
                 refine wpList_nil ?_
                 refine blkN ?_
                 refine thenN ?_
                 refine wp_region_lit ?_
                 refine st_q (Value.int .i64 ((i + 1 : Nat) : Int)) hA hW.cls (Rd.pureE (v0 := Value.int .i64 (IntKind.i64.wrap ((((i : Nat) : Int) : Int) + 1))) (fun _ => by kernel_rfl) (congrArg (Value.int .i64) ((w_i64 (x := (((i : Nat) : Int) : Int) + 1) (by omega) (by omega)).trans (by omega)))) ?_; clear hA ac; intro ac hA
                 refine st_p (Value.int .i64 ((i + 1 : Nat) : Int)) hA ?_; clear hA ac; intro ac hA
                 refine wpList_nil ?_
                 refine thenN ?_
                 exact ⟨4096 - (i + 1), by omega, i + 1, O2 ++ ([(⟨((y8 : Int) * 4096 : Int) + ((i : Nat) : Int), (c14 i)⟩ : Cell22)] : List Cell22), A30, c31, rfl, by omega, by rw [pgG_yes (u := (⟨((y8 : Int) * 4096 : Int) + ((i : Nat) : Int), (c14 i)⟩ : Cell22)) (if_neg h27), ← List.append_assoc, ← hO2], by first | omega | (simp; omega), by exact hcc31, hA.sub ⟨⟨by kernel_rfl, by kernel_rfl⟩, ⟨by kernel_rfl, by kernel_rfl⟩, ⟨by kernel_rfl, by kernel_rfl⟩, ⟨by kernel_rfl, by kernel_rfl⟩, ⟨by kernel_rfl, by kernel_rfl⟩, ⟨by kernel_rfl, by kernel_rfl⟩, ⟨by kernel_rfl, by kernel_rfl⟩, ⟨by kernel_rfl, by kernel_rfl⟩, ⟨by kernel_rfl, by kernel_rfl⟩, trivial⟩, (hW.pick [3, 4] (by decide) rfl).pickG [0, 1, 2, 3, 4] rfl⟩)
             · skip
               have h27 := not_f h27
               have h27 := of_decide_eq_true h27
               first
               | (exfalso; clear hA hW; omega)
               | (
                 refine wp_skip ?_
                 refine blkN ?_
                 refine thenN ?_
                 refine wp_region_lit ?_
                 refine st_q (Value.int .i64 ((i + 1 : Nat) : Int)) hA hW.cls (Rd.pureE (v0 := Value.int .i64 (IntKind.i64.wrap ((((i : Nat) : Int) : Int) + 1))) (fun _ => by kernel_rfl) (congrArg (Value.int .i64) ((w_i64 (x := (((i : Nat) : Int) : Int) + 1) (by omega) (by omega)).trans (by omega)))) ?_; clear hA ac; intro ac hA
                 refine st_p (Value.int .i64 ((i + 1 : Nat) : Int)) hA ?_; clear hA ac; intro ac hA
                 refine wpList_nil ?_
                 refine thenN ?_
                 exact ⟨4096 - (i + 1), by omega, i + 1, O2, A2, c2, rfl, by omega, by rw [pgG_no (if_pos h27), ← hO2], by first | omega | (simp; omega), by exact hcO2, hA.sub ⟨⟨by kernel_rfl, by kernel_rfl⟩, ⟨by kernel_rfl, by kernel_rfl⟩, ⟨by kernel_rfl, by kernel_rfl⟩, ⟨by kernel_rfl, by kernel_rfl⟩, ⟨by kernel_rfl, by kernel_rfl⟩, ⟨by kernel_rfl, by kernel_rfl⟩, ⟨by kernel_rfl, by kernel_rfl⟩, ⟨by kernel_rfl, by kernel_rfl⟩, ⟨by kernel_rfl, by kernel_rfl⟩, trivial⟩, (hW.pick [2, 3] (by decide) rfl).pickG [0, 1, 2, 3, 4] rfl⟩))
         · skip
           have h18 := of_decide_eq_false h18
           first
           | (exfalso; clear hA hW; omega)
           | (
             refine wp_exit ?_
             refine thenX ?_
             refine thenX ?_
             refine blkX ?_
             refine blkN ?_
             refine thenN ?_
             refine wp_region_lit ?_
             refine st_q (Value.int .i64 ((k + 1 : Nat) : Int)) hA hW.cls (Rd.pureE (v0 := Value.int .i64 (IntKind.i64.wrap ((((k : Nat) : Int) : Int) + 1))) (fun _ => by kernel_rfl) (congrArg (Value.int .i64) ((w_i64 (x := (((k : Nat) : Int) : Int) + 1) (by omega) (by omega)).trans (by omega)))) ?_; clear hA ac; intro ac hA
             refine st_p (Value.int .i64 ((k + 1 : Nat) : Int)) hA ?_; clear hA ac; intro ac hA
             refine wpList_nil ?_
             refine thenN ?_
             exact ⟨g2.length - (k + 1), by omega, k + 1, O2, A2, c2, rfl, by omega, by rw [gathOf_snoc hy8 hv16, hO2, show i = 4096 from by omega], by omega, by exact hcO2, hA.sub ⟨⟨by kernel_rfl, by kernel_rfl⟩, ⟨by kernel_rfl, by kernel_rfl⟩, ⟨by kernel_rfl, by kernel_rfl⟩, ⟨by kernel_rfl, by kernel_rfl⟩, ⟨by kernel_rfl, by kernel_rfl⟩, ⟨by kernel_rfl, by kernel_rfl⟩, trivial⟩, (hW.pick [0, 1] (by decide) rfl).pickG [1, 2, 3, 4] rfl⟩)))
 · skip
   have h7 := of_decide_eq_false h7
   first
   | (exfalso; clear hA hW; omega)
   | (
     refine wp_exit ?_
     refine thenX ?_
     refine thenX ?_
     refine blkX ?_
     refine thenN ?_
     refine wp_seq ?_
     refine wp_region_lit ?_
     refine st_p (Value.slice A O.length c) hA ?_; clear hA ac; intro ac hA
     refine st_p (Value.slice A O.length c) hA ?_; clear hA ac; intro ac hA
     refine wpList_nil ?_
     refine thenN ?_
     refine wp_ret ?_
     refine ret1 (v := Value.slice A O.length c) (by rfl) hA (Got.tmp hA (by kernel_rfl) (by kernel_rfl)) ?_
     clear hA
     exact ⟨g2, O, A, c, by first | rfl | (simp; done), by exact hw1_hp, by exact hw1_hs, by rw [List.take_of_length_le (by omega)] at hO; exact hO, (own_cap ((hW).get 0 rfl)), hW.madeRow 0 rfl⟩)

end Go.Proofs.Ytcgcippmbeileaa.L
