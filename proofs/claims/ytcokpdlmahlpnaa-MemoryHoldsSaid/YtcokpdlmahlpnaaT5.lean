/- Contracts, walked by program over the engine's laws. -/
import Derived.Test.YtcokpdlmahlpnaaProg
import Derived.Test.YtcokpdlmahlpnaaT4
namespace Go.Proofs.Ytcokpdlmahlpnaa.L
open Go.RowKit

theorem cellsOf_len (M : List (Int × (Nat → Int))) (frm : Int) (ks : List Int) : (cellsOf M frm ks).length ≤ 4096 * ks.length := by
  unfold cellsOf
  induction ks with
  | nil => simp
  | cons k ks ih => rw [List.flatMap_cons, List.length_append]; have := pgC_len frm k ((look M k).getD fun _ => 0) 4096; simp at ih ⊢; omega
set_option maxRecDepth 100000 in
theorem e_mlen (m : Nat) (b : Nat) (V : VT6) (w : World) (ho_p : (MemR m b V).p w) (hl_p : ∀ x_ ∈ (MemR m b V).fp, x_ < w.heap.size) (hl : V.length ≤ 100) (hh : ∀ e ∈ V, 0 ≤ e.1 ∧ e.1 ≤ 1048575) : Calls Try.prog 14 #[Value.pointer (some ⟨m, 0, none⟩)] w (fun e w' => ∃ ks : List Int, ∃ O_ : List Cell6, e = .returned (Value.int .i64 ((O_.length : Nat) : Int)) ∧ (ks.Perm (keys (vals V))) ∧ (ks.Pairwise fun x y => x ≤ y) ∧ (O_ = cellsOf (vals V) 0 ks) ∧ Fr No w w') := by
 have _hu := ho_p; have _hv := hl_p; clear _hu _hv
 have _hu := hl; clear _hu
 have _hu := hh; clear _hu
 refine enter_E 6 Try.func14 rfl rfl (by kernel_rfl) (L := [(0, Value.pointer (some ⟨m, 0, none⟩))]) (by kernel_rfl) ?_
 intro ac hA
 have hW := Ws.start w No
 have hW := hW.addG (MemR m b V) ho_p hl_p (by simp)
 have hW := hW.objG (L := [Cel m #[Value.map (some b)] 54, mapR b (fun a : Int => Value.int .u32 a) (fun x_ : Nat => Value.pointer (some ⟨x_, 0, none⟩)) (outs V), SubR (fun (c_ : Nat → Int) (b_ : Nat) => PgR .u32 4096 64 c_ b_) V]) ho_p hl_p
 clear ho_p hl_p
 refine wp_seq ?_
 refine wp_region_lit ?_
 refine st_rd (v := Value.int .i64 0) hA (by kernel_rfl) (by kernel_rfl) (by kernel_rfl) hW.cls (Rd.pure fun _ => by kernel_rfl) ?_; clear hA ac; intro ac hA
 refine wpList_nil ?_
 refine thenN ?_
 refine wp_seq ?_
 refine wp_region_lit ?_
 refine st_rd (v := Value.pointer (some ⟨m, 0, none⟩)) hA (by kernel_rfl) (by kernel_rfl) (by kernel_rfl) hW.cls (Rd.pure fun _ => by kernel_rfl) ?_; clear hA ac; intro ac hA
 refine st hA (by kernel_rfl) (by kernel_rfl) (by kernel_rfl) (Runs.call (fun _ => by kernel_rfl) (e_cells m b V (0) w ((hW).getG 3 rfl) ((hW).glt _ (List.mem_of_getElem? (i := 3) rfl)) (by first | omega | assumption | exact ⟨by omega, by omega⟩) (by first | omega | assumption | exact ⟨by omega, by omega⟩) (by first | omega | assumption | exact ⟨by omega, by omega⟩)) ?_)
 rintro _ w1 ⟨g2, g3, Ao4, co5, rfl, hw1_hp, hw1_hs, hw1_hO, hcco5, hu_⟩; refine ⟨_, rfl, ?_⟩; replace hW := hW.made hu_; clear hA ac; intro ac hA
 refine st_rd (v := Value.int .i64 (((g3).length : Nat) : Int)) hA (by kernel_rfl) (by kernel_rfl) (by kernel_rfl) hW.cls (Rd.pure fun _ => by kernel_rfl) ?_; clear hA ac; intro ac hA
 refine st_rd (v := Value.int .i64 (((g3).length : Nat) : Int)) hA (by kernel_rfl) (by kernel_rfl) (by kernel_rfl) hW.cls (Rd.pure fun _ => by kernel_rfl) ?_; clear hA ac; intro ac hA
 refine wpList_nil ?_
 refine thenN ?_
 refine wp_ret ?_
 refine ret1 (v := Value.int .i64 (((g3).length : Nat) : Int)) (by rfl) hA (Got.tmp hA (by kernel_rfl) (by kernel_rfl)) ?_
 clear hA
 exact ⟨g2, g3, by first | rfl | (simp; done), hw1_hp, hw1_hs, hw1_hO, hW.fr⟩

set_option maxRecDepth 100000 in
theorem it_all_Cell6 (b : Nat) (A : Option Addr) (c : Nat) (l : List Cell6) (hc : l.length ≤ c) (hl : l.length ≤ 1000000) : Iter Try.prog 47 #[Value.pointer (some ⟨b, 0, none⟩)] (fun x_ : Cell6 × Nat => #[Value.int .i64 ((x_.2 : Nat) : Int), x_.1.v]) (· = l.zipIdx) [Cel b #[Value.slice A l.length c] 22, roR A 2 enCell6 l] := by
 intro l_ J_ Jx_ r0 w hOs_ hdis_ hR_ hJ0_ hp_ hlt_
 have hW := iterW hOs_ hdis_ hp_ hlt_; clear hOs_ hdis_ hp_ hlt_
 have _hu := hc; clear _hu
 have _hu := hl; clear _hu
 refine enter_F 18 Try.func47 rfl rfl (by kernel_rfl) (L := [(0, Value.func (.yield l_) #[] #[]), (1, Value.pointer (some ⟨b, 0, none⟩))]) (by kernel_rfl) ?_
 intro ac hA
 refine wpIn_seq ?_
 refine wpIn_region_lit ?_
 refine st_rdF (v := Value.slice A l.length c) hA (by kernel_rfl) (by kernel_rfl) (by kernel_rfl) (by kernel_rfl) hW.cls (Rd.load (b := b) (i := 0) (by kernel_rfl) (fun _ hw => show _ = _ from (hw.1).getG 0 rfl) (by kernel_rfl)) ?_; clear hA ac; intro ac hA
 refine st_rdF (v := Value.int .i64 ((l.length : Nat) : Int)) hA (by kernel_rfl) (by kernel_rfl) (by kernel_rfl) (by kernel_rfl) hW.cls (Rd.pure fun _ => by kernel_rfl) ?_; clear hA ac; intro ac hA
 refine st_rdF (v := Value.int .i64 0) hA (by kernel_rfl) (by kernel_rfl) (by kernel_rfl) (by kernel_rfl) hW.cls (Rd.pure fun _ => by kernel_rfl) ?_; clear hA ac; intro ac hA
 refine wpListIn_nil ?_
 refine thenN ?_
 refine wpIn_block ?_
 refine wpIn_loop_m (fun m_ ac_ wl_ => ∃ k : Nat, ∃ r_ : Res, m_ = l.length - k ∧ (k ≤ l.length) ∧ (J_ (l.zipIdx.take k) r_) ∧ Fm 18 [] [(0, Value.func (.yield l_) #[] #[]), (1, Value.pointer (some ⟨b, 0, none⟩)), (5, Value.slice A l.length c), (6, Value.int .i64 ((l.length : Nat) : Int)), (7, Value.int .i64 ((k : Nat) : Int))] ac_ ∧ Ws w (· ∈ r0.fp) [r_] [Cel b #[Value.slice A l.length c] 22, roR A 2 enCell6 l] wl_) _ ⟨0, r0, rfl, by omega, by exact hJ0_, hA.sub ⟨⟨by kernel_rfl, by kernel_rfl⟩, ⟨by kernel_rfl, by kernel_rfl⟩, ⟨by kernel_rfl, by kernel_rfl⟩, ⟨by kernel_rfl, by kernel_rfl⟩, ⟨by kernel_rfl, by kernel_rfl⟩, trivial⟩, (hW.pick [0] (by decide) rfl).pickG [0, 1] rfl⟩ ?_
 clear hA ac hW; rintro m_ ac w1 ⟨k, r_, rfl, hk, hJ, hA, hW⟩
 refine wpIn_seq ?_
 refine wpIn_region_lit ?_
 refine st_rdF (v := Value.bool (decide ((((k : Nat) : Int) : Int) < (((l.length : Nat) : Int) : Int)))) hA (by kernel_rfl) (by kernel_rfl) (by kernel_rfl) (by kernel_rfl) hW.cls (Rd.pure fun _ => by kernel_rfl) ?_; clear hA ac; intro ac hA
 refine wpListIn_nil ?_
 refine thenN ?_
 refine wpIn_seq ?_
 refine wpIn_cond_split (t := decide ((((k : Nat) : Int) : Int) < (((l.length : Nat) : Int) : Int))) (hA.eval (by kernel_rfl)) (fun h2 => ?_) (fun h2 => ?_)
 · skip
   have h2 := of_decide_eq_true h2
   first
   | (exfalso; clear hA hW; omega)
   | (
     refine wpIn_skip ?_
     refine thenN ?_
     refine wpIn_seq ?_
     refine wpIn_block ?_
     refine wpIn_seq ?_
     refine wpIn_region_lit ?_
     refine st_rdF (v := Value.int .i64 ((k : Nat) : Int)) hA (by kernel_rfl) (by kernel_rfl) (by kernel_rfl) (by kernel_rfl) hW.cls (Rd.pure fun _ => by kernel_rfl) ?_; clear hA ac; intro ac hA
     obtain ⟨y3, hy3⟩ : ∃ y, l[k]? = some y := ⟨_, List.getElem?_eq_getElem (by first | omega | (simp; done) | (simp; omega))⟩
     obtain ⟨b4, o5, rfl, hbb4⟩ := row_some ((hW).getG 1 rfl) hy3
     refine st_rdF (v := Value.pointer (some ⟨b4, o5 + k * 2, none⟩)) hA (by kernel_rfl) (by kernel_rfl) (by kernel_rfl) (by kernel_rfl) hW.cls (Rd.indexAddr (e := 30) (sz := 2) (b := b4) (off := o5) (n := l.length) (c := c) (k := k) (by kernel_rfl) (by kernel_rfl) (by first | omega | (simp; done) | (simp; omega)) (fun _ => by kernel_rfl) (fun _ => by kernel_rfl)) ?_; clear hA ac; intro ac hA
     refine st_rdF (v := Value.agg #[Value.int .u32 y3.addr, Value.int .u32 y3.word]) hA (by kernel_rfl) (by kernel_rfl) (by kernel_rfl) (by kernel_rfl) hW.cls (Rd.loadRow (b := b4) (i := o5 + k * 2) (xs := [Value.int .u32 y3.addr, Value.int .u32 y3.word]) (by kernel_rfl) (fun _ hw => row_ld ((hw.1).getG 1 rfl) hy3 (Fr.refl No _) (fun h => h) 0 2 (by kernel_rfl)) (by kernel_rfl)) ?_; clear hA ac; intro ac hA
     refine stF hA (by kernel_rfl) (by kernel_rfl) (by kernel_rfl) (by kernel_rfl) (RunsF.of (Runs.cells (fun b => Value.pointer (some ⟨b, 0, none⟩)) #[Value.int .u32 0, Value.int .u32 0] 30 (fun _ => by kernel_rfl) hW ?_)); clear hA ac hW; intro b6 w7 hW hb6 hfw7 ac hA
     refine st_rdF (v := Value.int .i64 ((k : Nat) : Int)) hA (by kernel_rfl) (by kernel_rfl) (by kernel_rfl) (by kernel_rfl) hW.cls (Rd.pure fun _ => by kernel_rfl) ?_; clear hA ac; intro ac hA
     refine stF hA (by kernel_rfl) (by kernel_rfl) (by kernel_rfl) (by kernel_rfl) (RunsF.of (Runs.store (v := Value.agg #[Value.int .u32 y3.addr, Value.int .u32 y3.word]) (b := b6) (j := 0) (n := 2) (cs' := #[Value.int .u32 y3.addr, Value.int .u32 y3.word]) (H' := [Cel b6 #[Value.int .u32 y3.addr, Value.int .u32 y3.word] 30, r_]) (by kernel_rfl) (by kernel_rfl) (by kernel_rfl) (by kernel_rfl) (by kernel_rfl) hW 0 (by rfl) (Nat.le_of_ble_eq_true (by kernel_rfl)) (by kernel_rfl) (by rfl) ?_)); clear hA ac hW; intro w8 hW ac hA
     refine wpListIn_nil ?_
     refine thenN ?_
     refine wpIn_seq ?_
     refine wpIn_region_lit ?_
     refine st_rdF (v := Value.func (.yield l_) #[] #[]) hA (by kernel_rfl) (by kernel_rfl) (by kernel_rfl) (by kernel_rfl) hW.cls (Rd.pure fun _ => by kernel_rfl) ?_; clear hA ac; intro ac hA
     refine st_rdF (v := Value.int .i64 ((k : Nat) : Int)) hA (by kernel_rfl) (by kernel_rfl) (by kernel_rfl) (by kernel_rfl) hW.cls (Rd.pure fun _ => by kernel_rfl) ?_; clear hA ac; intro ac hA
     refine st_rdF (v := Value.agg #[Value.int .u32 y3.addr, Value.int .u32 y3.word]) hA (by kernel_rfl) (by kernel_rfl) (by kernel_rfl) (by kernel_rfl) hW.cls (Rd.load (b := b6) (i := 0) (by kernel_rfl) (fun _ hw => (hw.1).cel 0 rfl) (by kernel_rfl)) ?_; clear hA ac; intro ac hA
     refine stF hA (by kernel_rfl) (by kernel_rfl) (by kernel_rfl) (by kernel_rfl) (RunsF.yield hR_ (l.zipIdx.take k) ((y3, k)) (fun _ => by kernel_rfl) hW 1 rfl (comes_at hy3) (hJ) hW.fr (hW.may _ (List.mem_of_getElem? (i := 1) rfl)) ?_); clear hA ac hW; intro v9 r10 w11 hv9t hv9f hW ac hA
     refine st_rdF (v := Value.bool (!v9)) hA (by kernel_rfl) (by kernel_rfl) (by kernel_rfl) (by kernel_rfl) hW.cls (Rd.pure fun _ => by kernel_rfl) ?_; clear hA ac; intro ac hA
     refine wpListIn_nil ?_
     refine thenN ?_
     refine wpIn_cond_split (t := !v9) (hA.eval (by kernel_rfl)) (fun h12 => ?_) (fun h12 => ?_)
     · skip
       have h12 := not_t h12
       first
       | (exfalso; clear hA hW; omega)
       | (
         refine wpIn_ret ?_
         refine blkR ?_
         refine thenR ?_
         refine thenR ?_
         refine blkR ?_
         refine retF (.inl rfl) hA ?_
         refine leave0 (by rfl)  ?_
         clear hA
         exact ranDone hW 1 rfl (.inr ⟨_, hv9f h12⟩))
     · skip
       have h12 := not_f h12
       first
       | (exfalso; clear hA hW; omega)
       | (
         refine wpIn_skip ?_
         refine blkN ?_
         refine thenN ?_
         refine wpIn_region_lit ?_
         refine st_rdF (v := Value.int .i64 ((k + 1 : Nat) : Int)) hA (by kernel_rfl) (by kernel_rfl) (by kernel_rfl) (by kernel_rfl) hW.cls (Rd.pureE (v0 := Value.int .i64 (IntKind.i64.wrap ((((k : Nat) : Int) : Int) + 1))) (fun _ => by kernel_rfl) (congrArg (Value.int .i64) ((w_i64 (x := (((k : Nat) : Int) : Int) + 1) (by omega) (by omega)).trans (by omega)))) ?_; clear hA ac; intro ac hA
         refine st_rdF (v := Value.int .i64 ((k + 1 : Nat) : Int)) hA (by kernel_rfl) (by kernel_rfl) (by kernel_rfl) (by kernel_rfl) hW.cls (Rd.pure fun _ => by kernel_rfl) ?_; clear hA ac; intro ac hA
         refine wpListIn_nil ?_
         refine thenN ?_
         have hJn := hv9t h12; rw [zip_snoc hy3] at hJn
         exact ⟨l.length - (k + 1), by omega, k + 1, r10, rfl, by omega, by exact hJn, hA.sub ⟨⟨by kernel_rfl, by kernel_rfl⟩, ⟨by kernel_rfl, by kernel_rfl⟩, ⟨by kernel_rfl, by kernel_rfl⟩, ⟨by kernel_rfl, by kernel_rfl⟩, ⟨by kernel_rfl, by kernel_rfl⟩, trivial⟩, (hW.pick [1] (by decide) rfl).pickG [0, 1] rfl⟩))
 · skip
   have h2 := of_decide_eq_false h2
   first
   | (exfalso; clear hA hW; omega)
   | (
     refine wpIn_exit ?_
     refine thenX ?_
     refine thenX ?_
     refine blkX ?_
     refine retF (.inr rfl) hA ?_
     refine leave0 (by rfl)  ?_
     clear hA
     rw [zip_all (by omega)] at hJ; exact ranDone hW 0 rfl (.inl ⟨_, rfl, hJ⟩))

set_option maxRecDepth 100000 in
theorem e_all_Cell6 (A_l : Option Addr) (c_l : Nat) (l : List Cell6) (w : World) (hr_l : RowAt w A_l 2 enCell6 l) (hc_l : l.length ≤ c_l) (hl : l.length ≤ 1000000) : Calls Try.prog 36 #[Value.slice A_l l.length c_l] w (fun e w' => ∃ (lb : Array Value) (g : Res), e = .returned (Value.func (.func 47) #[] lb) ∧ Iter Try.prog 47 lb (fun x_ : Cell6 × Nat => #[Value.int .i64 ((x_.2 : Nat) : Int), x_.1.v]) (· = l.zipIdx) [g] ∧ g.from_ [roR A_l 2 enCell6 l] w w' ∧ Fr No w w') := by
 have _hu := hc_l; have _hv := hr_l; clear _hu _hv
 have _hu := hl; clear _hu
 refine enter_E 4 Try.func36 rfl rfl (by kernel_rfl) (L := [(0, Value.slice A_l l.length c_l)]) (by kernel_rfl) ?_
 intro ac hA
 have hW := Ws.start w No
 have hW := hW.arg hr_l
 refine wp_seq ?_
 refine wp_region_lit ?_
 refine st hA (by kernel_rfl) (by kernel_rfl) (by kernel_rfl) (Runs.cells (fun b => Value.pointer (some ⟨b, 0, none⟩)) #[Value.slice A_l l.length c_l] 22 (fun _ => by kernel_rfl) hW ?_); clear hA ac hW; intro b1 w2 hW hb1 hfw2 ac hA
 refine st_rd (v := Value.nilFunc) hA (by kernel_rfl) (by kernel_rfl) (by kernel_rfl) hW.cls (Rd.pure fun _ => by kernel_rfl) ?_; clear hA ac; intro ac hA
 refine wpList_nil ?_
 refine thenN ?_
 refine wp_seq ?_
 refine wp_region_lit ?_
 refine st_rd (v := Value.func (.func 47) #[] #[Value.pointer (some ⟨b1, 0, none⟩)]) hA (by kernel_rfl) (by kernel_rfl) (by kernel_rfl) hW.cls (Rd.pure fun _ => by kernel_rfl) ?_; clear hA ac; intro ac hA
 refine st_rd (v := Value.func (.func 47) #[] #[Value.pointer (some ⟨b1, 0, none⟩)]) hA (by kernel_rfl) (by kernel_rfl) (by kernel_rfl) hW.cls (Rd.pure fun _ => by kernel_rfl) ?_; clear hA ac; intro ac hA
 refine wpList_nil ?_
 refine thenN ?_
 refine wp_ret ?_
 refine ret1 (v := Value.func (.func 47) #[] #[Value.pointer (some ⟨b1, 0, none⟩)]) (by rfl) hA (Got.tmp hA (by kernel_rfl) (by kernel_rfl)) ?_
 clear hA
 exact ⟨_, _, rfl, iter_many (it_all_Cell6 b1 _ _ l hc_l hl), from_many (froms_cons (hW.outOwn 0 rfl (fun _ h => h)) (froms_cons (hW.outArg 0 rfl (.head _)) froms_nil)), hW.fr⟩

set_option maxRecDepth 100000 in
theorem it_35 (b : Nat) (A : Option Addr) (c : Nat) (l : List Cell6) (hc : l.length ≤ c) (hl : l.length ≤ 1000000) : Iter Try.prog 35 #[Value.pointer (some ⟨b, 0, none⟩)] (fun x_ : Cell6 => #[Value.int .u32 x_.addr, Value.int .u32 x_.word]) (· = l) [Cel b #[Value.slice A l.length c] 22, roR A 2 enCell6 l] := by
 intro l_ J_ Jx_ r0 w hOs_ hdis_ hR_ hJ0_ hp_ hlt_
 have hW := iterW hOs_ hdis_ hp_ hlt_; clear hOs_ hdis_ hp_ hlt_
 have _hu := hc; clear _hu
 have _hu := hl; clear _hu
 refine enter_F 16 Try.func35 rfl rfl (by kernel_rfl) (L := [(0, Value.func (.yield l_) #[] #[]), (1, Value.pointer (some ⟨b, 0, none⟩))]) (by kernel_rfl) ?_
 intro ac hA
 refine wpIn_seq ?_
 refine wpIn_region_lit ?_
 refine stF hA (by kernel_rfl) (by kernel_rfl) (by kernel_rfl) (by kernel_rfl) (RunsF.of (Runs.cells (fun b => Value.pointer (some ⟨b, 0, none⟩)) #[Value.func (.yield l_) #[] #[]] 69 (fun _ => by kernel_rfl) hW ?_)); clear hA ac hW; intro b1 w2 hW hb1 hfw2 ac hA
 refine wpListIn_nil ?_
 refine thenN ?_
 refine wpIn_scope ?_
 refine wpIn_seq ?_
 refine wpIn_label ?_
 refine thenN ?_
 refine wpIn_seq ?_
 refine wpIn_region_lit ?_
 refine st_rdF (v := Value.slice A l.length c) hA (by kernel_rfl) (by kernel_rfl) (by kernel_rfl) (by kernel_rfl) hW.cls (Rd.load (b := b) (i := 0) (by kernel_rfl) (fun _ hw => show _ = _ from (hw.1).getG 0 rfl) (by kernel_rfl)) ?_; clear hA ac; intro ac hA
 refine stF hA (by kernel_rfl) (by kernel_rfl) (by kernel_rfl) (by kernel_rfl) (RunsF.of (Runs.call (fun _ => by kernel_rfl) (e_all_Cell6 A c l w2 ((hW).getG 1 rfl) (by first | assumption | omega | (simp; omega) | simp) (by first | omega | (simp; done))) ?_))
 rintro _ w3 ⟨lb4, g5, rfl, hIg5, hfg5, hfw3⟩; refine ⟨_, rfl, ?_⟩; have hW0 := hW; have hW := hW0.call hfw3; have hW := hW0.addFromAt hW hfg5 (in_cons (in_at 1 rfl) in_nil); clear hW0 hA ac; intro ac hA
 refine wpListIn_nil ?_
 refine thenN ?_
 refine wpIn_block ?_
 have hW := hW.share 0 rfl (H' := [r0]) rfl
 refine wp_range (encs := (fun x_ : Cell6 × Nat => #[Value.int .i64 ((x_.2 : Nat) : Int), x_.1.v])) (Sx := (· = l.zipIdx)) hA (by kernel_rfl) (by kernel_rfl) (enters_of Try.func47 (by kernel_rfl) rfl) (by kernel_rfl) (fun _ => rfl) hIg5 (List.forall_mem_singleton.2 (List.mem_of_getElem? (i := 1) rfl)) (fun pre_ H_ => ∃ k : Nat, ∃ r_ : Res, pre_ = l.zipIdx.take k ∧ k ≤ l.length ∧ (J_ (l.take k) r_) ∧ H_ = [r_]) (fun c_ _ H_ => (c_ = .exit 0 ∧ ∃ q_ : List Cell6, ∃ r_ : Res, (Jx_ q_ r_) ∧ H_ = [r_])) (H := [r0]) (K := []) (hW.pick [0] (by decide) rfl) ⟨0, r0, rfl, Nat.zero_le _, by exact hJ0_, rfl⟩ ?_ ?_ ?_
 · skip
   clear hA ac hW; intro l_6 rd_6 bs_6 pre_ x_ Hk_ w7 T_6 ac hrd_6 hbs_6 hbr_6 hok_ hJ_ hA hW hB_6 hT_6
   obtain ⟨k, r_, rfl, hk_, hJ, rfl⟩ := hJ_
   obtain ⟨y8, rfl, hy8, hlty8, hsny8⟩ := comes_zip hok_ hk_
   replace hA : Fm 16 [] [(0, Value.func (.yield l_) #[] #[]), (1, Value.pointer (some ⟨b, 0, none⟩)), (2, Value.pointer (some ⟨b1, 0, none⟩)), (5, Value.slice A l.length c), (6, Value.func (.func 47) #[] lb4), (7, Value.int .i64 ((k : Nat) : Int)), (8, y8.v)] ac := hA.sub ⟨⟨by kernel_rfl, by kernel_rfl⟩, ⟨by kernel_rfl, by kernel_rfl⟩, ⟨by kernel_rfl, by kernel_rfl⟩, ⟨by kernel_rfl, by kernel_rfl⟩, ⟨by kernel_rfl, by kernel_rfl⟩, ⟨by kernel_rfl, by kernel_rfl⟩, ⟨by kernel_rfl, by kernel_rfl⟩, trivial⟩
   refine wpIn_region_lit ?_
   refine stF hA (by kernel_rfl) (by kernel_rfl) (by kernel_rfl) (by kernel_rfl) (RunsF.of (Runs.cells (fun b => Value.pointer (some ⟨b, 0, none⟩)) #[Value.int .u32 0, Value.int .u32 0] 30 (fun _ => by kernel_rfl) hW ?_)); clear hA ac hW; intro b9 w10 hW hb9 hfw10 ac hA
   refine stF hA (by kernel_rfl) (by kernel_rfl) (by kernel_rfl) (by kernel_rfl) (RunsF.of (Runs.store (v := y8.v) (b := b9) (j := 0) (n := 2) (cs' := #[Value.int .u32 y8.addr, Value.int .u32 y8.word]) (H' := [Cel b9 #[Value.int .u32 y8.addr, Value.int .u32 y8.word] 30, rd_6, r_]) (by kernel_rfl) (by kernel_rfl) (by kernel_rfl) (by kernel_rfl) (by kernel_rfl) hW 0 (by rfl) (Nat.le_of_ble_eq_true (by kernel_rfl)) (by kernel_rfl) (by rfl) ?_)); clear hA ac hW; intro w11 hW ac hA
   refine wpListIn_nil ?_
   refine thenN ?_
   refine begun (bs := bs_6) (H' := [Cel b9 #[Value.int .u32 y8.addr, Value.int .u32 y8.word] 30, bs_6, r_]) hW 1 rfl (fun b hb => by rw [hbs_6] at hb; rw [hrd_6]; exact hb) rfl ?_; clear hW; intro w12 hW
   refine wpIn_block ?_
   refine wpIn_seq ?_
   refine wpIn_region_lit ?_
   refine st_rdF (v := Value.func (.yield l_) #[] #[]) hA (by kernel_rfl) (by kernel_rfl) (by kernel_rfl) (by kernel_rfl) hW.cls (Rd.load (b := b1) (i := 0) (by kernel_rfl) (fun _ hw => show _ = _ from (hw.1).getG 0 rfl) (by kernel_rfl)) ?_; clear hA ac; intro ac hA
   refine st_rdF (v := Value.pointer (some ⟨b9, 0, none⟩)) hA (by kernel_rfl) (by kernel_rfl) (by kernel_rfl) (by kernel_rfl) hW.cls (Rd.pure fun _ => by kernel_rfl) ?_; clear hA ac; intro ac hA
   refine st_rdF (v := Value.int .u32 y8.addr) hA (by kernel_rfl) (by kernel_rfl) (by kernel_rfl) (by kernel_rfl) hW.cls (Rd.load (b := b9) (i := 0) (by kernel_rfl) (fun _ hw => (hw.1).cel 0 rfl) (by kernel_rfl)) ?_; clear hA ac; intro ac hA
   refine st_rdF (v := Value.pointer (some ⟨b9, 1, none⟩)) hA (by kernel_rfl) (by kernel_rfl) (by kernel_rfl) (by kernel_rfl) hW.cls (Rd.pure fun _ => by kernel_rfl) ?_; clear hA ac; intro ac hA
   refine st_rdF (v := Value.int .u32 y8.word) hA (by kernel_rfl) (by kernel_rfl) (by kernel_rfl) (by kernel_rfl) hW.cls (Rd.load (b := b9) (i := 1) (by kernel_rfl) (fun _ hw => (hw.1).cel 0 rfl) (by kernel_rfl)) ?_; clear hA ac; intro ac hA
   refine stF hA (by kernel_rfl) (by kernel_rfl) (by kernel_rfl) (by kernel_rfl) (RunsF.yield hR_ (l.take k) (y8) (fun _ => by kernel_rfl) hW 2 rfl (comes_atL hy8) (hJ) (chainFr hB_6 hT_6 hW.fr) (chainMay hB_6 hT_6 (hW.may _ (List.mem_of_getElem? (i := 2) rfl))) ?_); clear hA ac hW; intro v13 r14 w15 hv13t hv13f hW ac hA
   refine st_rdF (v := Value.bool (!v13)) hA (by kernel_rfl) (by kernel_rfl) (by kernel_rfl) (by kernel_rfl) hW.cls (Rd.pure fun _ => by kernel_rfl) ?_; clear hA ac; intro ac hA
   refine wpListIn_nil ?_
   refine thenN ?_
   refine wpIn_cond_split (t := !v13) (hA.eval (by kernel_rfl)) (fun h16 => ?_) (fun h16 => ?_)
   · skip
     have h16 := not_t h16
     first
     | (exfalso; clear hA hW; omega)
     | (
       refine wpIn_exit ?_
       refine blkY (by kernel_rfl) ?_
       exact ⟨_, ⟨rfl, _, r14, by exact hv13f h16, rfl⟩, (hW.pick [1, 2] (by decide) rfl).pickG [0, 1, 2, 3] rfl⟩)
   · skip
     have h16 := not_f h16
     first
     | (exfalso; clear hA hW; omega)
     | (
       refine wpIn_skip ?_
       refine blkN ?_
       have hJn := hv13t h16; rw [← tk_snoc hy8] at hJn
       exact ⟨_, ⟨k + 1, r14, hsny8, hlty8, by exact hJn, rfl⟩, (hW.pick [1, 2] (by decide) rfl).pickG [0, 1, 2, 3] rfl⟩)
 · skip
   clear hA ac hW; intro D17 xs_ Hk_ w18 ac hS_ hJ_ hA hW
   obtain ⟨k, r_, hpre_, hk_, hJ, rfl⟩ := hJ_
   have hke : k = l.length := by have := congrArg List.length (hS_.symm.trans hpre_); simp at this; omega
   clear hpre_ hS_
   replace hW : Ws w (· ∈ r0.fp) [r_, DefR D17] [Cel b1 #[Value.func (.yield l_) #[] #[]] 69, g5, Cel b #[Value.slice A l.length c] 22, roR A 2 enCell6 l] w18 := hW
   refine blkN ?_
   refine nogN ?_
   refine retF (.inr rfl) hA ?_
   refine leaveD (H' := [r_]) hW 1 rfl rfl ?_; clear hW; intro w19 hW
   refine leave0 (by rfl)  ?_
   clear hA
   rw [List.take_of_length_le (by omega)] at hJ; exact ranDone hW 0 rfl (.inl ⟨_, rfl, hJ⟩)
 · skip
   clear hA ac hW; intro D20 c_ pre_ Hk_ w21 ac hJ_ hA hW
   rcases hJ_ with ⟨rfl, q_, r_, hJx, rfl⟩
   · skip
     replace hW : Ws w (· ∈ r0.fp) [r_, DefR D20] [Cel b1 #[Value.func (.yield l_) #[] #[]] 69, g5, Cel b #[Value.slice A l.length c] 22, roR A 2 enCell6 l] w21 := hW
     refine wpIn_exit ?_
     refine blkX ?_
     refine nogN ?_
     refine retF (.inr rfl) hA ?_
     refine leaveD (H' := [r_]) hW 1 rfl rfl ?_; clear hW; intro w22 hW
     refine leave0 (by rfl)  ?_
     clear hA
     exact ranDone hW 0 rfl (.inr ⟨_, hJx⟩)

set_option maxRecDepth 100000 in
theorem e_mfrom (m : Nat) (b : Nat) (V : VT6) (frm : Int) (w : World) (ho_p : (MemR m b V).p w) (hl_p : ∀ x_ ∈ (MemR m b V).fp, x_ < w.heap.size) (hl : V.length ≤ 100) (hh : ∀ e ∈ V, 0 ≤ e.1 ∧ e.1 ≤ 1048575) (hf : 0 ≤ frm ∧ frm ≤ 4294967295) : Calls Try.prog 16 #[Value.pointer (some ⟨m, 0, none⟩), Value.int .u32 frm] w (fun e w' => ∃ (lb : Array Value) (g : Res), e = .returned (Value.func (.func 35) #[] lb) ∧ Iter Try.prog 35 lb (fun x_ : Cell6 => #[Value.int .u32 x_.addr, Value.int .u32 x_.word]) (fun l_ : List Cell6 => ∃ ks : List Int, ks.Perm (keys (vals V)) ∧ (ks.Pairwise fun x y => x ≤ y) ∧ l_ = cellsOf (vals V) frm ks) [g] ∧ g.from_ [] w w' ∧ Fr No w w') := by
 have _hu := ho_p; have _hv := hl_p; clear _hu _hv
 have _hu := hl; clear _hu
 have _hu := hh; clear _hu
 have _hu := hf; clear _hu
 refine enter_E 10 Try.func16 rfl rfl (by kernel_rfl) (L := [(0, Value.pointer (some ⟨m, 0, none⟩)), (1, Value.int .u32 frm)]) (by kernel_rfl) ?_
 intro ac hA
 have hW := Ws.start w No
 have hW := hW.addG (MemR m b V) ho_p hl_p (by simp)
 have hW := hW.objG (L := [Cel m #[Value.map (some b)] 54, mapR b (fun a : Int => Value.int .u32 a) (fun x_ : Nat => Value.pointer (some ⟨x_, 0, none⟩)) (outs V), SubR (fun (c_ : Nat → Int) (b_ : Nat) => PgR .u32 4096 64 c_ b_) V]) ho_p hl_p
 clear ho_p hl_p
 refine wp_seq ?_
 refine wp_region_lit ?_
 refine st_rd (v := Value.nilFunc) hA (by kernel_rfl) (by kernel_rfl) (by kernel_rfl) hW.cls (Rd.pure fun _ => by kernel_rfl) ?_; clear hA ac; intro ac hA
 refine wpList_nil ?_
 refine thenN ?_
 refine wp_seq ?_
 refine wp_region_lit ?_
 refine st_rd (v := Value.pointer (some ⟨m, 0, none⟩)) hA (by kernel_rfl) (by kernel_rfl) (by kernel_rfl) hW.cls (Rd.pure fun _ => by kernel_rfl) ?_; clear hA ac; intro ac hA
 refine st_rd (v := Value.int .u32 frm) hA (by kernel_rfl) (by kernel_rfl) (by kernel_rfl) hW.cls (Rd.pure fun _ => by kernel_rfl) ?_; clear hA ac; intro ac hA
 refine st hA (by kernel_rfl) (by kernel_rfl) (by kernel_rfl) (Runs.call (fun _ => by kernel_rfl) (e_cells m b V (frm) w ((hW).getG 3 rfl) ((hW).glt _ (List.mem_of_getElem? (i := 3) rfl)) (by first | omega | assumption | exact ⟨by omega, by omega⟩) (by first | omega | assumption | exact ⟨by omega, by omega⟩) (by first | omega | assumption | exact ⟨by omega, by omega⟩)) ?_)
 rintro _ w1 ⟨g2, g3, Ao4, co5, rfl, hw1_hp, hw1_hs, hw1_hO, hcco5, hu_⟩; refine ⟨_, rfl, ?_⟩; replace hW := hW.made hu_; clear hA ac; intro ac hA
 refine st hA (by kernel_rfl) (by kernel_rfl) (by kernel_rfl) (Runs.cells (fun b => Value.pointer (some ⟨b, 0, none⟩)) #[Value.slice none 0 0] 22 (fun _ => by kernel_rfl) hW ?_); clear hA ac hW; intro b7 w8 hW hb7 hfw8 ac hA
 refine st hA (by kernel_rfl) (by kernel_rfl) (by kernel_rfl) (Runs.store (v := Value.slice Ao4 (g3).length co5) (b := b7) (j := 0) (n := 1) (cs' := #[Value.slice Ao4 (g3).length co5]) (H' := [Cel b7 #[Value.slice Ao4 (g3).length co5] 22, rowR 30 2 enCell6 (Value.slice Ao4 (g3).length co5) g3]) (by kernel_rfl) (by kernel_rfl) (by kernel_rfl) (by kernel_rfl) (by kernel_rfl) hW 0 (by rfl) (Nat.le_of_ble_eq_true (by kernel_rfl)) (by kernel_rfl) (by rfl) ?_); clear hA ac hW; intro w9 hW ac hA
 refine wpList_nil ?_
 refine thenN ?_
 refine wp_seq ?_
 refine wp_region_lit ?_
 refine st_rd (v := Value.func (.func 35) #[] #[Value.pointer (some ⟨b7, 0, none⟩)]) hA (by kernel_rfl) (by kernel_rfl) (by kernel_rfl) hW.cls (Rd.pure fun _ => by kernel_rfl) ?_; clear hA ac; intro ac hA
 refine st_rd (v := Value.func (.func 35) #[] #[Value.pointer (some ⟨b7, 0, none⟩)]) hA (by kernel_rfl) (by kernel_rfl) (by kernel_rfl) hW.cls (Rd.pure fun _ => by kernel_rfl) ?_; clear hA ac; intro ac hA
 refine wpList_nil ?_
 refine thenN ?_
 refine wp_ret ?_
 refine ret1 (v := Value.func (.func 35) #[] #[Value.pointer (some ⟨b7, 0, none⟩)]) (by rfl) hA (Got.tmp hA (by kernel_rfl) (by kernel_rfl)) ?_
 clear hA
 have hkl_ : g3.length ≤ 500000 := by rw [hw1_hO]; have h1_ := cellsOf_len (vals V) frm g2; have h2_ := hw1_hp.length_eq; simp only [keys, List.length_map] at h2_; rw [vals_len] at h2_; omega
 exact ⟨_, _, rfl, iter_weak (iter_many (it_35 b7 _ _ g3 (own_cap (hW.get 1 rfl)) (by omega))) ⟨g2, hw1_hp, hw1_hs, hw1_hO⟩, from_many (froms_cons (hW.outOwn 0 rfl (fun _ h => h)) (froms_cons (hW.outRow 1 rfl elt_Cell6.len (fun _ h => h)) froms_nil)), hW.fr⟩

end Go.Proofs.Ytcokpdlmahlpnaa.L
