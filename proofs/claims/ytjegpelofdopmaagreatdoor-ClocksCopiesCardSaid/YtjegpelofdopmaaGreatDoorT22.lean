/- Contracts, walked by program over the engine's laws. -/
import Derived.Test.YtjegpelofdopmaaGreatDoorProg
import Derived.Test.YtjegpelofdopmaaGreatDoorT21
namespace Go.Proofs.YtjegpelofdopmaaGreatDoor.L
open Go.RowKit
open Go.Value renaming int → vI, slice → vS, bool → vB, pointer → vP, func → vF, agg → vA, map → vM, tuple → vT

structure One5 where
  gx : Int
  ax : Int
deriving DecidableEq
def One5.v (x : One5) : Value := .agg #[.int .i64 x.gx, .int .u64 x.ax]
def enOne5 (x : One5) : List Value := [.int .i64 x.gx, .int .u64 x.ax]
theorem elt_One5 : Elt Tryz.prog 119 2 enOne5 := ⟨⟨vA #[vI .i64 0, vI .u64 0], 16, by kernel_rfl, rfl, by decide⟩, by decide, fun _ => rfl, fun x u hu => List.all_eq_true.1 (show (enOne5 x).all (·.oneCell') = true from rfl) u hu⟩
set_option maxRecDepth 100000 in
theorem it_all_One5 (b : Nat) (A : Option Addr) (c : Nat) (l : List One5) (hc : l.length ≤ c) (hl : l.length ≤ 1000000) : Iter Tryz.prog 79 #[pA b 0] (fun x_ : One5 × Nat => #[vI .i64 ((x_.2 : Nat) : Int), x_.1.v]) (· = l.zipIdx) [Cel b #[vS A l.length c] 116, roR A 2 enOne5 l] := by
 intro l_ J_ Jx_ r0 w hOs_ hdis_ hR_ hJ0_ hp_ hlt_
 have hW := iterW hOs_ hdis_ hp_ hlt_; clear hOs_ hdis_ hp_ hlt_
 have _hu := hc; clear _hu
 have _hu := hl; clear _hu
 refine enter_F 18 Tryz.func79 rfl rfl (by kernel_rfl) (L := [(0, vF (.yield l_) #[] #[]), (1, pA b 0)]) (by kernel_rfl) ?_
 intro ac hA
 refine wpIn_seq <| wpIn_region_lit <| st_rdF (v := vS A l.length c) hA (by kernel_rfl) (by kernel_rfl) (by kernel_rfl) (by kernel_rfl) hW.cls (Rd.load (b := b) (i := 0) (by kernel_rfl) (fun _ hw => show _ = _ from (hw.1).getG 0 rfl) (by kernel_rfl)) ?_; clear hA ac; intro ac hA
 refine st_rdF (v := vI .i64 (l.length : Int)) hA (by kernel_rfl) (by kernel_rfl) (by kernel_rfl) (by kernel_rfl) hW.cls (Rd.pure fun _ => by kernel_rfl) ?_; clear hA ac; intro ac hA
 refine st_rdF (v := vI .i64 0) hA (by kernel_rfl) (by kernel_rfl) (by kernel_rfl) (by kernel_rfl) hW.cls (Rd.pure fun _ => by kernel_rfl) ?_; clear hA ac; intro ac hA
 refine wpListIn_nil <| thenN <| wpIn_block <| wpIn_loop_m (fun m_ ac_ wl_ => ∃ k : Nat, ∃ r_ : Res, m_ = l.length - k ∧ (k ≤ l.length) ∧ (J_ (l.zipIdx.take k) r_) ∧ Fm 18 [] [(0, vF (.yield l_) #[] #[]), (1, pA b 0), (5, vS A l.length c), (6, vI .i64 (l.length : Int)), (7, vI .i64 (k : Int))] ac_ ∧ Ws w (· ∈ r0.fp) [r_] [Cel b #[vS A l.length c] 116, roR A 2 enOne5 l] wl_) _ ⟨0, r0, rfl, by omega, by exact hJ0_, hA.sub (by and_intros <;> first | kernel_rfl | trivial), (hW.pick [0] (by decide) rfl).pickG [0, 1] rfl⟩ ?_
 clear hA ac hW; rintro m_ ac w1 ⟨k, r_, rfl, hk, hJ, hA, hW⟩
 refine wpIn_seq <| wpIn_region_lit <| st_rdF (v := vB (decide ((k : Int) < (l.length : Int)))) hA (by kernel_rfl) (by kernel_rfl) (by kernel_rfl) (by kernel_rfl) hW.cls (Rd.pure fun _ => by kernel_rfl) ?_; clear hA ac; intro ac hA
 refine wpListIn_nil <| thenN <| wpIn_seq <| wpIn_cond_split (t := decide ((k : Int) < (l.length : Int))) (hA.eval (by kernel_rfl)) (fun h2 => ?_) (fun h2 => ?_)
 ·
  have h2 := of_decide_eq_true h2
  refine wpIn_skip <| thenN <| wpIn_seq <| wpIn_block <| wpIn_seq <| wpIn_region_lit <| st_rdF (v := vI .i64 (k : Int)) hA (by kernel_rfl) (by kernel_rfl) (by kernel_rfl) (by kernel_rfl) hW.cls (Rd.pure fun _ => by kernel_rfl) ?_; clear hA ac; intro ac hA
  obtain ⟨y3, hy3⟩ : ∃ y, l[k]? = some y := ⟨_, List.getElem?_eq_getElem (by first | omega | (simp; done) | (simp; omega))⟩
  obtain ⟨b4, o5, rfl, hbb4⟩ := row_some ((hW).getG 1 rfl) hy3
  refine st_rdF (v := vP (some ⟨b4, o5 + k * 2, none⟩)) hA (by kernel_rfl) (by kernel_rfl) (by kernel_rfl) (by kernel_rfl) hW.cls (Rd.indexAddr (e := 119) (sz := 2) (b := b4) (off := o5) (n := l.length) (c := c) (k := k) (by kernel_rfl) (by kernel_rfl) (by first | omega | (simp; done) | (simp; omega)) (fun _ => by kernel_rfl) (fun _ => by kernel_rfl)) ?_; clear hA ac; intro ac hA
  refine st_rdF (v := vA #[vI .i64 y3.gx, vI .u64 y3.ax]) hA (by kernel_rfl) (by kernel_rfl) (by kernel_rfl) (by kernel_rfl) hW.cls (Rd.loadRow (b := b4) (i := o5 + k * 2) (xs := [vI .i64 y3.gx, vI .u64 y3.ax]) (by kernel_rfl) (fun _ hw => row_ld ((hw.1).getG 1 rfl) hy3 (Fr.refl No _) (fun h => h) 0 2 (by kernel_rfl)) (by kernel_rfl)) ?_; clear hA ac; intro ac hA
  refine stF hA (by kernel_rfl) (by kernel_rfl) (by kernel_rfl) (by kernel_rfl) (RunsF.of (Runs.cells (fun b => pA b 0) #[vI .i64 0, vI .u64 0] 119 (fun _ => by kernel_rfl) hW ?_)); clear hA ac hW; intro b6 w7 hW hb6 hfw7 ac hA
  refine st_rdF (v := vI .i64 (k : Int)) hA (by kernel_rfl) (by kernel_rfl) (by kernel_rfl) (by kernel_rfl) hW.cls (Rd.pure fun _ => by kernel_rfl) ?_; clear hA ac; intro ac hA
  refine stF hA (by kernel_rfl) (by kernel_rfl) (by kernel_rfl) (by kernel_rfl) (RunsF.of (Runs.store (v := vA #[vI .i64 y3.gx, vI .u64 y3.ax]) (b := b6) (j := 0) (n := 2) (cs' := #[vI .i64 y3.gx, vI .u64 y3.ax]) (H' := [Cel b6 #[vI .i64 y3.gx, vI .u64 y3.ax] 119, r_]) (by kernel_rfl) (by kernel_rfl) (by kernel_rfl) (by kernel_rfl) (by kernel_rfl) hW 0 (by rfl) (Nat.le_of_ble_eq_true (by kernel_rfl)) (by kernel_rfl) (by rfl) ?_)); clear hA ac hW; intro w8 hW ac hA
  refine wpListIn_nil <| thenN <| wpIn_seq <| wpIn_region_lit <| st_rdF (v := vF (.yield l_) #[] #[]) hA (by kernel_rfl) (by kernel_rfl) (by kernel_rfl) (by kernel_rfl) hW.cls (Rd.pure fun _ => by kernel_rfl) ?_; clear hA ac; intro ac hA
  refine st_rdF (v := vI .i64 (k : Int)) hA (by kernel_rfl) (by kernel_rfl) (by kernel_rfl) (by kernel_rfl) hW.cls (Rd.pure fun _ => by kernel_rfl) ?_; clear hA ac; intro ac hA
  refine st_rdF (v := vA #[vI .i64 y3.gx, vI .u64 y3.ax]) hA (by kernel_rfl) (by kernel_rfl) (by kernel_rfl) (by kernel_rfl) hW.cls (rl b6 0 0) ?_; clear hA ac; intro ac hA
  refine stF hA (by kernel_rfl) (by kernel_rfl) (by kernel_rfl) (by kernel_rfl) (RunsF.yield hR_ (l.zipIdx.take k) ((y3, k)) (fun _ => by kernel_rfl) hW 1 rfl (comes_at hy3) (hJ) hW.fr (hW.may _ (List.mem_of_getElem? (i := 1) rfl)) ?_); clear hA ac hW; intro v9 r10 w11 hv9t hv9f hW ac hA
  refine st_rdF (v := vB (!v9)) hA (by kernel_rfl) (by kernel_rfl) (by kernel_rfl) (by kernel_rfl) hW.cls (Rd.pure fun _ => by kernel_rfl) ?_; clear hA ac; intro ac hA
  refine wpListIn_nil <| thenN <| wpIn_cond_split (t := !v9) (hA.eval (by kernel_rfl)) (fun h12 => ?_) (fun h12 => ?_)
  ·
   have h12 := not_t h12
   refine wpIn_ret <| blkR <| thenR <| thenR <| blkR <| retF (.inl rfl) hA <| leave0 (by rfl)  ?_
   clear hA
   exact ranDone hW 1 rfl (.inr ⟨_, hv9f h12⟩)
  have h12 := not_f h12
  refine wpIn_skip <| blkN <| thenN <| wpIn_region_lit <| st_rdF (v := vI .i64 ((k + 1 : Nat) : Int)) hA (by kernel_rfl) (by kernel_rfl) (by kernel_rfl) (by kernel_rfl) hW.cls (Rd.pureE (v0 := vI .i64 (IntKind.i64.wrap ((k : Int) + 1))) (fun _ => by kernel_rfl) (congrArg (vI .i64) ((w_i64 (x := (k : Int) + 1) (by omega) (by omega)).trans (by omega)))) ?_; clear hA ac; intro ac hA
  refine st_rdF (v := vI .i64 ((k + 1 : Nat) : Int)) hA (by kernel_rfl) (by kernel_rfl) (by kernel_rfl) (by kernel_rfl) hW.cls (Rd.pure fun _ => by kernel_rfl) ?_; clear hA ac; intro ac hA
  refine wpListIn_nil <| thenN ?_
  have hJn := hv9t h12; rw [zip_snoc hy3] at hJn
  exact ⟨l.length - (k + 1), by omega, k + 1, r10, rfl, by omega, by exact hJn, hA.sub (by and_intros <;> first | kernel_rfl | trivial), (hW.pick [1] (by decide) rfl).pickG [0, 1] rfl⟩
 have h2 := of_decide_eq_false h2
 refine wpIn_exit <| thenX <| thenX <| blkX <| retF (.inr rfl) hA <| leave0 (by rfl)  ?_
 clear hA
 rw [zip_all (by omega)] at hJ; exact ranDone hW 0 rfl (.inl ⟨_, rfl, hJ⟩)

set_option maxRecDepth 100000 in
theorem e_all_One5 (A_l : Option Addr) (c_l : Nat) (l : List One5) (w : World) (hr_l : RowAt w A_l 2 enOne5 l) (hc_l : l.length ≤ c_l) (hl : l.length ≤ 1000000) : Calls Tryz.prog 61 #[vS A_l l.length c_l] w (fun e w' => ∃ (lb : Array Value) (g : Res), e = .returned (vF (.func 79) #[] lb) ∧ Iter Tryz.prog 79 lb (fun x_ : One5 × Nat => #[vI .i64 ((x_.2 : Nat) : Int), x_.1.v]) (· = l.zipIdx) [g] ∧ g.from_ [roR A_l 2 enOne5 l] w w' ∧ Fr No w w') := by
 have _hu := hc_l; have _hv := hr_l; clear _hu _hv
 have _hu := hl; clear _hu
 refine enter_E 4 Tryz.func61 rfl rfl (by kernel_rfl) (L := [(0, vS A_l l.length c_l)]) (by kernel_rfl) ?_
 intro ac hA
 have hW := Ws.start w No
 have hW := hW.arg hr_l
 refine wr <| st_s hA (Runs.cells (fun b => pA b 0) #[vS A_l l.length c_l] 116 (fun _ => by kernel_rfl) hW ?_); clear hA ac hW; intro b1 w2 hW hb1 hfw2 ac hA
 refine st_p (Value.nilFunc) hA ?_; clear hA ac; intro ac hA
 refine wn <| wr <| st_p (vF (.func 79) #[] #[pA b1 0]) hA fun ac hA => st_p (vF (.func 79) #[] #[pA b1 0]) hA fun ac hA => wn <| wp_ret <| r1 (vF (.func 79) #[] #[pA b1 0]) hA ?_
 clear hA
 exact ⟨_, _, rfl, iter_many (it_all_One5 b1 _ _ l hc_l hl), from_many (froms_cons (hW.outOwn 0 rfl (fun _ h => h)) (froms_cons (hW.outArg 0 rfl (.head _)) froms_nil)), hW.fr⟩

set_option maxRecDepth 100000 in
theorem it_60 (b : Nat) (A : Option Addr) (c : Nat) (l : List One5) (hc : l.length ≤ c) (hl : l.length ≤ 1000000) : Iter Tryz.prog 60 #[pA b 0] (fun x_ : One5 => #[vI .i64 x_.gx, vI .u64 x_.ax]) (· = l) [Cel b #[vS A l.length c] 116, roR A 2 enOne5 l] := by
 intro l_ J_ Jx_ r0 w hOs_ hdis_ hR_ hJ0_ hp_ hlt_
 have hW := iterW hOs_ hdis_ hp_ hlt_; clear hOs_ hdis_ hp_ hlt_
 have _hu := hc; clear _hu
 have _hu := hl; clear _hu
 refine enter_F 16 Tryz.func60 rfl rfl (by kernel_rfl) (L := [(0, vF (.yield l_) #[] #[]), (1, pA b 0)]) (by kernel_rfl) ?_
 intro ac hA
 refine wpIn_seq <| wpIn_region_lit <| stF hA (by kernel_rfl) (by kernel_rfl) (by kernel_rfl) (by kernel_rfl) (RunsF.of (Runs.cells (fun b => pA b 0) #[vF (.yield l_) #[] #[]] 122 (fun _ => by kernel_rfl) hW ?_)); clear hA ac hW; intro b1 w2 hW hb1 hfw2 ac hA
 refine wpListIn_nil <| thenN <| wpIn_scope <| wpIn_seq <| wpIn_label <| thenN <| wpIn_seq <| wpIn_region_lit <| st_rdF (v := vS A l.length c) hA (by kernel_rfl) (by kernel_rfl) (by kernel_rfl) (by kernel_rfl) hW.cls (Rd.load (b := b) (i := 0) (by kernel_rfl) (fun _ hw => show _ = _ from (hw.1).getG 0 rfl) (by kernel_rfl)) ?_; clear hA ac; intro ac hA
 refine stF hA (by kernel_rfl) (by kernel_rfl) (by kernel_rfl) (by kernel_rfl) (RunsF.of (Runs.call (fun _ => by kernel_rfl) (e_all_One5 A c l w2 ((hW).getG 1 rfl) (by first | assumption | omega | (simp; omega) | simp) (by first | omega | (simp; done))) ?_))
 rintro _ w3 ⟨lb4, g5, rfl, hIg5, hfg5, hfw3⟩; refine ⟨_, rfl, ?_⟩; have hW0 := hW; have hW := hW0.call hfw3; have hW := hW0.addFromAt hW hfg5 (in_cons (in_at 1 rfl) in_nil); clear hW0 hA ac; intro ac hA
 refine wpListIn_nil <| thenN <| wpIn_block ?_
 have hW := hW.share 0 rfl (H' := [r0]) rfl
 refine wp_range (encs := (fun x_ : One5 × Nat => #[vI .i64 ((x_.2 : Nat) : Int), x_.1.v])) (Sx := (· = l.zipIdx)) hA (by kernel_rfl) (by kernel_rfl) (enters_of Tryz.func79 (by kernel_rfl) rfl) (by kernel_rfl) (fun _ => rfl) hIg5 (List.forall_mem_singleton.2 (List.mem_of_getElem? (i := 1) rfl)) (fun pre_ H_ => ∃ k : Nat, ∃ r_ : Res, pre_ = l.zipIdx.take k ∧ k ≤ l.length ∧ (J_ (l.take k) r_) ∧ H_ = [r_]) (fun c_ _ H_ => (c_ = .exit 0 ∧ ∃ q_ : List One5, ∃ r_ : Res, (Jx_ q_ r_) ∧ H_ = [r_])) (H := [r0]) (K := []) (hW.pick [0] (by decide) rfl) ⟨0, r0, rfl, Nat.zero_le _, by exact hJ0_, rfl⟩ ?_ ?_ ?_
 ·
  clear hA ac hW; intro l_6 rd_6 bs_6 pre_ x_ Hk_ w7 T_6 ac hrd_6 hbs_6 hbr_6 hok_ hJ_ hA hW hB_6 hT_6
  obtain ⟨k, r_, rfl, hk_, hJ, rfl⟩ := hJ_
  obtain ⟨y8, rfl, hy8, hlty8, hsny8⟩ := comes_zip hok_ hk_
  replace hA : Fm 16 [] [(0, vF (.yield l_) #[] #[]), (1, pA b 0), (2, pA b1 0), (5, vS A l.length c), (6, vF (.func 79) #[] lb4), (7, vI .i64 (k : Int)), (8, y8.v)] ac := hA.sub (by and_intros <;> first | kernel_rfl | trivial)
  refine wpIn_region_lit <| stF hA (by kernel_rfl) (by kernel_rfl) (by kernel_rfl) (by kernel_rfl) (RunsF.of (Runs.cells (fun b => pA b 0) #[vI .i64 0, vI .u64 0] 119 (fun _ => by kernel_rfl) hW ?_)); clear hA ac hW; intro b9 w10 hW hb9 hfw10 ac hA
  refine stF hA (by kernel_rfl) (by kernel_rfl) (by kernel_rfl) (by kernel_rfl) (RunsF.of (Runs.store (v := y8.v) (b := b9) (j := 0) (n := 2) (cs' := #[vI .i64 y8.gx, vI .u64 y8.ax]) (H' := [Cel b9 #[vI .i64 y8.gx, vI .u64 y8.ax] 119, rd_6, r_]) (by kernel_rfl) (by kernel_rfl) (by kernel_rfl) (by kernel_rfl) (by kernel_rfl) hW 0 (by rfl) (Nat.le_of_ble_eq_true (by kernel_rfl)) (by kernel_rfl) (by rfl) ?_)); clear hA ac hW; intro w11 hW ac hA
  refine wpListIn_nil <| thenN <| begun (bs := bs_6) (H' := [Cel b9 #[vI .i64 y8.gx, vI .u64 y8.ax] 119, bs_6, r_]) hW 1 rfl (fun b hb => by rw [hbs_6] at hb; rw [hrd_6]; exact hb) rfl ?_; clear hW; intro w12 hW
  refine wpIn_block <| wpIn_seq <| wpIn_region_lit <| st_rdF (v := vF (.yield l_) #[] #[]) hA (by kernel_rfl) (by kernel_rfl) (by kernel_rfl) (by kernel_rfl) hW.cls (Rd.load (b := b1) (i := 0) (by kernel_rfl) (fun _ hw => show _ = _ from (hw.1).getG 0 rfl) (by kernel_rfl)) ?_; clear hA ac; intro ac hA
  refine st_rdF (v := pA b9 0) hA (by kernel_rfl) (by kernel_rfl) (by kernel_rfl) (by kernel_rfl) hW.cls (Rd.pure fun _ => by kernel_rfl) ?_; clear hA ac; intro ac hA
  refine st_rdF (v := vI .i64 y8.gx) hA (by kernel_rfl) (by kernel_rfl) (by kernel_rfl) (by kernel_rfl) hW.cls (rl b9 0 0) ?_; clear hA ac; intro ac hA
  refine st_rdF (v := pA b9 1) hA (by kernel_rfl) (by kernel_rfl) (by kernel_rfl) (by kernel_rfl) hW.cls (Rd.pure fun _ => by kernel_rfl) ?_; clear hA ac; intro ac hA
  refine st_rdF (v := vI .u64 y8.ax) hA (by kernel_rfl) (by kernel_rfl) (by kernel_rfl) (by kernel_rfl) hW.cls (rl b9 1 0) ?_; clear hA ac; intro ac hA
  refine stF hA (by kernel_rfl) (by kernel_rfl) (by kernel_rfl) (by kernel_rfl) (RunsF.yield hR_ (l.take k) (y8) (fun _ => by kernel_rfl) hW 2 rfl (comes_atL hy8) (hJ) (chainFr hB_6 hT_6 hW.fr) (chainMay hB_6 hT_6 (hW.may _ (List.mem_of_getElem? (i := 2) rfl))) ?_); clear hA ac hW; intro v13 r14 w15 hv13t hv13f hW ac hA
  refine st_rdF (v := vB (!v13)) hA (by kernel_rfl) (by kernel_rfl) (by kernel_rfl) (by kernel_rfl) hW.cls (Rd.pure fun _ => by kernel_rfl) ?_; clear hA ac; intro ac hA
  refine wpListIn_nil <| thenN <| wpIn_cond_split (t := !v13) (hA.eval (by kernel_rfl)) (fun h16 => ?_) (fun h16 => ?_)
  ·
   have h16 := not_t h16
   refine wpIn_exit <| blkY (by kernel_rfl) ?_
   exact ⟨_, ⟨rfl, _, r14, by exact hv13f h16, rfl⟩, (hW.pick [1, 2] (by decide) rfl).pickG [0, 1, 2, 3] rfl⟩
  have h16 := not_f h16
  refine wpIn_skip <| blkN ?_
  have hJn := hv13t h16; rw [← tk_snoc hy8] at hJn
  exact ⟨_, ⟨k + 1, r14, hsny8, hlty8, by exact hJn, rfl⟩, (hW.pick [1, 2] (by decide) rfl).pickG [0, 1, 2, 3] rfl⟩
 ·
  clear hA ac hW; intro D17 xs_ Hk_ w18 ac hS_ hJ_ hA hW
  obtain ⟨k, r_, hpre_, hk_, hJ, rfl⟩ := hJ_
  have hke : k = l.length := by have := congrArg List.length (hS_.symm.trans hpre_); simp at this; omega
  clear hpre_ hS_
  replace hW : Ws w (· ∈ r0.fp) [r_, DefR D17] [Cel b1 #[vF (.yield l_) #[] #[]] 122, g5, Cel b #[vS A l.length c] 116, roR A 2 enOne5 l] w18 := hW
  refine blkN <| nogN <| retF (.inr rfl) hA <| leaveD (H' := [r_]) hW 1 rfl rfl ?_; clear hW; intro w19 hW
  refine leave0 (by rfl)  ?_
  clear hA
  rw [List.take_of_length_le (by omega)] at hJ; exact ranDone hW 0 rfl (.inl ⟨_, rfl, hJ⟩)
 ·
  clear hA ac hW; intro D20 c_ pre_ Hk_ w21 ac hJ_ hA hW
  rcases hJ_ with ⟨rfl, q_, r_, hJx, rfl⟩
  ·
   replace hW : Ws w (· ∈ r0.fp) [r_, DefR D20] [Cel b1 #[vF (.yield l_) #[] #[]] 122, g5, Cel b #[vS A l.length c] 116, roR A 2 enOne5 l] w21 := hW
   refine wpIn_exit <| blkX <| nogN <| retF (.inr rfl) hA <| leaveD (H' := [r_]) hW 1 rfl rfl ?_; clear hW; intro w22 hW
   refine leave0 (by rfl)  ?_
   clear hA
   exact ranDone hW 0 rfl (.inr ⟨_, hJx⟩)

end Go.Proofs.YtjegpelofdopmaaGreatDoor.L
