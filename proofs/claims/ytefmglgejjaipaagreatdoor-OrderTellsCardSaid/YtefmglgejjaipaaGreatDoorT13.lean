/- Contracts, walked by program over the engine's laws. -/
import Derived.Test.YtefmglgejjaipaaGreatDoorProg
import Derived.Test.YtefmglgejjaipaaGreatDoorT12
import Derived.Test.YtefmglgejjaipaaGreatDoorE21
namespace Go.Proofs.YtefmglgejjaipaaGreatDoor.L
open Go.RowKit
open Go.Value renaming int → vI, slice → vS, bool → vB, pointer → vP, func → vF, agg → vA, map → vM, tuple → vT

structure Two where
  a : Int
  b : Int
deriving DecidableEq
def Two.v (x : Two) : Value := .agg #[.int .i64 x.a, .int .i64 x.b]
def enTwo (x : Two) : List Value := [.int .i64 x.a, .int .i64 x.b]
theorem elt_Two : Elt Tryz.prog 67 2 enTwo := ⟨⟨vA #[vI .i64 0, vI .i64 0], 16, by kernel_rfl, rfl, by decide⟩, by decide, fun _ => rfl, fun x u hu => List.all_eq_true.1 (show (enTwo x).all (·.oneCell') = true from rfl) u hu⟩
def closeJ (E : List Event) (k : Nat) : List Two := (closeL E (k : Int)).map fun i => ⟨i, (k : Int)⟩
/-- The pairs that are close. -/
def closeP (E : List Event) (n : Nat) : List Two := (List.range n).flatMap (closeJ E)
theorem closeP_snoc (E : List Event) (k : Nat) : closeP E (k + 1) = closeP E k ++ closeJ E k := by unfold closeP; rw [List.range_succ, List.flatMap_append]; simp
theorem closeL_len (E : List Event) (j : Int) : (closeL E j).length ≤ E.length := Nat.le_trans (List.length_filter_le _ _) (by have := sift_len E j j.toNat; omega)
theorem closeP_len (E : List Event) : ∀ k : Nat, (closeP E k).length ≤ k * E.length
  | 0 => by simp [closeP]
  | k + 1 => by
    have := closeP_len E k; have h := closeL_len E k
    rw [closeP_snoc, List.length_append, Nat.add_mul]; unfold closeJ; rw [List.length_map]; omega
set_option maxRecDepth 100000 in
theorem it_all_Two (b : Nat) (A : Option Addr) (c : Nat) (l : List Two) (hc : l.length ≤ c) (hl : l.length ≤ 1000000) : Iter Tryz.prog 55 #[pA b 0] (fun x_ : Two × Nat => #[vI .i64 ((x_.2 : Nat) : Int), x_.1.v]) (· = l.zipIdx) [Cel b #[vS A l.length c] 68, roR A 2 enTwo l] := by
 intro l_ J_ Jx_ r0 w hOs_ hdis_ hR_ hJ0_ hp_ hlt_
 have hW := iterW hOs_ hdis_ hp_ hlt_; clear hOs_ hdis_ hp_ hlt_
 have _hu := hc; clear _hu
 have _hu := hl; clear _hu
 refine enter_F 18 Tryz.func55 rfl rfl (by kernel_rfl) (L := [(0, vF (.yield l_) #[] #[]), (1, pA b 0)]) (by kernel_rfl) ?_
 intro ac hA
 refine wpIn_seq <| wpIn_region_lit <| sf_q (vS A l.length c) hA hW.cls (Rd.load (b := b) (i := 0) (by kernel_rfl) (fun _ hw => show _ = _ from (hw.1).getG 0 rfl) (by kernel_rfl)) fun ac hA => sf_p (vI .i64 (l.length : Int)) hA fun ac hA => sf_p (vI .i64 0) hA fun ac hA => wpListIn_nil <| thenN <| wpIn_block <| wpIn_loop_m (fun m_ ac_ wl_ => ∃ k : Nat, ∃ r_ : Res, m_ = l.length - k ∧ (k ≤ l.length) ∧ (J_ (l.zipIdx.take k) r_) ∧ Fm 18 [] [(0, vF (.yield l_) #[] #[]), (1, pA b 0), (5, vS A l.length c), (6, vI .i64 (l.length : Int)), (7, vI .i64 (k : Int))] ac_ ∧ Ws w (· ∈ r0.fp) [r_] [Cel b #[vS A l.length c] 68, roR A 2 enTwo l] wl_) _ ⟨0, r0, rfl, by omega, by exact hJ0_, hA.sub (by and_intros <;> first | kernel_rfl | trivial), (hW.pick [0] (by decide) rfl).pickG [0, 1] rfl⟩ ?_
 clear hA ac hW; rintro m_ ac w1 ⟨k, r_, rfl, hk, hJ, hA, hW⟩
 refine wpIn_seq <| wpIn_region_lit <| sf_p (vB (decide ((k : Int) < (l.length : Int)))) hA ?_; clear hA ac; intro ac hA
 refine wpListIn_nil <| thenN <| wpIn_seq <| wpIn_cond_split (t := decide ((k : Int) < (l.length : Int))) (hA.eval (by kernel_rfl)) (fun h2 => ?_) (fun h2 => ?_)
 ·
  have h2 := of_decide_eq_true h2
  first
  | (exfalso; clear hA hW; omega)
  | (
   refine wpIn_skip <| thenN <| wpIn_seq <| wpIn_block <| wpIn_seq <| wpIn_region_lit <| sf_p (vI .i64 (k : Int)) hA ?_; clear hA ac; intro ac hA
   obtain ⟨y3, hy3⟩ : ∃ y, l[k]? = some y := ⟨_, List.getElem?_eq_getElem (by first | omega | (simp; done) | (simp; omega))⟩
   obtain ⟨b4, o5, rfl, hbb4⟩ := row_some ((hW).getG 1 rfl) hy3
   refine sf_q (vP (some ⟨b4, o5 + k * 2, none⟩)) hA hW.cls (Rd.indexAddr (e := 67) (sz := 2) (b := b4) (off := o5) (n := l.length) (c := c) (k := k) (by kernel_rfl) (by kernel_rfl) (by first | omega | (simp; done) | (simp; omega)) (fun _ => by kernel_rfl) (fun _ => by kernel_rfl)) fun ac hA => sf_q (vA #[vI .i64 y3.a, vI .i64 y3.b]) hA hW.cls (Rd.loadRow (b := b4) (i := o5 + k * 2) (xs := [vI .i64 y3.a, vI .i64 y3.b]) (by kernel_rfl) (fun _ hw => row_ld ((hw.1).getG 1 rfl) hy3 (Fr.refl No _) (fun h => h) 0 2 (by kernel_rfl)) (by kernel_rfl)) fun ac hA => sf_s hA (RunsF.of (Runs.cells (fun b => pA b 0) #[vI .i64 0, vI .i64 0] 67 (fun _ => by kernel_rfl) hW ?_)); clear hA ac hW; intro b6 w7 hW hb6 hfw7 ac hA
   refine sf_p (vI .i64 (k : Int)) hA ?_; clear hA ac; intro ac hA
   refine sf_s hA (RunsF.of (Runs.store (v := vA #[vI .i64 y3.a, vI .i64 y3.b]) (b := b6) (j := 0) (n := 2) (cs' := #[vI .i64 y3.a, vI .i64 y3.b]) (H' := [Cel b6 #[vI .i64 y3.a, vI .i64 y3.b] 67, r_]) (by kernel_rfl) (by kernel_rfl) (by kernel_rfl) (by kernel_rfl) (by kernel_rfl) hW 0 (by rfl) (Nat.le_of_ble_eq_true (by kernel_rfl)) (by kernel_rfl) (by rfl) ?_)); clear hA ac hW; intro w8 hW ac hA
   refine wpListIn_nil <| thenN <| wpIn_seq <| wpIn_region_lit <| sf_p (vF (.yield l_) #[] #[]) hA fun ac hA => sf_p (vI .i64 (k : Int)) hA fun ac hA => sf_q (vA #[vI .i64 y3.a, vI .i64 y3.b]) hA hW.cls (rl b6 0 0) fun ac hA => sf_s hA (RunsF.yield hR_ (l.zipIdx.take k) ((y3, k)) (fun _ => by kernel_rfl) hW 1 rfl (comes_at hy3) (hJ) hW.fr (hW.may _ (List.mem_of_getElem? (i := 1) rfl)) ?_); clear hA ac hW; intro v9 r10 w11 hv9t hv9f hW ac hA
   refine sf_p (vB (!v9)) hA ?_; clear hA ac; intro ac hA
   refine wpListIn_nil <| thenN <| wpIn_cond_split (t := !v9) (hA.eval (by kernel_rfl)) (fun h12 => ?_) (fun h12 => ?_)
   ·
    have h12 := not_t h12
    first
    | (exfalso; clear hA hW; omega)
    | (
     refine wpIn_ret <| blkR <| thenR <| thenR <| blkR <| retF (.inl rfl) hA <| leave0 (by rfl)  ?_
     clear hA
     exact ranDone hW 1 rfl (.inr ⟨_, hv9f h12⟩))
   have h12 := not_f h12
   first
   | (exfalso; clear hA hW; omega)
   | (
    refine wpIn_skip <| blkN <| thenN <| wpIn_region_lit <| sf_q (vI .i64 ((k + 1 : Nat) : Int)) hA hW.cls (Rd.pureE (v0 := vI .i64 (IntKind.i64.wrap ((k : Int) + 1))) (fun _ => by kernel_rfl) (congrArg (vI .i64) ((w_i64 (x := (k : Int) + 1) (by omega) (by omega)).trans (by omega)))) fun ac hA => sf_p (vI .i64 ((k + 1 : Nat) : Int)) hA fun ac hA => wpListIn_nil <| thenN ?_
    have hJn := hv9t h12; rw [zip_snoc hy3] at hJn
    exact ⟨l.length - (k + 1), by omega, k + 1, r10, rfl, by omega, by exact hJn, hA.sub (by and_intros <;> first | kernel_rfl | trivial), (hW.pick [1] (by decide) rfl).pickG [0, 1] rfl⟩))
 have h2 := of_decide_eq_false h2
 first
 | (exfalso; clear hA hW; omega)
 | (
  refine wpIn_exit <| thenX <| thenX <| blkX <| retF (.inr rfl) hA <| leave0 (by rfl)  ?_
  clear hA
  rw [zip_all (by omega)] at hJ; exact ranDone hW 0 rfl (.inl ⟨_, rfl, hJ⟩))

set_option maxRecDepth 100000 in
theorem e_all_Two (A_l : Option Addr) (c_l : Nat) (l : List Two) (w : World) (hr_l : RowAt w A_l 2 enTwo l) (hc_l : l.length ≤ c_l) (hl : l.length ≤ 1000000) : Calls Tryz.prog 32 #[vS A_l l.length c_l] w (fun e w' => ∃ (lb : Array Value) (g : Res), e = .returned (vF (.func 55) #[] lb) ∧ Iter Tryz.prog 55 lb (fun x_ : Two × Nat => #[vI .i64 ((x_.2 : Nat) : Int), x_.1.v]) (· = l.zipIdx) [g] ∧ g.from_ [roR A_l 2 enTwo l] w w' ∧ Fr No w w') := by
 have _hu := hc_l; have _hv := hr_l; clear _hu _hv
 have _hu := hl; clear _hu
 refine enter_E 4 Tryz.func32 rfl rfl (by kernel_rfl) (L := [(0, vS A_l l.length c_l)]) (by kernel_rfl) ?_
 intro ac hA
 have hW := Ws.start w No
 have hW := hW.arg hr_l
 refine wr <| st_s hA (Runs.cells (fun b => pA b 0) #[vS A_l l.length c_l] 68 (fun _ => by kernel_rfl) hW ?_); clear hA ac hW; intro b1 w2 hW hb1 hfw2 ac hA
 refine st_p (Value.nilFunc) hA ?_; clear hA ac; intro ac hA
 refine wn <| wr <| st_p (vF (.func 55) #[] #[pA b1 0]) hA fun ac hA => st_p (vF (.func 55) #[] #[pA b1 0]) hA fun ac hA => wn <| wp_ret <| r1 (vF (.func 55) #[] #[pA b1 0]) hA ?_
 clear hA
 exact ⟨_, _, rfl, iter_many (it_all_Two b1 _ _ l hc_l hl), from_many (froms_cons (hW.outOwn 0 rfl (fun _ h => h)) (froms_cons (hW.outArg 0 rfl (.head _)) froms_nil)), hW.fr⟩

set_option maxRecDepth 100000 in
theorem it_31 (b : Nat) (A : Option Addr) (c : Nat) (l : List Two) (hc : l.length ≤ c) (hl : l.length ≤ 1000000) : Iter Tryz.prog 31 #[pA b 0] (fun x_ : Two => #[vI .i64 x_.a, vI .i64 x_.b]) (· = l) [Cel b #[vS A l.length c] 68, roR A 2 enTwo l] := by
 intro l_ J_ Jx_ r0 w hOs_ hdis_ hR_ hJ0_ hp_ hlt_
 have hW := iterW hOs_ hdis_ hp_ hlt_; clear hOs_ hdis_ hp_ hlt_
 have _hu := hc; clear _hu
 have _hu := hl; clear _hu
 refine enter_F 16 Tryz.func31 rfl rfl (by kernel_rfl) (L := [(0, vF (.yield l_) #[] #[]), (1, pA b 0)]) (by kernel_rfl) ?_
 intro ac hA
 refine wpIn_seq <| wpIn_region_lit <| sf_s hA (RunsF.of (Runs.cells (fun b => pA b 0) #[vF (.yield l_) #[] #[]] 42 (fun _ => by kernel_rfl) hW ?_)); clear hA ac hW; intro b1 w2 hW hb1 hfw2 ac hA
 refine wpListIn_nil <| thenN <| wpIn_scope <| wpIn_seq <| wpIn_label <| thenN <| wpIn_seq <| wpIn_region_lit <| sf_q (vS A l.length c) hA hW.cls (Rd.load (b := b) (i := 0) (by kernel_rfl) (fun _ hw => show _ = _ from (hw.1).getG 0 rfl) (by kernel_rfl)) ?_; clear hA ac; intro ac hA
 refine sf_s hA (RunsF.of (Runs.call (fun _ => by kernel_rfl) (e_all_Two A c l w2 ((hW).getG 1 rfl) (by first | assumption | omega | (simp; omega) | simp) (by first | omega | (simp; done))) ?_))
 rintro _ w3 ⟨lb4, g5, rfl, hIg5, hfg5, hfw3⟩; refine ⟨_, rfl, ?_⟩; have hW0 := hW; have hW := hW0.call hfw3; have hW := hW0.addFromAt hW hfg5 (in_cons (in_at 1 rfl) in_nil); clear hW0 hA ac; intro ac hA
 refine wpListIn_nil <| thenN <| wpIn_block ?_
 have hW := hW.share 0 rfl (H' := [r0]) rfl
 refine wp_range (encs := (fun x_ : Two × Nat => #[vI .i64 ((x_.2 : Nat) : Int), x_.1.v])) (Sx := (· = l.zipIdx)) hA (by kernel_rfl) (by kernel_rfl) (enters_of Tryz.func55 (by kernel_rfl) rfl) (by kernel_rfl) (fun _ => rfl) hIg5 (List.forall_mem_singleton.2 (List.mem_of_getElem? (i := 1) rfl)) (fun pre_ H_ => ∃ k : Nat, ∃ r_ : Res, pre_ = l.zipIdx.take k ∧ k ≤ l.length ∧ (J_ (l.take k) r_) ∧ H_ = [r_]) (fun c_ _ H_ => (c_ = .exit 0 ∧ ∃ q_ : List Two, ∃ r_ : Res, (Jx_ q_ r_) ∧ H_ = [r_])) (H := [r0]) (K := []) (hW.pick [0] (by decide) rfl) ⟨0, r0, rfl, Nat.zero_le _, by exact hJ0_, rfl⟩ ?_ ?_ ?_
 ·
  clear hA ac hW; intro l_6 rd_6 bs_6 pre_ x_ Hk_ w7 T_6 ac hrd_6 hbs_6 hbr_6 hok_ hJ_ hA hW hB_6 hT_6
  obtain ⟨k, r_, rfl, hk_, hJ, rfl⟩ := hJ_
  obtain ⟨y8, rfl, hy8, hlty8, hsny8⟩ := comes_zip hok_ hk_
  replace hA : Fm 16 [] [(0, vF (.yield l_) #[] #[]), (1, pA b 0), (2, pA b1 0), (5, vS A l.length c), (6, vF (.func 55) #[] lb4), (7, vI .i64 (k : Int)), (8, y8.v)] ac := hA.sub (by and_intros <;> first | kernel_rfl | trivial)
  refine wpIn_region_lit <| sf_s hA (RunsF.of (Runs.cells (fun b => pA b 0) #[vI .i64 0, vI .i64 0] 67 (fun _ => by kernel_rfl) hW ?_)); clear hA ac hW; intro b9 w10 hW hb9 hfw10 ac hA
  refine sf_s hA (RunsF.of (Runs.store (v := y8.v) (b := b9) (j := 0) (n := 2) (cs' := #[vI .i64 y8.a, vI .i64 y8.b]) (H' := [Cel b9 #[vI .i64 y8.a, vI .i64 y8.b] 67, rd_6, r_]) (by kernel_rfl) (by kernel_rfl) (by kernel_rfl) (by kernel_rfl) (by kernel_rfl) hW 0 (by rfl) (Nat.le_of_ble_eq_true (by kernel_rfl)) (by kernel_rfl) (by rfl) ?_)); clear hA ac hW; intro w11 hW ac hA
  refine wpListIn_nil <| thenN <| begun (bs := bs_6) (H' := [Cel b9 #[vI .i64 y8.a, vI .i64 y8.b] 67, bs_6, r_]) hW 1 rfl (fun b hb => by rw [hbs_6] at hb; rw [hrd_6]; exact hb) rfl ?_; clear hW; intro w12 hW
  refine wpIn_block <| wpIn_seq <| wpIn_region_lit <| sf_q (vF (.yield l_) #[] #[]) hA hW.cls (Rd.load (b := b1) (i := 0) (by kernel_rfl) (fun _ hw => show _ = _ from (hw.1).getG 0 rfl) (by kernel_rfl)) fun ac hA => sf_p (pA b9 0) hA fun ac hA => sf_q (vI .i64 y8.a) hA hW.cls (rl b9 0 0) fun ac hA => sf_p (pA b9 1) hA fun ac hA => sf_q (vI .i64 y8.b) hA hW.cls (rl b9 1 0) fun ac hA => sf_s hA (RunsF.yield hR_ (l.take k) (y8) (fun _ => by kernel_rfl) hW 2 rfl (comes_atL hy8) (hJ) (chainFr hB_6 hT_6 hW.fr) (chainMay hB_6 hT_6 (hW.may _ (List.mem_of_getElem? (i := 2) rfl))) ?_); clear hA ac hW; intro v13 r14 w15 hv13t hv13f hW ac hA
  refine sf_p (vB (!v13)) hA ?_; clear hA ac; intro ac hA
  refine wpListIn_nil <| thenN <| wpIn_cond_split (t := !v13) (hA.eval (by kernel_rfl)) (fun h16 => ?_) (fun h16 => ?_)
  ·
   have h16 := not_t h16
   first
   | (exfalso; clear hA hW; omega)
   | (
    refine wpIn_exit <| blkY (by kernel_rfl) ?_
    exact ⟨_, ⟨rfl, _, r14, by exact hv13f h16, rfl⟩, (hW.pick [1, 2] (by decide) rfl).pickG [0, 1, 2, 3] rfl⟩)
  have h16 := not_f h16
  first
  | (exfalso; clear hA hW; omega)
  | (
   refine wpIn_skip <| blkN ?_
   have hJn := hv13t h16; rw [← tk_snoc hy8] at hJn
   exact ⟨_, ⟨k + 1, r14, hsny8, hlty8, by exact hJn, rfl⟩, (hW.pick [1, 2] (by decide) rfl).pickG [0, 1, 2, 3] rfl⟩)
 ·
  clear hA ac hW; intro D17 xs_ Hk_ w18 ac hS_ hJ_ hA hW
  obtain ⟨k, r_, hpre_, hk_, hJ, rfl⟩ := hJ_
  have hke : k = l.length := by have := congrArg List.length (hS_.symm.trans hpre_); simp at this; omega
  clear hpre_ hS_
  replace hW : Ws w (· ∈ r0.fp) [r_, DefR D17] [Cel b1 #[vF (.yield l_) #[] #[]] 42, g5, Cel b #[vS A l.length c] 68, roR A 2 enTwo l] w18 := hW
  refine blkN <| nogN <| retF (.inr rfl) hA <| leaveD (H' := [r_]) hW 1 rfl rfl ?_; clear hW; intro w19 hW
  refine leave0 (by rfl)  ?_
  clear hA
  rw [List.take_of_length_le (by omega)] at hJ; exact ranDone hW 0 rfl (.inl ⟨_, rfl, hJ⟩)
 ·
  clear hA ac hW; intro D20 c_ pre_ Hk_ w21 ac hJ_ hA hW
  rcases hJ_ with ⟨rfl, q_, r_, hJx, rfl⟩
  ·
   replace hW : Ws w (· ∈ r0.fp) [r_, DefR D20] [Cel b1 #[vF (.yield l_) #[] #[]] 42, g5, Cel b #[vS A l.length c] 68, roR A 2 enTwo l] w21 := hW
   refine wpIn_exit <| blkX <| nogN <| retF (.inr rfl) hA <| leaveD (H' := [r_]) hW 1 rfl rfl ?_; clear hW; intro w22 hW
   refine leave0 (by rfl)  ?_
   clear hA
   exact ranDone hW 0 rfl (.inr ⟨_, hJx⟩)

set_option maxRecDepth 100000 in
theorem e_oClose (m : Nat) (Ae : Option Addr) (ce : Nat) (E : List Event) (Ak : Option Addr) (ck : Nat) (C : List SV) (bg : Nat) (G : List (Int × SV)) (bt : Nat) (T : List (Thing × SV)) (w : World) (ho_o : (OrdR m Ae ce E Ak ck C bg G bt T).p w) (hl_o : ∀ x_ ∈ (OrdR m Ae ce E Ak ck C bg G bt T).fp, x_ < w.heap.size) (hok : OrdOk E C G T) (hl : E.length ≤ 100) : Calls Tryz.prog 13 #[pA m 0] w (fun e w' => ∃ (lb : Array Value) (g : Res), e = .returned (vF (.func 31) #[] lb) ∧ Iter Tryz.prog 31 lb (fun x_ : Two => #[vI .i64 x_.a, vI .i64 x_.b]) (· = (closeP E E.length)) [g] ∧ g.from_ [] w w' ∧ Fr No w w') := by
 have _hu := ho_o; have _hv := hl_o; clear _hu _hv
 have _hu := hok; clear _hu
 have _hu := hl; clear _hu
 have hlc_ := hok.clen; have hll_ := hok.len
 refine enter_E 29 Tryz.func13 rfl rfl (by kernel_rfl) (L := [(0, pA m 0)]) (by kernel_rfl) ?_
 intro ac hA
 have hW := Ws.start w No
 have hW := hW.addG (OrdR m Ae ce E Ak ck C bg G bt T) ho_o hl_o (by simp)
 clear ho_o hl_o
 refine wr <| st_p (Value.nilFunc) hA ?_; clear hA ac; intro ac hA
 refine wn <| wr <| st_s hA (Runs.cells (fun b => pA b 0) #[vS none 0 0] 68 (fun _ => by kernel_rfl) hW ?_); clear hA ac hW; intro b1 w2 hW hb1 hfw2 ac hA
 refine wn <| wp_seq <| wr <| st_p (pA m 0) hA ?_; clear hA ac; intro ac hA
 refine st_s hA (Runs.callN (v := vI .i64 (E.length : Int)) (fun _ => by kernel_rfl) hW (e_olen m Ae ce E Ak ck C bg G bt T w2 ((hW).getG 0 rfl) ((hW).glt _ (List.mem_of_getElem? (i := 0) rfl)) (by first | omega | assumption | exact ⟨by omega, by omega⟩)) ?_); clear hA ac hW; intro w3 hW hfw3 ac hA
 refine st_p (vI .i64 0) hA ?_; clear hA ac; intro ac hA
 refine wn <| wp_block ?_
 have hW := hW.addNil 67 2 enTwo
 refine wp_loop_m (fun m_ ac_ wl_ => ∃ k : Nat, ∃ d : List Two, ∃ A : Option Addr, ∃ cc : Nat, m_ = E.length - k ∧ (d = closeP E k) ∧ (k ≤ E.length) ∧ (d.length ≤ cc) ∧ Fm 29 [] [(0, pA m 0), (3, pA b1 0), (8, vI .i64 (E.length : Int)), (9, vI .i64 (k : Int))] ac_ ∧ Ws w No [rowR 67 2 enTwo (vS A d.length cc) d, Cel b1 #[vS A d.length cc] 68] [OrdR m Ae ce E Ak ck C bg G bt T] wl_) _ ⟨0, [], none, 0, rfl, by rfl, by omega, by simp, hA.sub (by and_intros <;> first | kernel_rfl | trivial), (hW.pick [0, 1] (by decide) rfl).pickG [0] rfl⟩ ?_
 clear hA ac hW; rintro m_ ac w4 ⟨k, d, A, cc, rfl, hd, hk, hcc, hA, hW⟩
 have hpl_ := closeP_len E k; have hpm_ : k * E.length ≤ 10000 := Nat.mul_le_mul (show k ≤ 100 from by omega) (show E.length ≤ 100 from by omega)
 refine wr <| st_p (vB (decide ((k : Int) < (E.length : Int)))) hA ?_; clear hA ac; intro ac hA
 refine wn <| wp_seq <| wp_cond_split (t := decide ((k : Int) < (E.length : Int))) (hA.eval (by kernel_rfl)) (fun h5 => ?_) (fun h5 => ?_)
 ·
  have h5 := of_decide_eq_true h5
  first
  | (exfalso; clear hA hW; omega)
  | (
   refine wp_skip <| thenN <| wp_seq <| wp_block <| wr <| st_p (vI .i64 (k : Int)) hA fun ac hA => st_p (vI .i64 (k : Int)) hA fun ac hA => wn <| wr <| st_p (pA m 0) hA fun ac hA => st_p (vI .i64 (k : Int)) hA fun ac hA => st_s hA (Runs.callRow (E := 3) (sz := 1) (en := enI64) (l := (closeL E (k : Int))) (fun _ => by kernel_rfl) hW (e_oclose m Ae ce E Ak ck C bg G bt T (k : Int) w4 ((hW).getG 0 rfl) ((hW).glt _ (List.mem_of_getElem? (i := 0) rfl)) (by first | omega | assumption | exact ⟨by omega, by omega⟩) (by first | omega | assumption | exact ⟨by omega, by omega⟩)) ?_); clear hA ac hW; intro A7 c8 w6 hW hcc8 hfw6 ac hA
   refine st_p (vI .i64 (((closeL E (k : Int)).length : Nat) : Int)) hA fun ac hA => st_p (vI .i64 0) hA fun ac hA => wn <| wp_block <| wp_loop_m (fun m_ ac_ wl_ => ∃ q : Nat, ∃ d : List Two, ∃ A : Option Addr, ∃ cc : Nat, m_ = (closeL E (k : Int)).length - q ∧ (d = closeP E k ++ ((closeL E (k : Int)).take q).map fun i => (⟨i, (k : Int)⟩ : Two)) ∧ (q ≤ (closeL E (k : Int)).length) ∧ (d.length ≤ cc) ∧ Fm 29 [] [(0, pA m 0), (3, pA b1 0), (4, vI .i64 (k : Int)), (8, vI .i64 (E.length : Int)), (9, vI .i64 (k : Int)), (14, vS A7 (closeL E (k : Int)).length c8), (15, vI .i64 (((closeL E (k : Int)).length : Nat) : Int)), (16, vI .i64 (q : Int))] ac_ ∧ Ws w No [rowR 3 1 enI64 (vS A7 (closeL E (k : Int)).length c8) (closeL E (k : Int)), rowR 67 2 enTwo (vS A d.length cc) d, Cel b1 #[vS A d.length cc] 68] [OrdR m Ae ce E Ak ck C bg G bt T] wl_) _ ⟨0, d, A, cc, rfl, by simp [hd], by omega, by exact hcc, hA.sub (by and_intros <;> first | kernel_rfl | trivial), (hW.pick [0, 1, 2] (by decide) rfl).pickG [0] rfl⟩ ?_
   clear hA ac hW; rintro m_ ac w10 ⟨q, d, A, cc, rfl, hd2, hq, hcc2, hA, hW⟩
   have hcl_ := closeL_len E (k : Int)
   have hdl_ : d.length ≤ 20000 := by rw [hd2, List.length_append, List.length_map]; have := closeL_len E k; rw [List.length_take]; omega
   refine wr <| st_p (vB (decide ((q : Int) < ((((closeL E (k : Int)).length : Nat) : Int) : Int)))) hA ?_; clear hA ac; intro ac hA
   refine wn <| wp_seq <| wp_cond_split (t := decide ((q : Int) < ((((closeL E (k : Int)).length : Nat) : Int) : Int))) (hA.eval (by kernel_rfl)) (fun h11 => ?_) (fun h11 => ?_)
   ·
    have h11 := of_decide_eq_true h11
    first
    | (exfalso; clear hA hW; omega)
    | (
     refine wp_skip <| thenN <| wp_seq <| wp_block <| wr ?_
     obtain ⟨y12, hy12⟩ : ∃ y, (closeL E (k : Int))[q]? = some y := ⟨_, List.getElem?_eq_getElem (by first | omega | (simp; done) | (simp; omega))⟩
     obtain ⟨b13, o14, rfl, hbb13⟩ := row_some (rowR_at ((hW).get 0 rfl) elt_I64.len) hy12
     refine st_q (vP (some ⟨b13, o14 + q * 1, none⟩)) hA hW.cls (Rd.indexAddr (e := 3) (sz := 1) (b := b13) (off := o14) (n := (closeL E (k : Int)).length) (c := c8) (k := q) (by kernel_rfl) (by kernel_rfl) (by first | omega | (simp; done) | (simp; omega)) (fun _ => by kernel_rfl) (fun _ => by kernel_rfl)) fun ac hA => st_q (vI .i64 y12) hA hW.cls (Rd.loadRow (b := b13) (i := o14 + q * 1) (xs := [vI .i64 y12]) (by kernel_rfl) (fun _ hw => row_ld (rowR_at ((hw.1).get 0 rfl) elt_I64.len) hy12 (Fr.refl No _) (fun h => h) 0 1 (by kernel_rfl)) (by kernel_rfl)) fun ac hA => st_p (vI .i64 y12) hA fun ac hA => wn <| wp_region_lit <| st_q (vS A d.length cc) hA hW.cls (rl b1 0 2) fun ac hA => st_p (vI .i64 y12) hA fun ac hA => st_p (vI .i64 (k : Int)) hA fun ac hA => st_p (vA #[vI .i64 y12, vI .i64 (k : Int)]) hA fun ac hA => st_s hA (Runs.cells (fun b => vS (some ⟨b, 0, none⟩) 1 1) #[vI .i64 y12, vI .i64 (k : Int)] 67 (fun _ => by kernel_rfl) hW ?_); clear hA ac hW; intro b15 w16 hW hb15 hfw16 ac hA
     refine st_s hA (Runs.appOwn (B := (some ⟨b15, 0, none⟩)) (k := 1) (E := 67) (sz := 2) (en := enTwo) (l := d) (m := ([(⟨y12, (k : Int)⟩ : Two)] : List Two)) (i := 2) (by kernel_rfl) (by kernel_rfl) elt_Two (by kernel_rfl) hW rfl (rowAt_cel ((hW).cel 0 rfl) ([(⟨y12, (k : Int)⟩ : Two)] : List Two) (by rfl) elt_Two.len) (by first | omega | (simp; done) | (simp; omega)) (by first | omega | (simp; done) | (simp; omega)) ?_); clear hA ac hW; intro A17 c18 w19 hW hcc18 ac hA
     refine st_s hA (Runs.store (v := vS A17 (d ++ ([(⟨y12, (k : Int)⟩ : Two)] : List Two)).length c18) (b := b1) (j := 0) (n := 1) (cs' := #[vS A17 (d ++ ([(⟨y12, (k : Int)⟩ : Two)] : List Two)).length c18]) (H' := [Cel b15 #[vI .i64 y12, vI .i64 (k : Int)] 67, rowR 3 1 enI64 (vS (some ⟨b13, o14, none⟩) (closeL E (k : Int)).length c8) (closeL E (k : Int)), rowR 67 2 enTwo (vS A17 (d ++ ([(⟨y12, (k : Int)⟩ : Two)] : List Two)).length c18) (d ++ ([(⟨y12, (k : Int)⟩ : Two)] : List Two)), Cel b1 #[vS A17 (d ++ ([(⟨y12, (k : Int)⟩ : Two)] : List Two)).length c18] 68]) (by kernel_rfl) (by kernel_rfl) (by kernel_rfl) (by kernel_rfl) (by kernel_rfl) hW 3 (by rfl) (Nat.le_of_ble_eq_true (by kernel_rfl)) (by kernel_rfl) (by rfl) ?_); clear hA ac hW; intro w20 hW ac hA
     refine wpList_nil <| blkN <| thenN <| wp_region_lit <| st_q (vI .i64 ((q + 1 : Nat) : Int)) hA hW.cls (Rd.pureE (v0 := vI .i64 (IntKind.i64.wrap ((q : Int) + 1))) (fun _ => by kernel_rfl) (congrArg (vI .i64) ((w_i64 (x := (q : Int) + 1) (by omega) (by omega)).trans (by omega)))) fun ac hA => st_p (vI .i64 ((q + 1 : Nat) : Int)) hA fun ac hA => wn ?_
     exact ⟨(closeL E (k : Int)).length - (q + 1), by omega, q + 1, d ++ ([(⟨y12, (k : Int)⟩ : Two)] : List Two), A17, c18, rfl, by rw [tk_snoc hy12, List.map_append, ← List.append_assoc, ← hd2]; rfl, by omega, by exact hcc18, hA.sub (by and_intros <;> first | kernel_rfl | trivial), (hW.pick [1, 2, 3] (by decide) rfl).pickG [0] rfl⟩)
   have h11 := of_decide_eq_false h11
   first
   | (exfalso; clear hA hW; omega)
   | (
    refine wp_exit <| thenX <| thenX <| blkX <| blkN <| thenN <| wp_region_lit <| st_q (vI .i64 ((k + 1 : Nat) : Int)) hA hW.cls (Rd.pureE (v0 := vI .i64 (IntKind.i64.wrap ((k : Int) + 1))) (fun _ => by kernel_rfl) (congrArg (vI .i64) ((w_i64 (x := (k : Int) + 1) (by omega) (by omega)).trans (by omega)))) fun ac hA => st_p (vI .i64 ((k + 1 : Nat) : Int)) hA fun ac hA => wn ?_
    exact ⟨E.length - (k + 1), by omega, k + 1, d, A, cc, rfl, by rw [closeP_snoc, hd2, List.take_of_length_le (by omega)]; rfl, by omega, by exact hcc2, hA.sub (by and_intros <;> first | kernel_rfl | trivial), (hW.pick [1, 2] (by decide) rfl).pickG [0] rfl⟩))
 have h5 := of_decide_eq_false h5
 first
 | (exfalso; clear hA hW; omega)
 | (
  refine wp_exit <| thenX <| thenX <| blkX <| thenN <| wr <| st_p (vF (.func 31) #[] #[pA b1 0]) hA fun ac hA => st_p (vF (.func 31) #[] #[pA b1 0]) hA fun ac hA => wn <| wp_ret <| r1 (vF (.func 31) #[] #[pA b1 0]) hA ?_
  clear hA
  have hpl_ := closeP_len E k; have hpm_ : k * E.length ≤ 10000 := Nat.mul_le_mul (show k ≤ 100 from by omega) (show E.length ≤ 100 from by omega)
  rw [show closeP E E.length = d from by rw [hd, show k = E.length from by omega]]
  exact ⟨_, _, rfl, iter_many (it_31 b1 _ _ d (own_cap (hW.get 0 rfl)) (by rw [hd]; omega)), from_many (froms_cons (hW.outOwn 1 rfl (fun _ h => h)) (froms_cons (hW.outRow 0 rfl elt_Two.len (fun _ h => h)) froms_nil)), hW.fr⟩)

end Go.Proofs.YtefmglgejjaipaaGreatDoor.L
