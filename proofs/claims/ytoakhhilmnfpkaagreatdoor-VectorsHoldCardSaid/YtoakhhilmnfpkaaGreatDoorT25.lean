/- Contracts, walked by program over the engine's laws. -/
import Derived.Test.YtoakhhilmnfpkaaGreatDoorProg
import Derived.Test.YtoakhhilmnfpkaaGreatDoorGrow26
namespace Go.Proofs.YtoakhhilmnfpkaaGreatDoor.L
open Go.RowKit
open Go.Value renaming int → vI, slice → vS, bool → vB, pointer → vP, func → vF, agg → vA, map → vM, tuple → vT

structure AV where
  l : List Acc
  l_A : Option Addr
  l_c : Nat
def AV.v (x : AV) : Value := .slice x.l_A x.l.length x.l_c
def enAV (x : AV) : List Value := [.slice x.l_A x.l.length x.l_c]
theorem elt_AV : Elt Tryz.prog 33 1 enAV := ⟨⟨vS none 0 0, 24, by kernel_rfl, rfl, by decide⟩, by decide, fun _ => rfl, fun x u hu => List.all_eq_true.1 (show (enAV x).all (·.oneCell') = true from rfl) u hu⟩
def innerAV (x : AV) : Res := roR x.l_A 4 enAcc x.l
def capAV (x : AV) : Prop := x.l.length ≤ x.l_c
theorem nest_ltAV {V : List AV} {w : World} (h : (nestR innerAV V).p w) : ∀ b ∈ (nestR innerAV V).fp, b < w.heap.size := nest_lt (A := fun x : AV => x.l_A) (sz := fun _ => 4) (L := fun x : AV => x.l) (en := enAcc) h
structure Hit where
  at_ : Int
  addr : Int
  wi : List Acc
  wi_A : Option Addr
  wi_c : Nat
def Hit.v (x : Hit) : Value := .agg #[.int .i64 x.at_, .int .u32 x.addr, .slice x.wi_A x.wi.length x.wi_c]
def enHit (x : Hit) : List Value := [.int .i64 x.at_, .int .u32 x.addr, .slice x.wi_A x.wi.length x.wi_c]
theorem elt_Hit : Elt Tryz.prog 35 3 enHit := ⟨⟨vA #[vI .i64 0, vI .u32 0, vS none 0 0], 40, by kernel_rfl, rfl, by decide⟩, by decide, fun _ => rfl, fun x u hu => List.all_eq_true.1 (show (enHit x).all (·.oneCell') = true from rfl) u hu⟩
def innerHit (x : Hit) : Res := roR x.wi_A 4 enAcc x.wi
def capHit (x : Hit) : Prop := x.wi.length ≤ x.wi_c
theorem nest_ltHit {V : List Hit} {w : World} (h : (nestR innerHit V).p w) : ∀ b ∈ (nestR innerHit V).fp, b < w.heap.size := nest_lt (A := fun x : Hit => x.wi_A) (sz := fun _ => 4) (L := fun x : Hit => x.wi) (en := enAcc) h
def placeK (k : Int) : Int := if k = 3 then 0 else if k = 2 then 1 else -1
def catA (l : List AV) : List Acc := l.flatMap AV.l
theorem catA_snoc {l : List AV} {k : Nat} {y : AV} (h : l[k]? = some y) : catA (l.take (k + 1)) = catA (l.take k) ++ y.l := by unfold catA; rw [tk_snoc h, List.flatMap_append]; simp
theorem catA_len (l : List AV) (h : ∀ x ∈ l, x.l.length ≤ 100000) : (catA l).length ≤ l.length * 100000 := by
  unfold catA
  induction l with
  | nil => simp
  | cons a l ih => have := h a (.head _); have := ih (fun x hx => h x (.tail _ hx)); rw [List.flatMap_cons, List.length_append, List.length_cons, Nat.add_mul]; omega
theorem catA_take (l : List AV) (k : Nat) (h : ∀ x ∈ l, x.l.length ≤ 100000) (hl : l.length ≤ 4) : (catA (l.take k)).length ≤ 400000 := by
  have h1 := catA_len (l.take k) (fun x hx => h x (List.mem_of_mem_take hx))
  have h2 : (l.take k).length ≤ 4 := by rw [List.length_take]; omega
  omega
theorem take_snoc {α : Type} {l : List α} {k : Nat} {y : α} (h : l[k]? = some y) : l.take (k + 1) = l.take k ++ [y] := tk_snoc h
theorem take_all {α : Type} {l r : List α} {k : Nat} (h1 : l.length ≤ k) (h2 : r.length ≤ k) (h : l.take k = r.take k) : l = r := by rwa [List.take_of_length_le h1, List.take_of_length_le h2] at h
set_option maxRecDepth 100000 in
theorem e_kidx (kb : Nat) (k : Int) (w : World) (ho_kb : w.heap[kb]? = some (.cells #[vI .i64 3, vI .i64 2] 165 (0, 0))) : Calls Tryz.prog 73 #[vS (some ⟨kb, 0, none⟩) 2 2, vI .i64 k] w (fun e w' => e = .returned (vI .i64 (placeK k)) ∧ Fr No w w') := by
 have _hu := ho_kb; clear _hu
 refine enter_E 19 Tryz.func73 rfl rfl (by kernel_rfl) (L := [(0, vS (some ⟨kb, 0, none⟩) 2 2), (1, vI .i64 k)]) (by kernel_rfl) ?_
 intro ac hA
 have hW := Ws.start w No
 have hW := hW.celG ho_kb
 refine wr <| st_p (vI .i64 0) hA ?_; clear hA ac; intro ac hA
 refine wn <| wp_seq <| wr <| st_p (vS (some ⟨kb, 0, none⟩) 2 2) hA fun ac hA => st_p (vI .i64 2) hA fun ac hA => st_p (vI .i64 0) hA fun ac hA => wn <| wp_block <| wp_loop_rounds 3 ?_
 rw [rounds_succ]
 refine wr <| st_p (vB true) hA ?_; clear hA ac; intro ac hA
 refine wn <| wp_seq <| wp_cond_true (hA.eval (by kernel_rfl)) <| wp_skip <| thenN <| wp_seq <| wp_block <| wr <| st_p (vI .i64 0) hA fun ac hA => st_p (vI .i64 0) hA fun ac hA => wn <| wr <| st_p (vI .i64 k) hA fun ac hA => st_p (vS (some ⟨kb, 0, none⟩) 2 2) hA fun ac hA => st_p (vI .i64 0) hA fun ac hA => st_p (pA kb 0) hA fun ac hA => st_q (vI .i64 3) hA hW.cls (Rd.load (b := kb) (i := 0) (by kernel_rfl) (fun _ hw => show _ = _ from (hw.1).getG 0 rfl) (by kernel_rfl)) fun ac hA => st_p (vB ((k : Int) == (3 : Int))) hA fun ac hA => wn <| wp_cond_split (t := (k : Int) == (3 : Int)) (hA.eval (by kernel_rfl)) (fun h1 => ?_) (fun h1 => ?_)
 ·
  have h1 := eq_of_beq h1
  refine wr <| st_p (vI .i64 0) hA fun ac hA => st_p (vI .i64 0) hA fun ac hA => wn <| wp_ret <| blkR <| thenR <| thenR <| blkR <| thenR <| r1 (vI .i64 0) hA ?_
  clear hA
  exact ⟨retv (congrArg (vI .i64) (by unfold placeK; first | rw [if_pos (by omega)] | rw [if_neg (by omega), if_pos (by omega)] | rw [if_neg (by omega), if_neg (by omega)])), hW.fr⟩
 have h1 := ne_of_beq_false h1
 refine wp_skip <| blkN <| thenN <| wp_region_lit <| st_q (vI .i64 1) hA hW.cls (Rd.pureE (v0 := vI .i64 (IntKind.i64.wrap ((0 : Int) + 1))) (fun _ => by kernel_rfl) (congrArg (vI .i64) ((w_i64 (x := (0 : Int) + 1) (by omega) (by omega)).trans (by omega)))) fun ac hA => st_p (vI .i64 1) hA fun ac hA => wn ?_
 rw [rounds_succ]
 refine wr <| st_p (vB true) hA ?_; clear hA ac; intro ac hA
 refine wn <| wp_seq <| wp_cond_true (hA.eval (by kernel_rfl)) <| wp_skip <| thenN <| wp_seq <| wp_block <| wr <| st_p (vI .i64 1) hA fun ac hA => st_p (vI .i64 1) hA fun ac hA => wn <| wr <| st_p (vI .i64 k) hA fun ac hA => st_p (vS (some ⟨kb, 0, none⟩) 2 2) hA fun ac hA => st_p (vI .i64 1) hA fun ac hA => st_p (pA kb 1) hA fun ac hA => st_q (vI .i64 2) hA hW.cls (Rd.load (b := kb) (i := 1) (by kernel_rfl) (fun _ hw => show _ = _ from (hw.1).getG 0 rfl) (by kernel_rfl)) fun ac hA => st_p (vB ((k : Int) == (2 : Int))) hA fun ac hA => wn <| wp_cond_split (t := (k : Int) == (2 : Int)) (hA.eval (by kernel_rfl)) (fun h2 => ?_) (fun h2 => ?_)
 ·
  have h2 := eq_of_beq h2
  refine wr <| st_p (vI .i64 1) hA fun ac hA => st_p (vI .i64 1) hA fun ac hA => wn <| wp_ret <| blkR <| thenR <| thenR <| blkR <| thenR <| r1 (vI .i64 1) hA ?_
  clear hA
  exact ⟨retv (congrArg (vI .i64) (by unfold placeK; first | rw [if_pos (by omega)] | rw [if_neg (by omega), if_pos (by omega)] | rw [if_neg (by omega), if_neg (by omega)])), hW.fr⟩
 have h2 := ne_of_beq_false h2
 refine wp_skip <| blkN <| thenN <| wp_region_lit <| st_q (vI .i64 2) hA hW.cls (Rd.pureE (v0 := vI .i64 (IntKind.i64.wrap ((1 : Int) + 1))) (fun _ => by kernel_rfl) (congrArg (vI .i64) ((w_i64 (x := (1 : Int) + 1) (by omega) (by omega)).trans (by omega)))) fun ac hA => st_p (vI .i64 2) hA fun ac hA => wn ?_
 rw [rounds_succ]
 refine wr <| st_p (vB false) hA ?_; clear hA ac; intro ac hA
 refine wn <| wp_seq <| wp_cond_false (hA.eval (by kernel_rfl)) <| wp_exit <| thenX <| thenX <| blkX <| thenN <| wr <| st_p (vI .i64 (-1)) hA ?_; clear hA ac; intro ac hA
 refine wn <| wp_ret <| r1 (vI .i64 (-1)) hA ?_
 clear hA
 exact ⟨retv (congrArg (vI .i64) (by unfold placeK; first | rw [if_pos (by omega)] | rw [if_neg (by omega), if_pos (by omega)] | rw [if_neg (by omega), if_neg (by omega)])), hW.fr⟩

set_option maxRecDepth 100000 in
theorem e_place (k : Int) (w : World)  : Calls Tryz.prog 34 #[vI .i64 k] w (fun e w' => e = .returned (vI .i64 (placeK k)) ∧ Fr No w w') := by
 refine enter_E 8 Tryz.func34 rfl rfl (by kernel_rfl) (L := [(0, vI .i64 k)]) (by kernel_rfl) ?_
 intro ac hA
 have hW := Ws.start w No
 refine wr <| st_p (vI .i64 0) hA ?_; clear hA ac; intro ac hA
 refine wn <| wr <| st_p (vA #[vI .i64 3, vI .i64 2]) hA ?_; clear hA ac; intro ac hA
 refine st_s hA (Runs.cells (fun b => pA b 0) #[vI .i64 0, vI .i64 0] 165 (fun _ => by kernel_rfl) hW ?_); clear hA ac hW; intro b1 w2 hW hb1 hfw2 ac hA
 refine st_s hA (Runs.store (v := vA #[vI .i64 3, vI .i64 2]) (b := b1) (j := 0) (n := 2) (cs' := #[vI .i64 3, vI .i64 2]) (H' := [Cel b1 #[vI .i64 3, vI .i64 2] 165]) (by kernel_rfl) (by kernel_rfl) (by kernel_rfl) (by kernel_rfl) (by kernel_rfl) hW 0 (by rfl) (Nat.le_of_ble_eq_true (by kernel_rfl)) (by kernel_rfl) (by rfl) ?_); clear hA ac hW; intro w3 hW ac hA
 refine wn <| wr <| st_p (vS (some ⟨b1, 0, none⟩) 2 2) hA fun ac hA => st_p (vI .i64 k) hA fun ac hA => st_s hA (Runs.callN (v := vI .i64 (placeK (k))) (fun _ => by kernel_rfl) hW (e_kidx b1 (k) w3 ((hW).cel 0 rfl)) ?_); clear hA ac hW; intro w4 hW hfw4 ac hA
 refine st_p (vI .i64 (placeK (k))) hA ?_; clear hA ac; intro ac hA
 refine wn <| wp_ret <| r1 (vI .i64 (placeK (k))) hA ?_
 clear hA
 exact ⟨retv (by rfl), hW.fr⟩

set_option maxRecDepth 100000 in
theorem e_cloneA (A_l : Option Addr) (c_l : Nat) (l : List Acc) (w : World) (hr_l : RowAt w A_l 4 enAcc l) (hc_l : l.length ≤ c_l) (hl : l.length ≤ 500000) : Calls Tryz.prog 80 #[vS A_l l.length c_l] w (Fresh 52 4 enAcc l w) := by
 have _hu := hc_l; have _hv := hr_l; clear _hu _hv
 have _hu := hl; clear _hu
 refine enter_E 8 Tryz.func80 rfl rfl (by kernel_rfl) (L := [(0, vS A_l l.length c_l)]) (by kernel_rfl) ?_
 intro ac hA
 have hW := Ws.start w No
 have hW := hW.arg hr_l
 refine wr <| st_p (vS none 0 0) hA ?_; clear hA ac; intro ac hA
 refine wn <| wp_seq <| wr <| st_p (vS A_l l.length c_l) hA fun ac hA => st_q (vB (Option.isNone A_l)) hA hW.cls (Rd.pure fun _ => by cases A_l <;> kernel_rfl) fun ac hA => wn <| wp_cond_split (t := Option.isNone A_l) (hA.eval (by kernel_rfl)) (fun h1 => ?_) (fun h1 => ?_)
 ·
  obtain rfl : A_l = none := Option.isNone_iff_eq_none.1 h1
  have hnil := row_nil ((hW).getG 0 rfl)
  refine wr <| st_p (vS none 0 0) hA ?_; clear hA ac; intro ac hA
  refine wn <| wp_ret <| thenR <| r1 (vS none 0 0) hA ?_
  clear hA
  refine ⟨_, rfl, ?_, hW.fr⟩
  rw [hnil]; exact World.ownsRow_nil _ _ _ _
 refine wp_skip <| thenN <| wr <| st_s hA (Runs.cells (fun b => vS (some ⟨b, 0, none⟩) 0 0) #[] 52 (fun _ => by kernel_rfl) hW ?_); clear hA ac hW; intro b2 w3 hW hb2 hfw3 ac hA
 refine st_p (vS A_l l.length c_l) hA ?_; clear hA ac; intro ac hA
 have hW := hW.celRow (en := enAcc) (H' := [rowR 52 4 enAcc (vS (some ⟨b2, 0, none⟩) ([] : List Acc).length ([] : List Acc).length) ([] : List Acc)]) 0 rfl ([] : List Acc) (by rfl) elt_Acc.len (by decide) rfl
 refine st_s hA (Runs.appOwn (B := A_l) (k := c_l) (E := 52) (sz := 4) (en := enAcc) (l := ([] : List Acc)) (m := l) (i := 0) (by kernel_rfl) (by kernel_rfl) elt_Acc (by kernel_rfl) hW rfl ((hW).getG 0 rfl) (by first | omega | (simp; done) | (simp; omega)) (by first | omega | (simp; done) | (simp; omega)) ?_); clear hA ac hW; intro A5 c6 w7 hW hcc6 ac hA
 refine st_p (vS A5 (([] : List Acc) ++ l).length c6) hA ?_; clear hA ac; intro ac hA
 refine wn <| wp_ret <| r1 (vS A5 (([] : List Acc) ++ l).length c6) hA ?_
 clear hA
 refine ⟨_, rfl, ?_, hW.fr⟩
 exact hW.fresh 0 rfl (fun _ h => h)

set_option maxRecDepth 100000 in
theorem e_concat (A_l : Option Addr) (c_l : Nat) (l : List AV) (w : World) (hr_l : RowAt w A_l 1 enAV l) (hc_l : l.length ≤ c_l) (hn_l : (nestR innerAV l).p w) (hk_l : ∀ x_ ∈ l, capAV x_) (hl4 : l.length ≤ 4) (hx : ∀ x ∈ l, x.l.length ≤ 100000) : Calls Tryz.prog 77 #[vS A_l l.length c_l] w (Fresh 52 4 enAcc (catA l) w) := by
 have _hu := hc_l; have _hv := hr_l; clear _hu _hv
 have _hu := hk_l; have _hv := hn_l; clear _hu _hv
 have _hu := hl4; clear _hu
 have _hu := hx; clear _hu
 refine enter_E 36 Tryz.func77 rfl rfl (by kernel_rfl) (L := [(0, vS A_l l.length c_l)]) (by kernel_rfl) ?_
 intro ac hA
 have hW := Ws.start w No
 have hW := hW.arg hr_l
 have hW := hW.addG _ hn_l (nest_ltAV hn_l) (by simp)
 refine wr <| st_p (vS none 0 0) hA ?_; clear hA ac; intro ac hA
 refine wn <| wr <| st_p (vI .i64 0) hA ?_; clear hA ac; intro ac hA
 refine wn <| wp_seq <| wr <| st_p (vS A_l l.length c_l) hA fun ac hA => st_p (vI .i64 (l.length : Int)) hA fun ac hA => st_p (vI .i64 0) hA fun ac hA => wn <| wp_block <| wp_loop_m (fun m_ ac_ wl_ => ∃ k : Nat, ∃ n : Nat, m_ = l.length - k ∧ (k ≤ l.length) ∧ (n = (catA (l.take k)).length) ∧ Fm 36 [] [(0, vS A_l l.length c_l), (3, vI .i64 (n : Int)), (9, vS A_l l.length c_l), (10, vI .i64 (l.length : Int)), (11, vI .i64 (k : Int))] ac_ ∧ Ws w No [] [nestR innerAV l, roR A_l 1 enAV l] wl_) _ ⟨0, 0, rfl, by omega, by rfl, hA.sub (by and_intros <;> first | kernel_rfl | trivial), (hW.pick [] (by decide) rfl).pickG [0, 1] rfl⟩ ?_
 clear hA ac hW; rintro m_ ac w1 ⟨k, n, rfl, hk, hn, hA, hW⟩
 have hct_ := catA_take l k hx hl4
 refine wr <| st_p (vB (decide ((k : Int) < (l.length : Int)))) hA ?_; clear hA ac; intro ac hA
 refine wn <| wp_seq <| wp_cond_split (t := decide ((k : Int) < (l.length : Int))) (hA.eval (by kernel_rfl)) (fun h2 => ?_) (fun h2 => ?_)
 ·
  have h2 := of_decide_eq_true h2
  refine wp_skip <| thenN <| wp_seq <| wp_block <| wr ?_
  obtain ⟨y3, hy3⟩ : ∃ y, l[k]? = some y := ⟨_, List.getElem?_eq_getElem (by first | omega | (simp; done) | (simp; omega))⟩
  rcases y3 with ⟨y3_l, y3_l_A, y3_l_c⟩
  obtain ⟨b4, o5, rfl, hbb4⟩ := row_some ((hW).getG 1 rfl) hy3
  refine st_q (vP (some ⟨b4, o5 + k * 1, none⟩)) hA hW.cls (Rd.indexAddr (e := 33) (sz := 1) (b := b4) (off := o5) (n := l.length) (c := c_l) (k := k) (by kernel_rfl) (by kernel_rfl) (by first | omega | (simp; done) | (simp; omega)) (fun _ => by kernel_rfl) (fun _ => by kernel_rfl)) ?_; clear hA ac; intro ac hA
  have hW := hW.nestAt 0 rfl (List.mem_of_getElem? hy3)
  have hc_y3_l : y3_l.length ≤ y3_l_c := hk_l _ (List.mem_of_getElem? hy3)
  replace hW : Ws w No [] [roR y3_l_A 4 enAcc y3_l, nestR innerAV l, roR (some ⟨b4, o5, none⟩) 1 enAV l] w1 := hW
  refine st_q (vS y3_l_A y3_l.length y3_l_c) hA hW.cls (Rd.loadRow (b := b4) (i := o5 + k * 1) (xs := [vS y3_l_A y3_l.length y3_l_c]) (by kernel_rfl) (fun _ hw => row_ld ((hw.1).getG 2 rfl) hy3 (Fr.refl No _) (fun h => h) 0 1 (by kernel_rfl)) (by kernel_rfl)) fun ac hA => st_p (vS y3_l_A y3_l.length y3_l_c) hA fun ac hA => wn <| wp_seq ?_
  have hyx_ : y3_l.length ≤ 100000 := hx _ (List.mem_of_getElem? hy3)
  refine wp_region_lit <| st_p (vI .i64 (n : Int)) hA fun ac hA => st_p (vS y3_l_A y3_l.length y3_l_c) hA fun ac hA => st_p (vI .i64 (y3_l.length : Int)) hA fun ac hA => st_q (vI .i64 ((n + y3_l.length : Nat) : Int)) hA hW.cls (Rd.pureE (v0 := vI .i64 (IntKind.i64.wrap ((n : Int) + (y3_l.length : Int)))) (fun _ => by kernel_rfl) (congrArg (vI .i64) ((w_i64 (x := (n : Int) + (y3_l.length : Int)) (by omega) (by omega)).trans (by omega)))) fun ac hA => st_p (vI .i64 ((n + y3_l.length : Nat) : Int)) hA fun ac hA => wn <| wr <| st_p (vI .i64 ((n + y3_l.length : Nat) : Int)) hA fun ac hA => st_p (vB (decide ((((n + y3_l.length : Nat) : Int) : Int) < (0 : Int)))) hA fun ac hA => wn <| wp_cond_split (t := decide ((((n + y3_l.length : Nat) : Int) : Int) < (0 : Int))) (hA.eval (by kernel_rfl)) (fun h6 => ?_) (fun h6 => ?_)
  ·
   have h6 := of_decide_eq_true h6
   exfalso; clear hA hW; omega
  have h6 := of_decide_eq_false h6
  refine wp_skip <| blkN <| thenN <| wp_region_lit <| st_q (vI .i64 ((k + 1 : Nat) : Int)) hA hW.cls (Rd.pureE (v0 := vI .i64 (IntKind.i64.wrap ((k : Int) + 1))) (fun _ => by kernel_rfl) (congrArg (vI .i64) ((w_i64 (x := (k : Int) + 1) (by omega) (by omega)).trans (by omega)))) fun ac hA => st_p (vI .i64 ((k + 1 : Nat) : Int)) hA fun ac hA => wn ?_
  exact ⟨l.length - (k + 1), by omega, k + 1, n + y3_l.length, rfl, by omega, by rw [catA_snoc hy3, List.length_append]; show _ = _ + y3_l.length; omega, hA.sub (by and_intros <;> first | kernel_rfl | trivial), (hW.pick [] (by decide) rfl).pickG [1, 2] rfl⟩
 have h2 := of_decide_eq_false h2
 refine wp_exit <| thenX <| thenX <| blkX <| thenN <| wp_seq ?_
 have hct_ := catA_take l k hx hl4
 refine wp_region_lit <| st_p (vI .i64 (n : Int)) hA ?_; clear hA ac; intro ac hA
 refine st_s hA (Runs.callRow (E := 52) (sz := 4) (en := enAcc) (l := ([] : List Acc)) (fun _ => by kernel_rfl) hW (e_grow (n) w1 (by omega)) ?_); clear hA ac hW; intro A8 c9 w7 hW hcc9 hfw7 ac hA
 refine st_p (vS A8 ([] : List Acc).length c9) hA ?_; clear hA ac; intro ac hA
 refine wn <| wp_seq <| wr <| st_p (vS A_l l.length c_l) hA fun ac hA => st_p (vI .i64 (l.length : Int)) hA fun ac hA => st_p (vI .i64 0) hA fun ac hA => wn <| wp_block <| wp_loop_m (fun m_ ac_ wl_ => ∃ q : Nat, ∃ d : List Acc, ∃ A : Option Addr, ∃ cc : Nat, m_ = l.length - q ∧ (q ≤ l.length) ∧ (d = catA (l.take q)) ∧ (d.length ≤ cc) ∧ Fm 36 [] [(0, vS A_l l.length c_l), (6, vS A d.length cc), (25, vS A_l l.length c_l), (26, vI .i64 (l.length : Int)), (27, vI .i64 (q : Int))] ac_ ∧ Ws w No [rowR 52 4 enAcc (vS A d.length cc) d] [nestR innerAV l, roR A_l 1 enAV l] wl_) _ ⟨0, ([] : List Acc), A8, c9, rfl, by omega, by rfl, by exact (own_cap ((hW).get 0 rfl)), hA.sub (by and_intros <;> first | kernel_rfl | trivial), (hW.pick [0] (by decide) rfl).pickG [0, 1] rfl⟩ ?_
 clear hA ac hW; rintro m_ ac w11 ⟨q, d, A, cc, rfl, hq, hd, hcc, hA, hW⟩
 have hct_ := catA_take l q hx hl4; rw [← hd] at hct_
 refine wr <| st_p (vB (decide ((q : Int) < (l.length : Int)))) hA ?_; clear hA ac; intro ac hA
 refine wn <| wp_seq <| wp_cond_split (t := decide ((q : Int) < (l.length : Int))) (hA.eval (by kernel_rfl)) (fun h12 => ?_) (fun h12 => ?_)
 ·
  have h12 := of_decide_eq_true h12
  refine wp_skip <| thenN <| wp_seq <| wp_block <| wr ?_
  obtain ⟨y13, hy13⟩ : ∃ y, l[q]? = some y := ⟨_, List.getElem?_eq_getElem (by first | omega | (simp; done) | (simp; omega))⟩
  rcases y13 with ⟨y13_l, y13_l_A, y13_l_c⟩
  obtain ⟨b14, o15, rfl, hbb14⟩ := row_some ((hW).getG 1 rfl) hy13
  refine st_q (vP (some ⟨b14, o15 + q * 1, none⟩)) hA hW.cls (Rd.indexAddr (e := 33) (sz := 1) (b := b14) (off := o15) (n := l.length) (c := c_l) (k := q) (by kernel_rfl) (by kernel_rfl) (by first | omega | (simp; done) | (simp; omega)) (fun _ => by kernel_rfl) (fun _ => by kernel_rfl)) ?_; clear hA ac; intro ac hA
  have hW := hW.nestAt 0 rfl (List.mem_of_getElem? hy13)
  have hc_y13_l : y13_l.length ≤ y13_l_c := hk_l _ (List.mem_of_getElem? hy13)
  replace hW : Ws w No [rowR 52 4 enAcc (vS A d.length cc) d] [roR y13_l_A 4 enAcc y13_l, nestR innerAV l, roR (some ⟨b14, o15, none⟩) 1 enAV l] w11 := hW
  refine st_q (vS y13_l_A y13_l.length y13_l_c) hA hW.cls (Rd.loadRow (b := b14) (i := o15 + q * 1) (xs := [vS y13_l_A y13_l.length y13_l_c]) (by kernel_rfl) (fun _ hw => row_ld ((hw.1).getG 2 rfl) hy13 (Fr.refl No _) (fun h => h) 0 1 (by kernel_rfl)) (by kernel_rfl)) fun ac hA => st_p (vS y13_l_A y13_l.length y13_l_c) hA fun ac hA => wn ?_
  have hyx_ : y13_l.length ≤ 100000 := hx _ (List.mem_of_getElem? hy13)
  refine wp_region_lit <| st_p (vS A d.length cc) hA fun ac hA => st_p (vS y13_l_A y13_l.length y13_l_c) hA fun ac hA => st_s hA (Runs.appOwn (B := y13_l_A) (k := y13_l_c) (E := 52) (sz := 4) (en := enAcc) (l := d) (m := y13_l) (i := 0) (by kernel_rfl) (by kernel_rfl) elt_Acc (by kernel_rfl) hW rfl ((hW).getG 0 rfl) (by first | omega | (simp; done) | (simp; omega)) (by first | omega | (simp; done) | (simp; omega)) ?_); clear hA ac hW; intro A16 c17 w18 hW hcc17 ac hA
  refine st_p (vS A16 (d ++ y13_l).length c17) hA ?_; clear hA ac; intro ac hA
  refine wpList_nil <| blkN <| thenN <| wp_region_lit <| st_q (vI .i64 ((q + 1 : Nat) : Int)) hA hW.cls (Rd.pureE (v0 := vI .i64 (IntKind.i64.wrap ((q : Int) + 1))) (fun _ => by kernel_rfl) (congrArg (vI .i64) ((w_i64 (x := (q : Int) + 1) (by omega) (by omega)).trans (by omega)))) fun ac hA => st_p (vI .i64 ((q + 1 : Nat) : Int)) hA fun ac hA => wn ?_
  exact ⟨l.length - (q + 1), by omega, q + 1, d ++ y13_l, A16, c17, rfl, by omega, by rw [catA_snoc hy13, ← hd], by exact hcc17, hA.sub (by and_intros <;> first | kernel_rfl | trivial), (hW.pick [0] (by decide) rfl).pickG [1, 2] rfl⟩
 have h12 := of_decide_eq_false h12
 refine wp_exit <| thenX <| thenX <| blkX <| thenN <| wr <| st_p (vS A d.length cc) hA fun ac hA => st_p (vS A d.length cc) hA fun ac hA => wn <| wp_ret <| r1 (vS A d.length cc) hA ?_
 clear hA
 rw [List.take_of_length_le (by omega)] at hd; subst hd; exact ⟨_, rfl, hW.fresh 0 rfl (fun _ h => h), hW.fr⟩

set_option maxRecDepth 100000 in
theorem e_joined (A_l : Option Addr) (c_l : Nat) (l : List AV) (w : World) (hr_l : RowAt w A_l 1 enAV l) (hc_l : l.length ≤ c_l) (hn_l : (nestR innerAV l).p w) (hk_l : ∀ x_ ∈ l, capAV x_) (hl4 : l.length ≤ 4) (hx : ∀ x ∈ l, x.l.length ≤ 100000) : Calls Tryz.prog 38 #[vS A_l l.length c_l] w (Fresh 52 4 enAcc (catA l) w) := by
 have _hu := hc_l; have _hv := hr_l; clear _hu _hv
 have _hu := hk_l; have _hv := hn_l; clear _hu _hv
 have _hu := hl4; clear _hu
 have _hu := hx; clear _hu
 refine enter_E 5 Tryz.func38 rfl rfl (by kernel_rfl) (L := [(0, vS A_l l.length c_l)]) (by kernel_rfl) ?_
 intro ac hA
 have hW := Ws.start w No
 have hW := hW.arg hr_l
 have hW := hW.addG _ hn_l (nest_ltAV hn_l) (by simp)
 refine wr <| st_p (vS none 0 0) hA ?_; clear hA ac; intro ac hA
 refine wn <| wr <| st_p (vS A_l l.length c_l) hA ?_; clear hA ac; intro ac hA
 refine st_s hA (Runs.callRow (E := 52) (sz := 4) (en := enAcc) (l := (catA l)) (fun _ => by kernel_rfl) hW (e_concat A_l c_l l w ((hW).getG 1 rfl) (by first | assumption | omega | (simp; omega) | simp) ((hW).getG 0 rfl) hk_l (by first | omega | assumption) (by first | omega | assumption)) ?_); clear hA ac hW; intro A2 c3 w1 hW hcc3 hfw1 ac hA
 refine st_p (vS A2 (catA l).length c3) hA ?_; clear hA ac; intro ac hA
 refine wn <| wp_ret <| r1 (vS A2 (catA l).length c3) hA ?_
 clear hA
 refine ⟨_, rfl, ?_, hW.fr⟩
 have hrow := hW.fresh 0 rfl (fun _ h => h)
 exact hrow

set_option maxRecDepth 100000 in
theorem e_r26same (ai : Int) (aa : Int) (A_aw : Option Addr) (c_aw : Nat) (aw : List Acc) (bi : Int) (ba : Int) (A_bw : Option Addr) (c_bw : Nat) (bw : List Acc) (w : World) (hr_aw : RowAt w A_aw 4 enAcc aw) (hc_aw : aw.length ≤ c_aw) (hr_bw : RowAt w A_bw 4 enAcc bw) (hc_bw : bw.length ≤ c_bw) (hl : aw.length ≤ 100000) (hr : bw.length ≤ 100000) : Calls Tryz.prog 16 #[vA #[vI .i64 ai, vI .u32 aa, vS A_aw aw.length c_aw], vA #[vI .i64 bi, vI .u32 ba, vS A_bw bw.length c_bw]] w (fun e w' => e = .returned (vB (decide (ai = bi ∧ aa = ba ∧ aw = bw))) ∧ Fr No w w') := by
 have _hu := hc_aw; have _hv := hr_aw; clear _hu _hv
 have _hu := hc_bw; have _hv := hr_bw; clear _hu _hv
 have _hu := hl; clear _hu
 have _hu := hr; clear _hu
 refine enter_E 45 Tryz.func16 rfl rfl (by kernel_rfl) (L := [(0, vA #[vI .i64 ai, vI .u32 aa, vS A_aw aw.length c_aw]), (1, vA #[vI .i64 bi, vI .u32 ba, vS A_bw bw.length c_bw])]) (by kernel_rfl) ?_
 intro ac hA
 have hW := Ws.start w No
 have hW := hW.arg hr_aw
 have hW := hW.arg hr_bw
 refine wr <| st_s hA (Runs.cells (fun b => pA b 0) #[vI .i64 ai, vI .u32 aa, vS A_aw aw.length c_aw] 35 (fun _ => by kernel_rfl) hW ?_); clear hA ac hW; intro b1 w2 hW hb1 hfw2 ac hA
 refine st_s hA (Runs.cells (fun b => pA b 0) #[vI .i64 bi, vI .u32 ba, vS A_bw bw.length c_bw] 35 (fun _ => by kernel_rfl) hW ?_); clear hA ac hW; intro b3 w4 hW hb3 hfw4 ac hA
 refine st_p (vB false) hA ?_; clear hA ac; intro ac hA
 refine wn <| wp_seq <| wr <| st_p (pA b1 0) hA fun ac hA => st_q (vI .i64 ai) hA hW.cls (rl b1 0 1) fun ac hA => st_p (pA b3 0) hA fun ac hA => st_q (vI .i64 bi) hA hW.cls (rl b3 0 0) fun ac hA => st_p (vB ((ai : Int) != (bi : Int))) hA fun ac hA => st_p (vB ((ai : Int) != (bi : Int))) hA fun ac hA => ?_
 rcases Bool.eq_false_or_eq_true ((ai : Int) != (bi : Int)) with h5 | h5
 ·
  rw [h5] at hA
  have h5 := bne_iff_ne.1 h5
  refine st_k hA fun ac hA => st_k hA fun ac hA => st_k hA fun ac hA => st_k hA fun ac hA => st_k hA fun ac hA => st_p (vB true) hA fun ac hA => st_p (vB true) hA fun ac hA => st_k hA fun ac hA => st_k hA fun ac hA => st_k hA fun ac hA => st_k hA fun ac hA => st_k hA fun ac hA => st_k hA fun ac hA => st_k hA fun ac hA => st_p (vB true) hA fun ac hA => wn <| wp_cond_true (hA.eval (by kernel_rfl)) <| wr <| st_p (vB false) hA ?_; clear hA ac; intro ac hA
  refine wn <| wp_ret <| thenR <| r1 (vB false) hA ?_
  clear hA
  refine ⟨retv (congrArg vB (decide_eq_false ?_).symm), hW.fr⟩
  rintro ⟨q1_, q2_, e⟩; first | omega | exact absurd q1_ (by assumption) | exact absurd q2_ (by assumption) | (subst e; exact absurd rfl (by omega))
 rw [h5] at hA
 have h5 := of_bne_f h5
 refine st_p (pA b1 1) hA fun ac hA => st_q (vI .u32 aa) hA hW.cls (rl b1 1 1) fun ac hA => st_p (pA b3 1) hA fun ac hA => st_q (vI .u32 ba) hA hW.cls (rl b3 1 0) fun ac hA => st_p (vB ((aa : Int) != (ba : Int))) hA fun ac hA => st_p (vB ((aa : Int) != (ba : Int))) hA fun ac hA => st_p (vB ((aa : Int) != (ba : Int))) hA fun ac hA => ?_
 rcases Bool.eq_false_or_eq_true ((aa : Int) != (ba : Int)) with h6 | h6
 ·
  rw [h6] at hA
  have h6 := bne_iff_ne.1 h6
  refine st_k hA fun ac hA => st_k hA fun ac hA => st_k hA fun ac hA => st_k hA fun ac hA => st_k hA fun ac hA => st_k hA fun ac hA => st_k hA fun ac hA => st_p (vB true) hA fun ac hA => wn <| wp_cond_true (hA.eval (by kernel_rfl)) <| wr <| st_p (vB false) hA ?_; clear hA ac; intro ac hA
  refine wn <| wp_ret <| thenR <| r1 (vB false) hA ?_
  clear hA
  refine ⟨retv (congrArg vB (decide_eq_false ?_).symm), hW.fr⟩
  rintro ⟨q1_, q2_, e⟩; first | omega | exact absurd q1_ (by assumption) | exact absurd q2_ (by assumption) | (subst e; exact absurd rfl (by omega))
 rw [h6] at hA
 have h6 := of_bne_f h6
 refine st_p (pA b1 2) hA fun ac hA => st_q (vS A_aw aw.length c_aw) hA hW.cls (rl b1 2 1) fun ac hA => st_p (vI .i64 (aw.length : Int)) hA fun ac hA => st_p (pA b3 2) hA fun ac hA => st_q (vS A_bw bw.length c_bw) hA hW.cls (rl b3 2 0) fun ac hA => st_p (vI .i64 (bw.length : Int)) hA fun ac hA => st_p (vB ((aw.length : Int) != (bw.length : Int))) hA fun ac hA => st_p (vB ((aw.length : Int) != (bw.length : Int))) hA fun ac hA => wn <| wp_cond_split (t := (aw.length : Int) != (bw.length : Int)) (hA.eval (by kernel_rfl)) (fun h7 => ?_) (fun h7 => ?_)
 ·
  have h7 := bne_iff_ne.1 h7
  refine wr <| st_p (vB false) hA ?_; clear hA ac; intro ac hA
  refine wn <| wp_ret <| thenR <| r1 (vB false) hA ?_
  clear hA
  refine ⟨retv (congrArg vB (decide_eq_false ?_).symm), hW.fr⟩
  rintro ⟨q1_, q2_, e⟩; first | omega | exact absurd q1_ (by assumption) | exact absurd q2_ (by assumption) | (subst e; exact absurd rfl (by omega))
 have h7 := of_bne_f h7
 refine wp_skip <| thenN <| wp_seq <| wr <| st_p (vI .i64 0) hA ?_; clear hA ac; intro ac hA
 refine wn <| wp_block <| wp_loop_m (fun m_ ac_ wl_ => ∃ k : Nat, m_ = aw.length - k ∧ (k ≤ aw.length) ∧ (aw.take k = bw.take k) ∧ Fm 45 [] [(0, vA #[vI .i64 ai, vI .u32 aa, vS A_aw aw.length c_aw]), (1, vA #[vI .i64 bi, vI .u32 ba, vS A_bw bw.length c_bw]), (2, pA b1 0), (3, pA b3 0), (5, vI .i64 (k : Int))] ac_ ∧ Ws w No [Cel b3 #[vI .i64 bi, vI .u32 ba, vS A_bw bw.length c_bw] 35, Cel b1 #[vI .i64 ai, vI .u32 aa, vS A_aw aw.length c_aw] 35] [roR A_bw 4 enAcc bw, roR A_aw 4 enAcc aw] wl_) _ ⟨0, rfl, by omega, by rfl, hA.sub (by and_intros <;> first | kernel_rfl | trivial), (hW.pick [0, 1] (by decide) rfl).pickG [0, 1] rfl⟩ ?_
 clear hA ac hW; rintro m_ ac w8 ⟨k, rfl, hk, hn, hA, hW⟩
 refine wp_seq <| wr <| st_p (vI .i64 (k : Int)) hA fun ac hA => st_p (pA b1 2) hA fun ac hA => st_q (vS A_aw aw.length c_aw) hA hW.cls (rl b1 2 1) fun ac hA => st_p (vI .i64 (aw.length : Int)) hA fun ac hA => st_p (vB (decide ((k : Int) < (aw.length : Int)))) hA fun ac hA => wn <| wp_cond_split (t := decide ((k : Int) < (aw.length : Int))) (hA.eval (by kernel_rfl)) (fun h9 => ?_) (fun h9 => ?_)
 ·
  have h9 := of_decide_eq_true h9
  refine wp_skip <| thenN <| wp_seq <| wp_block <| wp_seq ?_
  obtain ⟨y10, hy10⟩ : ∃ y, aw[k]? = some y := ⟨_, List.getElem?_eq_getElem (by omega)⟩
  obtain ⟨b11, o12, rfl, hbb11⟩ := row_some ((hW).getG 1 rfl) hy10
  obtain ⟨y13, hy13⟩ : ∃ y, bw[k]? = some y := ⟨_, List.getElem?_eq_getElem (by omega)⟩
  obtain ⟨b14, o15, rfl, hbb14⟩ := row_some ((hW).getG 0 rfl) hy13
  refine q_region (by kernel_rfl) (by kernel_rfl) hW <| sq_p (pA b1 2) hA fun ac hA => sq_q (vS (some ⟨b11, o12, none⟩) aw.length c_aw) hA (rl b1 2 1) fun ac hA => sq_p (vI .i64 (k : Int)) hA fun ac hA => sq_q (vP (some ⟨b11, o12 + k * 4, none⟩)) hA (Rd.indexAddr (e := 52) (sz := 4) (b := b11) (off := o12) (n := aw.length) (c := c_aw) (k := k) (by kernel_rfl) (by kernel_rfl) (by first | omega | (simp; done) | (simp; omega)) (fun _ => by kernel_rfl) (fun _ => by kernel_rfl)) fun ac hA => sq_q (vA #[vI .i64 y10.g, vI .i64 y10.s.f, vI .i64 y10.s.pc, vI .i64 y10.k]) hA (Rd.loadRow (b := b11) (i := o12 + k * 4) (xs := [vI .i64 y10.g, vI .i64 y10.s.f, vI .i64 y10.s.pc, vI .i64 y10.k]) (by kernel_rfl) (fun _ hw => row_ld ((hw.1).getG 1 rfl) hy10 (Fr.refl No _) (fun h => h) 0 4 (by kernel_rfl)) (by kernel_rfl)) fun ac hA => sq_p (pA b3 2) hA fun ac hA => sq_q (vS (some ⟨b14, o15, none⟩) bw.length c_bw) hA (rl b3 2 0) fun ac hA => sq_p (vI .i64 (k : Int)) hA fun ac hA => sq_q (vP (some ⟨b14, o15 + k * 4, none⟩)) hA (Rd.indexAddr (e := 52) (sz := 4) (b := b14) (off := o15) (n := bw.length) (c := c_bw) (k := k) (by kernel_rfl) (by kernel_rfl) (by first | omega | (simp; done) | (simp; omega)) (fun _ => by kernel_rfl) (fun _ => by kernel_rfl)) fun ac hA => sq_q (vA #[vI .i64 y13.g, vI .i64 y13.s.f, vI .i64 y13.s.pc, vI .i64 y13.k]) hA (Rd.loadRow (b := b14) (i := o15 + k * 4) (xs := [vI .i64 y13.g, vI .i64 y13.s.f, vI .i64 y13.s.pc, vI .i64 y13.k]) (by kernel_rfl) (fun _ hw => row_ld ((hw.1).getG 0 rfl) hy13 (Fr.refl No _) (fun h => h) 0 4 (by kernel_rfl)) (by kernel_rfl)) fun ac hA => sq_q (vB (!decide (y10 = y13))) hA (Rd.neS (u := y10.v) (v := y13.v) (by kernel_rfl) (by kernel_rfl) rfl rfl (by kernel_rfl) (fun w => eq_Acc w y10 y13)) fun ac hA => sq_nil ?_; intro w16 hww16; have hW := hww16.1; have hfw16 := hww16.2; clear hww16
  refine thenN <| wp_cond_split (t := !decide (y10 = y13)) (hA.eval (by kernel_rfl)) (fun h17 => ?_) (fun h17 => ?_)
  ·
   have h17 := not_t h17
   have h17 := of_decide_eq_false h17
   have h17e := fun e => h17 ((Acc.eqi _ _).2 e)
   refine wr <| st_p (vB false) hA ?_; clear hA ac; intro ac hA
   refine wn <| wp_ret <| blkR <| thenR <| thenR <| blkR <| thenR <| r1 (vB false) hA ?_
   clear hA
   refine ⟨retv (congrArg vB (decide_eq_false ?_).symm), hW.fr⟩
   rintro ⟨-, -, e⟩; subst e; rw [hy10] at hy13; exact h17 (Option.some.inj hy13)
  have h17 := not_f h17
  have h17 := of_decide_eq_true h17
  have h17e := (Acc.eqi _ _).1 h17
  refine wp_skip <| blkN <| thenN <| wp_region_lit <| st_p (vI .i64 (k : Int)) hA fun ac hA => st_q (vI .i64 ((k + 1 : Nat) : Int)) hA hW.cls (Rd.pureE (v0 := vI .i64 (IntKind.i64.wrap ((k : Int) + 1))) (fun _ => by kernel_rfl) (congrArg (vI .i64) ((w_i64 (x := (k : Int) + 1) (by omega) (by omega)).trans (by omega)))) fun ac hA => st_p (vI .i64 ((k + 1 : Nat) : Int)) hA fun ac hA => wn ?_
  exact ⟨aw.length - (k + 1), by omega, k + 1, rfl, by omega, by rw [take_snoc hy10, take_snoc hy13, hn, h17], hA.sub (by and_intros <;> first | kernel_rfl | trivial), (hW.pick [0, 1] (by decide) rfl).pickG [0, 1] rfl⟩
 have h9 := of_decide_eq_false h9
 refine wp_exit <| thenX <| thenX <| blkX <| thenN <| wr <| st_p (vB true) hA ?_; clear hA ac; intro ac hA
 refine wn <| wp_ret <| r1 (vB true) hA ?_
 clear hA
 refine ⟨retv (congrArg vB (decide_eq_true ?_).symm), hW.fr⟩
 exact ⟨by omega, by omega, take_all (by omega) (by omega) hn⟩

end Go.Proofs.YtoakhhilmnfpkaaGreatDoor.L
