/- Contracts, walked by program over the engine's laws. -/
import Derived.Test.YtoakhhilmnfpkaaGreatDoorProg
import Derived.Test.YtoakhhilmnfpkaaGreatDoorT2
namespace Go.Proofs.YtoakhhilmnfpkaaGreatDoor.L
open Go.RowKit
open Go.Value renaming int → vI, slice → vS, bool → vB, pointer → vP, func → vF, agg → vA, map → vM, tuple → vT

def foldJ (l : List SV) : List Int := l.foldl (fun s x => joinC s x.l) []
theorem foldJ_snoc {l : List SV} {k : Nat} {y : SV} (h : l[k]? = some y) : foldJ (l.take (k + 1)) = joinC (foldJ (l.take k)) y.l := by unfold foldJ; rw [tk_snoc h, List.foldl_append]; rfl
def padC (c : List Int) (id : Int) : List Int := c ++ List.replicate (id.toNat + 1 - c.length) 0
def tickC (c : List Int) (id en : Int) : List Int × Int :=
  if epochE c id ≠ 0 then ([], epochE c id) else if nextErr (epochV c id) en ≠ 0 then ([], nextErr (epochV c id) en) else (trimC ((padC c id).set id.toNat ((epochV c id + 1) % 281474976710656)), 0)
theorem epoch_ok {c : List Int} {id : Int} (h : epochE c id = 0) (hc : ∀ n ∈ c, 0 ≤ n ∧ n ≤ 18446744073709551615) : 0 ≤ id ∧ id ≤ 65535 ∧ 0 ≤ getC c id ∧ getC c id ≤ 281474976710655 ∧ epochV c id = id * 281474976710656 + getC c id := by
  unfold epochE at h; unfold epochV
  cases q : vecOk c with
  | false => rw [q] at h; cases h
  | true =>
    rw [q] at h; simp only [if_true] at h ⊢
    cases r : packOk id (getC c id) with
    | false => rw [r] at h; cases h
    | true =>
      have hr := (pack_yes r).1
      unfold packOk at r
      have := of_decide_eq_true r
      have := getC_rng (i := id) hc
      omega
theorem epochV_rng {c : List Int} {id : Int} (h : epochE c id = 0) (hc : ∀ n ∈ c, 0 ≤ n ∧ n ≤ 18446744073709551615) : 0 ≤ epochV c id ∧ epochV c id ≤ 18446744073709551615 := by have := epoch_ok h hc; omega
theorem next_ok {ep en : Int} (h : nextErr ep en = 0) : 1 ≤ en ∧ en ≤ 281474976710655 ∧ ep % 281474976710656 < en := by
  unfold nextErr at h
  split at h
  · cases h
  · split at h
    · cases h
    · omega
theorem pad_step {c : List Int} {k : Nat} : c ++ List.replicate k (0 : Int) ++ [0] = c ++ List.replicate (k + 1) 0 := by rw [List.append_assoc, List.replicate_succ']
theorem pad_done {c : List Int} {k : Nat} {id : Int} (h : ¬ ((c.length + k : Nat) : Int) ≤ id) (hk : k = 0 ∨ ((c.length + k : Nat) : Int) ≤ id + 1) (h0 : 0 ≤ id) : c ++ List.replicate k (0 : Int) = padC c id := by unfold padC; congr 2; omega
set_option maxRecDepth 100000 in
theorem it_143 (b : Nat) (A : Option Addr) (c : Nat) (l : List SV) (hc : l.length ≤ c) (hl : l.length ≤ 1000000) : Iter Tryz.prog 143 #[pA b 0] (fun x_ : SV => #[vS x_.l_A x_.l.length x_.l_c]) (· = l) [Cel b #[vS A l.length c] 184, roR A 1 enSV l] := by
 intro l_ J_ Jx_ r0 w hOs_ hdis_ hR_ hJ0_ hp_ hlt_
 have hW := iterW hOs_ hdis_ hp_ hlt_; clear hOs_ hdis_ hp_ hlt_
 have _hu := hc; clear _hu
 have _hu := hl; clear _hu
 refine enter_F 16 Tryz.func143 rfl rfl (by kernel_rfl) (L := [(0, vF (.yield l_) #[] #[]), (1, pA b 0)]) (by kernel_rfl) ?_
 intro ac hA
 refine wpIn_seq <| wpIn_region_lit <| st_rdF (v := vS A l.length c) hA (by kernel_rfl) (by kernel_rfl) (by kernel_rfl) (by kernel_rfl) hW.cls (Rd.load (b := b) (i := 0) (by kernel_rfl) (fun _ hw => show _ = _ from (hw.1).getG 0 rfl) (by kernel_rfl)) ?_; clear hA ac; intro ac hA
 refine st_rdF (v := vI .i64 (l.length : Int)) hA (by kernel_rfl) (by kernel_rfl) (by kernel_rfl) (by kernel_rfl) hW.cls (Rd.pure fun _ => by kernel_rfl) ?_; clear hA ac; intro ac hA
 refine st_rdF (v := vI .i64 0) hA (by kernel_rfl) (by kernel_rfl) (by kernel_rfl) (by kernel_rfl) hW.cls (Rd.pure fun _ => by kernel_rfl) ?_; clear hA ac; intro ac hA
 refine wpListIn_nil <| thenN <| wpIn_block <| wpIn_loop_m (fun m_ ac_ wl_ => ∃ k : Nat, ∃ r_ : Res, m_ = l.length - k ∧ (k ≤ l.length) ∧ (J_ (l.take k) r_) ∧ Fm 16 [] [(0, vF (.yield l_) #[] #[]), (5, vS A l.length c), (6, vI .i64 (l.length : Int)), (7, vI .i64 (k : Int))] ac_ ∧ Ws w (· ∈ r0.fp) [r_] [Cel b #[vS A l.length c] 184, roR A 1 enSV l] wl_) _ ⟨0, r0, rfl, by omega, by exact hJ0_, hA.sub (by and_intros <;> first | kernel_rfl | trivial), (hW.pick [0] (by decide) rfl).pickG [0, 1] rfl⟩ ?_
 clear hA ac hW; rintro m_ ac w1 ⟨k, r_, rfl, hk, hJ, hA, hW⟩
 refine wpIn_seq <| wpIn_region_lit <| st_rdF (v := vB (decide ((k : Int) < (l.length : Int)))) hA (by kernel_rfl) (by kernel_rfl) (by kernel_rfl) (by kernel_rfl) hW.cls (Rd.pure fun _ => by kernel_rfl) ?_; clear hA ac; intro ac hA
 refine wpListIn_nil <| thenN <| wpIn_seq <| wpIn_cond_split (t := decide ((k : Int) < (l.length : Int))) (hA.eval (by kernel_rfl)) (fun h2 => ?_) (fun h2 => ?_)
 ·
  have h2 := of_decide_eq_true h2
  refine wpIn_skip <| thenN <| wpIn_seq <| wpIn_block <| wpIn_seq <| wpIn_region_lit ?_
  obtain ⟨y3, hy3⟩ : ∃ y, l[k]? = some y := ⟨_, List.getElem?_eq_getElem (by first | omega | (simp; done) | (simp; omega))⟩
  rcases y3 with ⟨y3_l, y3_l_A, y3_l_c⟩
  obtain ⟨b4, o5, rfl, hbb4⟩ := row_some ((hW).getG 1 rfl) hy3
  refine st_rdF (v := vP (some ⟨b4, o5 + k * 1, none⟩)) hA (by kernel_rfl) (by kernel_rfl) (by kernel_rfl) (by kernel_rfl) hW.cls (Rd.indexAddr (e := 81) (sz := 1) (b := b4) (off := o5) (n := l.length) (c := c) (k := k) (by kernel_rfl) (by kernel_rfl) (by first | omega | (simp; done) | (simp; omega)) (fun _ => by kernel_rfl) (fun _ => by kernel_rfl)) ?_; clear hA ac; intro ac hA
  refine st_rdF (v := vS y3_l_A y3_l.length y3_l_c) hA (by kernel_rfl) (by kernel_rfl) (by kernel_rfl) (by kernel_rfl) hW.cls (Rd.loadRow (b := b4) (i := o5 + k * 1) (xs := [vS y3_l_A y3_l.length y3_l_c]) (by kernel_rfl) (fun _ hw => row_ld ((hw.1).getG 1 rfl) hy3 (Fr.refl No _) (fun h => h) 0 1 (by kernel_rfl)) (by kernel_rfl)) ?_; clear hA ac; intro ac hA
  refine st_rdF (v := vS y3_l_A y3_l.length y3_l_c) hA (by kernel_rfl) (by kernel_rfl) (by kernel_rfl) (by kernel_rfl) hW.cls (Rd.pure fun _ => by kernel_rfl) ?_; clear hA ac; intro ac hA
  refine wpListIn_nil <| thenN <| wpIn_seq <| wpIn_region_lit <| st_rdF (v := vF (.yield l_) #[] #[]) hA (by kernel_rfl) (by kernel_rfl) (by kernel_rfl) (by kernel_rfl) hW.cls (Rd.pure fun _ => by kernel_rfl) ?_; clear hA ac; intro ac hA
  refine st_rdF (v := vS y3_l_A y3_l.length y3_l_c) hA (by kernel_rfl) (by kernel_rfl) (by kernel_rfl) (by kernel_rfl) hW.cls (Rd.pure fun _ => by kernel_rfl) ?_; clear hA ac; intro ac hA
  refine stF hA (by kernel_rfl) (by kernel_rfl) (by kernel_rfl) (by kernel_rfl) (RunsF.yield hR_ (l.take k) ((⟨y3_l, y3_l_A, y3_l_c⟩ : SV)) (fun _ => by kernel_rfl) hW 0 rfl (comes_atL hy3) (hJ) hW.fr (hW.may _ (List.mem_of_getElem? (i := 0) rfl)) ?_); clear hA ac hW; intro v6 r7 w8 hv6t hv6f hW ac hA
  refine st_rdF (v := vB (!v6)) hA (by kernel_rfl) (by kernel_rfl) (by kernel_rfl) (by kernel_rfl) hW.cls (Rd.pure fun _ => by kernel_rfl) ?_; clear hA ac; intro ac hA
  refine wpListIn_nil <| thenN <| wpIn_cond_split (t := !v6) (hA.eval (by kernel_rfl)) (fun h9 => ?_) (fun h9 => ?_)
  ·
   have h9 := not_t h9
   refine wpIn_ret <| blkR <| thenR <| thenR <| blkR <| retF (.inl rfl) hA <| leave0 (by rfl)  ?_
   clear hA
   exact ranDone hW 0 rfl (.inr ⟨_, hv6f h9⟩)
  have h9 := not_f h9
  refine wpIn_skip <| blkN <| thenN <| wpIn_region_lit <| st_rdF (v := vI .i64 ((k + 1 : Nat) : Int)) hA (by kernel_rfl) (by kernel_rfl) (by kernel_rfl) (by kernel_rfl) hW.cls (Rd.pureE (v0 := vI .i64 (IntKind.i64.wrap ((k : Int) + 1))) (fun _ => by kernel_rfl) (congrArg (vI .i64) ((w_i64 (x := (k : Int) + 1) (by omega) (by omega)).trans (by omega)))) ?_; clear hA ac; intro ac hA
  refine st_rdF (v := vI .i64 ((k + 1 : Nat) : Int)) hA (by kernel_rfl) (by kernel_rfl) (by kernel_rfl) (by kernel_rfl) hW.cls (Rd.pure fun _ => by kernel_rfl) ?_; clear hA ac; intro ac hA
  refine wpListIn_nil <| thenN ?_
  have hJn := hv6t h9; rw [← tk_snoc hy3] at hJn
  exact ⟨l.length - (k + 1), by omega, k + 1, r7, rfl, by omega, by exact hJn, hA.sub (by and_intros <;> first | kernel_rfl | trivial), (hW.pick [0] (by decide) rfl).pickG [0, 1] rfl⟩
 have h2 := of_decide_eq_false h2
 refine wpIn_exit <| thenX <| thenX <| blkX <| retF (.inr rfl) hA <| leave0 (by rfl)  ?_
 clear hA
 rw [List.take_of_length_le (by omega)] at hJ; exact ranDone hW 0 rfl (.inl ⟨_, rfl, hJ⟩)

set_option maxRecDepth 100000 in
theorem e_values_SV (A_l : Option Addr) (c_l : Nat) (l : List SV) (w : World) (hr_l : RowAt w A_l 1 enSV l) (hc_l : l.length ≤ c_l) (hn_l : (nestR innerSV l).p w) (hk_l : ∀ x_ ∈ l, capSV x_) (hl : l.length ≤ 1000000) : Calls Tryz.prog 128 #[vS A_l l.length c_l] w (fun e w' => ∃ (lb : Array Value) (g : Res), e = .returned (vF (.func 143) #[] lb) ∧ Iter Tryz.prog 143 lb (fun x_ : SV => #[vS x_.l_A x_.l.length x_.l_c]) (· = l) [g] ∧ g.from_ [roR A_l 1 enSV l] w w' ∧ Fr No w w') := by
 have _hu := hc_l; have _hv := hr_l; clear _hu _hv
 have _hu := hk_l; have _hv := hn_l; clear _hu _hv
 have _hu := hl; clear _hu
 refine enter_E 4 Tryz.func128 rfl rfl (by kernel_rfl) (L := [(0, vS A_l l.length c_l)]) (by kernel_rfl) ?_
 intro ac hA
 have hW := Ws.start w No
 have hW := hW.arg hr_l
 have hW := hW.addG _ hn_l (nest_ltSV hn_l) (by simp)
 refine wr <| st_s hA (Runs.cells (fun b => pA b 0) #[vS A_l l.length c_l] 184 (fun _ => by kernel_rfl) hW ?_); clear hA ac hW; intro b1 w2 hW hb1 hfw2 ac hA
 refine st_p (Value.nilFunc) hA ?_; clear hA ac; intro ac hA
 refine wn <| wr <| st_p (vF (.func 143) #[] #[pA b1 0]) hA fun ac hA => st_p (vF (.func 143) #[] #[pA b1 0]) hA fun ac hA => wn <| wp_ret <| r1 (vF (.func 143) #[] #[pA b1 0]) hA ?_
 clear hA
 exact ⟨_, _, rfl, iter_many (it_143 b1 _ _ l hc_l hl), from_many (froms_cons (hW.outOwn 0 rfl (fun _ h => h)) (froms_cons (hW.outArg 1 rfl (.head _)) froms_nil)), hW.fr⟩

set_option maxRecDepth 100000 in
theorem e_folded (A_l : Option Addr) (c_l : Nat) (l : List SV) (w : World) (hr_l : RowAt w A_l 1 enSV l) (hc_l : l.length ≤ c_l) (hn_l : (nestR innerSV l).p w) (hk_l : ∀ x_ ∈ l, capSV x_) (hl : l.length ≤ 1000) (hx : ∀ x ∈ l, x.l.length ≤ 100000) : Calls Tryz.prog 107 #[vS none 0 0, vS A_l l.length c_l, vF (.func 108) #[] #[]] w (Fresh 29 1 enU8 (foldJ l) w) := by
 have _hu := hc_l; have _hv := hr_l; clear _hu _hv
 have _hu := hk_l; have _hv := hn_l; clear _hu _hv
 have _hu := hl; clear _hu
 have _hu := hx; clear _hu
 refine enter_F 16 Tryz.func107 rfl rfl (by kernel_rfl) (L := [(0, vS none 0 0), (1, vS A_l l.length c_l), (2, vF (.func 108) #[] #[])]) (by kernel_rfl) ?_
 intro ac hA
 have hW := Ws.start w No
 have hW := hW.arg hr_l
 have hW := hW.addG _ hn_l (nest_ltSV hn_l) (by simp)
 refine wpIn_seq <| wpIn_region_lit <| stF hA (by kernel_rfl) (by kernel_rfl) (by kernel_rfl) (by kernel_rfl) (RunsF.of (Runs.cells (fun b => pA b 0) #[vS none 0 0] 81 (fun _ => by kernel_rfl) hW ?_)); clear hA ac hW; intro b1 w2 hW hb1 hfw2 ac hA
 refine stF hA (by kernel_rfl) (by kernel_rfl) (by kernel_rfl) (by kernel_rfl) (RunsF.of (Runs.cells (fun b => pA b 0) #[vF (.func 108) #[] #[]] 213 (fun _ => by kernel_rfl) hW ?_)); clear hA ac hW; intro b3 w4 hW hb3 hfw4 ac hA
 refine st_rdF (v := vS none 0 0) hA (by kernel_rfl) (by kernel_rfl) (by kernel_rfl) (by kernel_rfl) hW.cls (Rd.pure fun _ => by kernel_rfl) ?_; clear hA ac; intro ac hA
 refine wpListIn_nil <| thenN <| wpIn_seq <| wpIn_seq <| wpIn_region_lit <| st_rdF (v := vS A_l l.length c_l) hA (by kernel_rfl) (by kernel_rfl) (by kernel_rfl) (by kernel_rfl) hW.cls (Rd.pure fun _ => by kernel_rfl) ?_; clear hA ac; intro ac hA
 refine stF hA (by kernel_rfl) (by kernel_rfl) (by kernel_rfl) (by kernel_rfl) (RunsF.of (Runs.call (fun _ => by kernel_rfl) (e_values_SV A_l c_l l w4 ((hW).getG 1 rfl) (by first | assumption | omega | (simp; omega) | simp) ((hW).getG 0 rfl) hk_l (by first | omega | (refine ⟨?_, ?_, ?_⟩ <;> first | omega | exact hx _ (List.mem_of_getElem? (by assumption))))) ?_))
 rintro _ w5 ⟨lb6, g7, rfl, hIg7, hfg7, hfw5⟩; refine ⟨_, rfl, ?_⟩; have hW0 := hW; have hW := hW0.call hfw5; have hW := hW0.addFromAt hW hfg7 (in_cons (in_at 1 rfl) in_nil); clear hW0 hA ac; intro ac hA
 refine wpListIn_nil <| thenN <| wpIn_block ?_
 have hW := hW.addNil 29 1 enU8
 refine wp_range (encs := (fun x_ : SV => #[vS x_.l_A x_.l.length x_.l_c])) (Sx := (· = l)) hA (by kernel_rfl) (by kernel_rfl) (enters_of Tryz.func143 (by kernel_rfl) rfl) (by kernel_rfl) (fun _ => rfl) hIg7 (List.forall_mem_singleton.2 (List.mem_of_getElem? (i := 0) rfl)) (fun pre_ H_ => ∃ k : Nat, ∃ d : List Int, ∃ A : Option Addr, ∃ c : Nat, pre_ = l.take k ∧ k ≤ l.length ∧ (d = foldJ (l.take k)) ∧ (d.length ≤ 100000) ∧ (d.length ≤ c) ∧ H_ = [Cel b1 #[vS A d.length c] 81, Cel b3 #[vF (.func 108) #[] #[]] 213, rowR 29 1 enU8 (vS A d.length c) d]) (fun _ _ _ => False) (H := [Cel b1 #[vS none 0 0] 81, Cel b3 #[vF (.func 108) #[] #[]] 213, rowR 29 1 enU8 (vS none 0 0) ([] : List Int)]) (K := []) (hW.pick [2, 1, 0] (by decide) rfl) ⟨0, [], none, 0, rfl, Nat.zero_le _, by rfl, by simp, by simp, rfl⟩ ?_ ?_ ?_
 ·
  clear hA ac hW; intro l_8 rd_8 bs_8 pre_ x_ Hk_ w9 T_8 ac hrd_8 hbs_8 hbr_8 hok_ hJ_ hA hW hB_8 hT_8
  obtain ⟨k, d, A, c, rfl, hk_, hd, hdl, hdc, rfl⟩ := hJ_
  obtain ⟨y10, h_⟩ : ∃ y_, y_ = x_ := ⟨_, rfl⟩; subst h_; obtain ⟨hy10, hlty10, hsny10⟩ := comes_list hok_ hk_
  replace hA : Fm 16 [] [(0, vS none 0 0), (1, vS A_l l.length c_l), (2, vF (.func 108) #[] #[]), (3, pA b1 0), (5, pA b3 0), (6, vS none 0 0), (8, vS A_l l.length c_l), (9, vF (.func 143) #[] lb6), (10, vS y10.l_A y10.l.length y10.l_c)] ac := hA.sub (by and_intros <;> first | kernel_rfl | trivial)
  have hW := hW.nestAt 1 rfl (List.mem_of_getElem? hy10)
  have hc_y10_l : y10.l.length ≤ y10.l_c := hk_l _ (List.mem_of_getElem? hy10)
  replace hW : Ws w9 T_8 [rd_8, Cel b1 #[vS A d.length c] 81, Cel b3 #[vF (.func 108) #[] #[]] 213, rowR 29 1 enU8 (vS A d.length c) d] [roR y10.l_A 1 enU8 y10.l, g7, nestR innerSV l, roR A_l 1 enSV l] w9 := hW
  refine wpIn_region_lit <| st_rdF (v := vS y10.l_A y10.l.length y10.l_c) hA (by kernel_rfl) (by kernel_rfl) (by kernel_rfl) (by kernel_rfl) hW.cls (Rd.pure fun _ => by kernel_rfl) ?_; clear hA ac; intro ac hA
  refine wpListIn_nil <| thenN <| begun (bs := bs_8) (H' := [bs_8, Cel b1 #[vS A d.length c] 81, Cel b3 #[vF (.func 108) #[] #[]] 213, rowR 29 1 enU8 (vS A d.length c) d]) hW 0 rfl (fun b hb => by rw [hbs_8] at hb; rw [hrd_8]; exact hb) rfl ?_; clear hW; intro w11 hW
  refine wpIn_block <| wpIn_region_lit <| st_rdF (v := vF (.func 108) #[] #[]) hA (by kernel_rfl) (by kernel_rfl) (by kernel_rfl) (by kernel_rfl) hW.cls (rl b3 0 2) ?_; clear hA ac; intro ac hA
  refine st_rdF (v := vS A d.length c) hA (by kernel_rfl) (by kernel_rfl) (by kernel_rfl) (by kernel_rfl) hW.cls (rl b1 0 1) ?_; clear hA ac; intro ac hA
  refine st_rdF (v := vS y10.l_A y10.l.length y10.l_c) hA (by kernel_rfl) (by kernel_rfl) (by kernel_rfl) (by kernel_rfl) hW.cls (Rd.pure fun _ => by kernel_rfl) ?_; clear hA ac; intro ac hA
  refine stF hA (by kernel_rfl) (by kernel_rfl) (by kernel_rfl) (by kernel_rfl) (RunsF.of (Runs.call (fun _ => by kernel_rfl) (e_join1 A c d y10.l_A y10.l_c y10.l w11 ((hW).get 3 rfl) ((hW).lt _ (List.mem_of_getElem? (i := 3) rfl)) ((hW).getG 0 rfl) (by first | assumption | omega | (simp; omega) | simp) ((hW).gd _ (List.mem_of_getElem? (i := 0) rfl) _ (List.mem_of_getElem? (i := 3) rfl)) (by first | omega | (refine ⟨?_, ?_, ?_⟩ <;> first | omega | exact hx _ (List.mem_of_getElem? (by assumption))))) ?_))
  rintro _ w12 ⟨u13, u14, u15, rfl, hw12_hJ, hw12_hC, hu_⟩; refine ⟨_, rfl, ?_⟩; replace hW := hW.upd (H' := [bs_8, Cel b1 #[vS A d.length c] 81, Cel b3 #[vF (.func 108) #[] #[]] 213, rowR 29 1 enU8 (vS u13 u15.length u14) u15]) 3 rfl hu_ rfl; clear hA ac; intro ac hA
  refine stF hA (by kernel_rfl) (by kernel_rfl) (by kernel_rfl) (by kernel_rfl) (RunsF.of (Runs.store (v := vS u13 u15.length u14) (b := b1) (j := 0) (n := 1) (cs' := #[vS u13 u15.length u14]) (H' := [bs_8, Cel b1 #[vS u13 u15.length u14] 81, Cel b3 #[vF (.func 108) #[] #[]] 213, rowR 29 1 enU8 (vS u13 u15.length u14) u15]) (by kernel_rfl) (by kernel_rfl) (by kernel_rfl) (by kernel_rfl) (by kernel_rfl) hW 1 (by rfl) (Nat.le_of_ble_eq_true (by kernel_rfl)) (by kernel_rfl) (by rfl) ?_)); clear hA ac hW; intro w16 hW ac hA
  refine wpListIn_nil <| blkN ?_
  exact ⟨_, ⟨k + 1, u15, u13, u14, hsny10, hlty10, by rw [foldJ_snoc hy10, ← hd]; exact hw12_hJ, by rw [hw12_hJ, joinC_len]; have := hx _ (List.mem_of_getElem? hy10); omega, by exact hw12_hC, rfl⟩, (hW.pick [0, 1, 2, 3] (by decide) rfl).pickG [1, 2, 3] rfl⟩
 ·
  clear hA ac hW; intro D17 xs_ Hk_ w18 ac hS_ hJ_ hA hW
  obtain ⟨k, d, A, c, hpre_, hk_, hd, hdl, hdc, rfl⟩ := hJ_
  have hke : k = l.length := by have := congrArg List.length (hS_.symm.trans hpre_); simp at this; omega
  clear hpre_ hS_
  replace hW : Ws w No [Cel b1 #[vS A d.length c] 81, Cel b3 #[vF (.func 108) #[] #[]] 213, rowR 29 1 enU8 (vS A d.length c) d, DefR D17] [g7, nestR innerSV l, roR A_l 1 enSV l] w18 := hW
  refine blkN <| thenN <| wpIn_seq <| wpIn_region_lit <| st_rdF (v := vS A d.length c) hA (by kernel_rfl) (by kernel_rfl) (by kernel_rfl) (by kernel_rfl) hW.cls (rl b1 0 0) ?_; clear hA ac; intro ac hA
  refine st_rdF (v := vS A d.length c) hA (by kernel_rfl) (by kernel_rfl) (by kernel_rfl) (by kernel_rfl) hW.cls (Rd.pure fun _ => by kernel_rfl) ?_; clear hA ac; intro ac hA
  refine wpListIn_nil <| thenN <| wpIn_ret <| retF (.inl rfl) hA <| leaveD (H' := [Cel b1 #[vS A d.length c] 81, Cel b3 #[vF (.func 108) #[] #[]] 213, rowR 29 1 enU8 (vS A d.length c) d]) hW 3 rfl rfl ?_; clear hW; intro w19 hW
  refine leave1 (v := vS A d.length c) (by rfl) (GotF.tmp hA (by kernel_rfl) (by kernel_rfl)) ?_
  clear hA
  rw [List.take_of_length_le (by omega)] at hd; subst hd; exact ⟨_, rfl, hW.fresh 2 rfl (fun _ h => h), hW.fr⟩
 ·
  clear hA ac hW; intro D20 c_ pre_ Hk_ w21 ac hJ_ hA hW
  exact hJ_.elim

set_option maxRecDepth 100000 in
theorem e_vjoin (A_l : Option Addr) (c_l : Nat) (l : List SV) (w : World) (hr_l : RowAt w A_l 1 enSV l) (hc_l : l.length ≤ c_l) (hn_l : (nestR innerSV l).p w) (hk_l : ∀ x_ ∈ l, capSV x_) (hl : l.length ≤ 1000) (hx : ∀ x ∈ l, x.l.length ≤ 100000) (hf : (foldJ l).length ≤ 100000) : Calls Tryz.prog 69 #[vS A_l l.length c_l] w (fun e w' => ∃ O_ : List Int, ∃ (A_o : Option Addr) (c_o : Nat), e = .returned (vS A_o O_.length c_o) ∧ (O_ = trimC (foldJ l)) ∧ O_.length ≤ c_o ∧ (roR A_o 1 enU8 O_).from_ [roR A_l 1 enSV l, nestR innerSV l] w w' ∧ Fr No w w') := by
 have _hu := hc_l; have _hv := hr_l; clear _hu _hv
 have _hu := hk_l; have _hv := hn_l; clear _hu _hv
 have _hu := hl; clear _hu
 have _hu := hx; clear _hu
 have _hu := hf; clear _hu
 refine enter_E 6 Tryz.func69 rfl rfl (by kernel_rfl) (L := [(0, vS A_l l.length c_l)]) (by kernel_rfl) ?_
 intro ac hA
 have hW := Ws.start w No
 have hW := hW.arg hr_l
 have hW := hW.addG _ hn_l (nest_ltSV hn_l) (by simp)
 refine wr <| st_p (vS none 0 0) hA ?_; clear hA ac; intro ac hA
 refine wn <| wr <| st_p (vS A_l l.length c_l) hA ?_; clear hA ac; intro ac hA
 refine st_s hA (Runs.callRow (E := 29) (sz := 1) (en := enU8) (l := (foldJ l)) (fun _ => by kernel_rfl) hW (e_folded A_l c_l l w ((hW).getG 1 rfl) (by first | assumption | omega | (simp; omega) | simp) ((hW).getG 0 rfl) hk_l (by first | omega | assumption) (by first | omega | assumption)) ?_); clear hA ac hW; intro A2 c3 w1 hW hcc3 hfw1 ac hA
 have hsro_row4 : Res.src (roR A2 1 enU8 (foldJ l)) [roR A_l 1 enSV l, nestR innerSV l] w := fun b_ hb_ => .inr ((hW.may _ (List.mem_of_getElem? (i := 0) rfl) b_ (rowR_fp b_ hb_)).resolve_left (fun h_ => h_))
 have hW := hW.share 0 rfl (H' := []) rfl
 have hW := hW.nestG (roR A2 1 enU8 (foldJ l)) (rowR_at (E := 29) (hW.getG 0 rfl) elt_U8.len) (fun _ hb_ => ⟨_, List.mem_of_getElem? (i := 0) rfl, rowR_fp _ hb_⟩)
 refine st_s hA (Runs.call (fun _ => by kernel_rfl) (e_vtrim A2 c3 (foldJ l) w1 ((hW).getG 0 rfl) (by first | assumption | omega | (simp; omega) | simp) (by first | omega | assumption)) ?_)
 rintro _ w5 ⟨g6, Ao7, co8, rfl, hw5_hO, hcco8, hfco8, hfw5⟩; refine ⟨_, rfl, ?_⟩; have hW0 := hW; have hW := hW0.call hfw5
 have hW := hW0.addFromAt hW hfco8 (in_cons (in_at 0 rfl) in_nil)
 have hsco8 : Res.src (roR Ao7 1 enU8 g6) [roR A_l 1 enSV l, nestR innerSV l] w := src_call hfco8 (srcs_cons hsro_row4 srcs_nil) hW0.fr.size
 clear hW0 hA ac; intro ac hA
 refine st_p (vS Ao7 g6.length co8) hA ?_; clear hA ac; intro ac hA
 refine wn <| wp_ret <| r1 (vS Ao7 g6.length co8) hA ?_
 clear hA
 exact ⟨g6, Ao7, co8, by first | rfl | (simp; done), by exact hw5_hO, (by first | assumption | omega | (simp; omega) | simp), (hW.outSrc 0 rfl hsco8), hW.fr⟩

set_option maxRecDepth 100000 in
theorem e_vtick (A_c : Option Addr) (c_c : Nat) (c : List Int) (id : Int) (en : Int) (w : World) (hr_c : RowAt w A_c 1 enU8 c) (hc_c : c.length ≤ c_c) (hl : c.length ≤ 100000) (hid : -9223372036854775808 ≤ id ∧ id ≤ 9223372036854775807) (hcc : ∀ n ∈ c, 0 ≤ n ∧ n ≤ 18446744073709551615) (hen : 0 ≤ en ∧ en ≤ 18446744073709551615) : Calls Tryz.prog 111 #[vS A_c c.length c_c, vI .i64 id, vI .u64 en] w (fun e w' => ∃ O_ : List Int, ∃ er : Int, ∃ (A_o : Option Addr) (c_o : Nat), e = .returned (vT #[vS A_o O_.length c_o, vI .i64 er]) ∧ ((O_, er) = tickC c id en) ∧ O_.length ≤ c_o ∧ (roR A_o 1 enU8 O_).from_ [roR A_c 1 enU8 c] w w' ∧ Fr No w w') := by
 have _hu := hc_c; have _hv := hr_c; clear _hu _hv
 have _hu := hl; clear _hu
 have _hu := hid; clear _hu
 have _hu := hcc; clear _hu
 have _hu := hen; clear _hu
 refine enter_E 46 Tryz.func111 rfl rfl (by kernel_rfl) (L := [(0, vS A_c c.length c_c), (1, vI .i64 id), (2, vI .u64 en)]) (by kernel_rfl) ?_
 intro ac hA
 have hW := Ws.start w No
 have hW := hW.arg hr_c
 refine wr <| st_p (vS none 0 0) hA fun ac hA => st_p (vI .i64 0) hA fun ac hA => wn <| wp_fwd (l := 0) rfl <| wr <| st_p (vI .u64 0) hA fun ac hA => st_p (vI .u64 0) hA fun ac hA => wn <| wp_seq <| wr <| st_p (vS A_c c.length c_c) hA fun ac hA => st_p (vI .i64 id) hA fun ac hA => st_s hA (Runs.callN (v := vT #[vI .u64 (epochV c (id)), vI .i64 (epochE c (id))]) (fun _ => by kernel_rfl) hW (e_vepoch A_c c_c c (id) w ((hW).getG 0 rfl) (by first | assumption | omega | (simp; omega) | simp) (by first | omega | assumption | exact epochV_rng (by omega) hcc | (have := epochV_rng (by omega) hcc; omega) | (rw [if_pos (by omega)]; omega)) (by first | omega | assumption | exact epochV_rng (by omega) hcc | (have := epochV_rng (by omega) hcc; omega) | (rw [if_pos (by omega)]; omega)) (by first | omega | assumption | exact epochV_rng (by omega) hcc | (have := epochV_rng (by omega) hcc; omega) | (rw [if_pos (by omega)]; omega))) ?_); clear hA ac hW; intro w1 hW hfw1 ac hA
 refine st_p (vT #[vI .u64 (epochV c (id)), vI .i64 (epochE c (id))]) hA fun ac hA => st_p (vI .u64 (epochV c (id))) hA fun ac hA => st_p (vI .i64 (epochE c (id))) hA fun ac hA => st_p (vI .u64 (epochV c (id))) hA fun ac hA => st_p (vI .i64 (epochE c (id))) hA fun ac hA => wn <| wr <| st_p (vI .i64 (epochE c (id))) hA fun ac hA => st_p (vB ((epochE c (id) : Int) != (0 : Int))) hA fun ac hA => wn <| wp_cond_split (t := (epochE c (id) : Int) != (0 : Int)) (hA.eval (by kernel_rfl)) (fun h2 => ?_) (fun h2 => ?_)
 ·
  have h2 := bne_iff_ne.1 h2
  refine wp_goto <| thenG <| fwdG <| wp_seq <| wp_skip <| thenN <| wr <| st_p (vI .i64 (epochE c (id))) hA fun ac hA => st_p (vS none 0 0) hA fun ac hA => st_p (vI .i64 (epochE c (id))) hA fun ac hA => wn <| wp_ret <| nogR <| ret2 (v1 := vS none 0 0) (v2 := vI .i64 (epochE c (id))) (by rfl) hA (Got.tmp hA (by kernel_rfl) (by kernel_rfl)) (Got.tmp hA (by kernel_rfl) (by kernel_rfl)) ?_
  clear hA
  exact ⟨[], epochE c (id), none, 0, by first | rfl | (simp; done), by unfold tickC; rw [if_pos (by omega)], (by simp), from_nil, hW.fr⟩
 have h2 := of_bne_f h2
 refine wp_skip <| thenN <| wp_seq <| wr <| st_p (vI .u64 (epochV c (id))) hA fun ac hA => st_p (vI .u64 en) hA fun ac hA => st_s hA (Runs.callN (v := vT #[vI .u64 (if nextErr (epochV c (id)) (en) = 0 then (epochV c (id)) + 1 else 0), vI .i64 (nextErr (epochV c (id)) (en))]) (fun _ => by kernel_rfl) hW (e_next (epochV c (id)) (en) w1 (by first | omega | assumption | exact epochV_rng (by omega) hcc | (have := epochV_rng (by omega) hcc; omega) | (rw [if_pos (by omega)]; omega)) (by first | omega | assumption | exact epochV_rng (by omega) hcc | (have := epochV_rng (by omega) hcc; omega) | (rw [if_pos (by omega)]; omega))) ?_); clear hA ac hW; intro w3 hW hfw3 ac hA
 refine st_p (vT #[vI .u64 (if nextErr (epochV c (id)) (en) = 0 then (epochV c (id)) + 1 else 0), vI .i64 (nextErr (epochV c (id)) (en))]) hA fun ac hA => st_p (vI .u64 (if nextErr (epochV c (id)) (en) = 0 then (epochV c (id)) + 1 else 0)) hA fun ac hA => st_p (vI .i64 (nextErr (epochV c (id)) (en))) hA fun ac hA => st_p (vI .u64 (if nextErr (epochV c (id)) (en) = 0 then (epochV c (id)) + 1 else 0)) hA fun ac hA => st_p (vI .i64 (nextErr (epochV c (id)) (en))) hA fun ac hA => wn <| wr <| st_p (vI .i64 (nextErr (epochV c (id)) (en))) hA fun ac hA => st_p (vB ((nextErr (epochV c (id)) (en) : Int) != (0 : Int))) hA fun ac hA => wn <| wp_cond_split (t := (nextErr (epochV c (id)) (en) : Int) != (0 : Int)) (hA.eval (by kernel_rfl)) (fun h4 => ?_) (fun h4 => ?_)
 ·
  have h4 := bne_iff_ne.1 h4
  refine wp_goto <| thenG <| fwdG <| wp_seq <| wp_skip <| thenN <| wr <| st_p (vI .i64 (nextErr (epochV c (id)) (en))) hA fun ac hA => st_p (vS none 0 0) hA fun ac hA => st_p (vI .i64 (nextErr (epochV c (id)) (en))) hA fun ac hA => wn <| wp_ret <| nogR <| ret2 (v1 := vS none 0 0) (v2 := vI .i64 (nextErr (epochV c (id)) (en))) (by rfl) hA (Got.tmp hA (by kernel_rfl) (by kernel_rfl)) (Got.tmp hA (by kernel_rfl) (by kernel_rfl)) ?_
  clear hA
  exact ⟨[], nextErr (epochV c (id)) (en), none, 0, by first | rfl | (simp; done), by unfold tickC; rw [if_neg (by simp; omega), if_pos (by omega)], (by simp), from_nil, hW.fr⟩
 have h4 := of_bne_f h4
 refine wp_skip <| thenN <| wr <| st_p (vS A_c c.length c_c) hA ?_; clear hA ac; intro ac hA
 refine st_s hA (Runs.callRow (E := 29) (sz := 1) (en := enU8) (l := c) (fun _ => by kernel_rfl) hW (e_vclone A_c c_c c w3 ((hW).getG 0 rfl) (by first | assumption | omega | (simp; omega) | simp) (by first | omega | assumption | exact epochV_rng (by omega) hcc | (have := epochV_rng (by omega) hcc; omega) | (rw [if_pos (by omega)]; omega))) ?_); clear hA ac hW; intro A6 c7 w5 hW hcc7 hfw5 ac hA
 refine st_p (vS A6 c.length c7) hA ?_; clear hA ac; intro ac hA
 refine wn <| wp_seq <| wp_block ?_
 have hep_ := epoch_ok (by omega) hcc
 refine wp_loop_m (fun m_ ac_ wl_ => ∃ k : Nat, ∃ d : List Int, ∃ A : Option Addr, ∃ cc : Nat, m_ = id.toNat + 1 - k ∧ (d = c ++ List.replicate k 0) ∧ (d.length = c.length + k) ∧ (d.length ≤ cc) ∧ (k = 0 ∨ ((c.length + k : Nat) : Int) ≤ id + 1) ∧ Fm 46 [] [(1, vI .i64 id), (6, vS A d.length cc), (9, vI .u64 (if nextErr (epochV c (id)) (en) = 0 then (epochV c (id)) + 1 else 0))] ac_ ∧ Ws w No [rowR 29 1 enU8 (vS A d.length cc) d] [roR A_c 1 enU8 c] wl_) _ ⟨0, c, A6, c7, rfl, by simp, by omega, by omega, by omega, hA.sub (by and_intros <;> first | kernel_rfl | trivial), (hW.pick [0] (by decide) rfl).pickG [0] rfl⟩ ?_
 clear hA ac hW; rintro m_ ac w9 ⟨k, d, A, cc, rfl, hd, hdl, hdc, hk, hA, hW⟩
 refine wp_seq <| wr <| st_p (vS A d.length cc) hA fun ac hA => st_p (vI .i64 (d.length : Int)) hA fun ac hA => st_p (vI .i64 id) hA fun ac hA => st_p (vB (decide ((d.length : Int) ≤ (id : Int)))) hA fun ac hA => wn <| wp_cond_split (t := decide ((d.length : Int) ≤ (id : Int))) (hA.eval (by kernel_rfl)) (fun h10 => ?_) (fun h10 => ?_)
 ·
  have h10 := of_decide_eq_true h10
  refine wp_skip <| thenN <| wp_block <| wp_region_lit <| st_p (vS A d.length cc) hA ?_; clear hA ac; intro ac hA
  refine st_s hA (Runs.cells (fun b => vS (some ⟨b, 0, none⟩) 1 1) #[vI .u64 0] 29 (fun _ => by kernel_rfl) hW ?_); clear hA ac hW; intro b11 w12 hW hb11 hfw12 ac hA
  refine st_s hA (Runs.appOwn (B := (some ⟨b11, 0, none⟩)) (k := 1) (E := 29) (sz := 1) (en := enU8) (l := d) (m := ([0] : List Int)) (i := 1) (by kernel_rfl) (by kernel_rfl) elt_U8 (by kernel_rfl) hW rfl (rowAt_cel ((hW).cel 0 rfl) ([0] : List Int) (by rfl) elt_U8.len) (by first | omega | (simp; done) | (simp; omega)) (by first | omega | (simp; done) | (simp; omega)) ?_); clear hA ac hW; intro A13 c14 w15 hW hcc14 ac hA
  refine st_p (vS A13 (d ++ ([0] : List Int)).length c14) hA ?_; clear hA ac; intro ac hA
  refine wpList_nil <| blkN <| thenN ?_
  have el_ : (d ++ ([0] : List Int)).length = (d ++ [0]).length := rfl
  exact ⟨id.toNat + 1 - (k + 1), by omega, k + 1, d ++ ([0] : List Int), A13, c14, rfl, by rw [hd, pad_step], by simp; omega, by exact hcc14, by omega, hA.sub (by and_intros <;> first | kernel_rfl | trivial), (hW.pick [1] (by decide) rfl).pickG [0] rfl⟩
 have h10 := of_decide_eq_false h10
 refine wp_exit <| thenX <| thenX <| blkX <| thenN <| wp_seq ?_
 have hpd_ := pad_done (c := c) (k := k) (id := id) (by omega) hk (by omega); rw [← hd] at hpd_; have hnx_ := next_ok (ep := epochV c id) (en := en) (by omega)
 refine wp_region_lit <| st_p (vS A d.length cc) hA fun ac hA => st_p (vI .i64 id) hA fun ac hA => st_p (vI .u64 (if nextErr (epochV c (id)) (en) = 0 then (epochV c (id)) + 1 else 0)) hA fun ac hA => st_s hA (Runs.callN (v := vT #[vI .i64 ((((if nextErr (epochV c (id)) (en) = 0 then (epochV c (id)) + 1 else 0)) : Int) / 281474976710656), vI .u64 ((((if nextErr (epochV c (id)) (en) = 0 then (epochV c (id)) + 1 else 0)) : Int) % 281474976710656)]) (fun _ => by kernel_rfl) hW (e_eparts ((if nextErr (epochV c (id)) (en) = 0 then (epochV c (id)) + 1 else 0)) w9 (by first | omega | assumption | exact epochV_rng (by omega) hcc | (have := epochV_rng (by omega) hcc; omega) | (rw [if_pos (by omega)]; omega))) ?_); clear hA ac hW; intro w16 hW hfw16 ac hA
 refine st_p (vT #[vI .i64 ((((if nextErr (epochV c (id)) (en) = 0 then (epochV c (id)) + 1 else 0)) : Int) / 281474976710656), vI .u64 ((((if nextErr (epochV c (id)) (en) = 0 then (epochV c (id)) + 1 else 0)) : Int) % 281474976710656)]) hA fun ac hA => st_p (vI .i64 ((((if nextErr (epochV c (id)) (en) = 0 then (epochV c (id)) + 1 else 0)) : Int) / 281474976710656)) hA fun ac hA => st_p (vI .u64 ((((if nextErr (epochV c (id)) (en) = 0 then (epochV c (id)) + 1 else 0)) : Int) % 281474976710656)) hA fun ac hA => ?_
 obtain ⟨y17, hy17⟩ : ∃ y, d[Int.toNat (id)]? = some y := ⟨_, List.getElem?_eq_getElem (by first | omega | (simp; done) | (simp; omega))⟩
 obtain ⟨b18, o19, rfl, hbb18⟩ := row_some (rowR_at ((hW).get 0 rfl) elt_U8.len) hy17
 refine st_q (vP (some ⟨b18, o19 + (Int.toNat (id)) * 1, none⟩)) hA hW.cls (Rd.indexAddrI (e := 29) (sz := 1) (b := b18) (off := o19) (n := d.length) (c := cc) (k := id) (by kernel_rfl) (by kernel_rfl) (by omega) (by first | omega | (simp; done) | (simp; omega)) (fun _ => by kernel_rfl) (fun _ => by kernel_rfl)) ?_; clear hA ac; intro ac hA
 refine st_s hA (Runs.storeRow (E := 29) (sz := 1) (en := enU8) (b := b18) (off := o19) (k := Int.toNat (id)) (n := d.length) (c := cc) (v := vI .u64 ((((if nextErr (epochV c (id)) (en) = 0 then (epochV c (id)) + 1 else 0)) : Int) % 281474976710656)) ((((if nextErr (epochV c (id)) (en) = 0 then (epochV c (id)) + 1 else 0)) : Int) % 281474976710656 : Int) elt_U8 (by kernel_rfl) (by kernel_rfl) (by kernel_rfl) (by kernel_rfl) hW (i := 0) rfl (by first | omega | (simp; done) | (simp; omega)) (by first | rfl | omega | (simp; done) | (simp; omega)) ?_); clear hA ac hW; intro w20 hW ac hA
 refine wn <| wp_seq <| wp_seq ?_
 have el_ : d.length = (List.set d (Int.toNat (id)) ((((if nextErr (epochV c (id)) (en) = 0 then (epochV c (id)) + 1 else 0)) : Int) % 281474976710656 : Int)).length := by simp
 rw [el_] at hA hW
 have eq_ := el_.symm.trans hdl
 refine wp_region_lit <| st_p (vS (some ⟨b18, o19, none⟩) (List.set d (Int.toNat (id)) ((((if nextErr (epochV c (id)) (en) = 0 then (epochV c (id)) + 1 else 0)) : Int) % 281474976710656 : Int)).length cc) hA ?_; clear hA ac; intro ac hA
 have hsro_row8 : Res.src (roR (some ⟨b18, o19, none⟩) 1 enU8 (List.set d (Int.toNat (id)) ((((if nextErr (epochV c (id)) (en) = 0 then (epochV c (id)) + 1 else 0)) : Int) % 281474976710656 : Int))) [roR A_c 1 enU8 c] w := fun b_ hb_ => .inr ((hW.may _ (List.mem_of_getElem? (i := 0) rfl) b_ (rowR_fp b_ hb_)).resolve_left (fun h_ => h_))
 have hW := hW.share 0 rfl (H' := []) rfl
 have hW := hW.nestG (roR (some ⟨b18, o19, none⟩) 1 enU8 (List.set d (Int.toNat (id)) ((((if nextErr (epochV c (id)) (en) = 0 then (epochV c (id)) + 1 else 0)) : Int) % 281474976710656 : Int))) (rowR_at (E := 29) (hW.getG 0 rfl) elt_U8.len) (fun _ hb_ => ⟨_, List.mem_of_getElem? (i := 0) rfl, rowR_fp _ hb_⟩)
 refine st_s hA (Runs.call (fun _ => by kernel_rfl) (e_vtrim (some ⟨b18, o19, none⟩) cc (List.set d (Int.toNat (id)) ((((if nextErr (epochV c (id)) (en) = 0 then (epochV c (id)) + 1 else 0)) : Int) % 281474976710656 : Int)) w20 ((hW).getG 0 rfl) (by first | assumption | omega | (simp; omega) | simp) (by first | omega | assumption | exact epochV_rng (by omega) hcc | (have := epochV_rng (by omega) hcc; omega) | (rw [if_pos (by omega)]; omega))) ?_)
 rintro _ w21 ⟨g22, Ao23, co24, rfl, hw21_hO, hcco24, hfco24, hfw21⟩; refine ⟨_, rfl, ?_⟩; have hW0 := hW; have hW := hW0.call hfw21
 have hW := hW0.addFromAt hW hfco24 (in_cons (in_at 0 rfl) in_nil)
 have hsco24 : Res.src (roR Ao23 1 enU8 g22) [roR A_c 1 enU8 c] w := src_call hfco24 (srcs_cons hsro_row8 srcs_nil) hW0.fr.size
 clear hW0 hA ac; intro ac hA
 refine st_p (vS Ao23 g22.length co24) hA fun ac hA => st_p (vI .i64 0) hA fun ac hA => wn <| wp_ret <| thenR <| fwdR <| ret2 (v1 := vS Ao23 g22.length co24) (v2 := vI .i64 0) (by rfl) hA (Got.tmp hA (by kernel_rfl) (by kernel_rfl)) (Got.tmp hA (by kernel_rfl) (by kernel_rfl)) ?_
 clear hA
 have hO2_ := hw21_hO; rw [if_pos (by omega)] at hO2_
 exact ⟨g22, 0, Ao23, co24, by first | rfl | (simp; done), by unfold tickC; rw [if_neg (by simp; omega), if_neg (by simp; omega), ← hpd_]; exact congrArg (·, (0 : Int)) hO2_, (by first | assumption | omega | (simp; omega) | simp), (hW.outSrc 0 rfl hsco24), hW.fr⟩

end Go.Proofs.YtoakhhilmnfpkaaGreatDoor.L
