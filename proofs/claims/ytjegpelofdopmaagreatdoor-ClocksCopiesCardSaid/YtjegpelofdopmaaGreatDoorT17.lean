/- Contracts, walked by program over the engine's laws. -/
import Derived.Test.YtjegpelofdopmaaGreatDoorProg
import Derived.Test.YtjegpelofdopmaaGreatDoorT12
namespace Go.Proofs.YtjegpelofdopmaaGreatDoor.L
open Go.RowKit
open Go.Value renaming int → vI, slice → vS, bool → vB, pointer → vP, func → vF, agg → vA, map → vM, tuple → vT

set_option maxRecDepth 100000 in
theorem e_r4trim (A_c : Option Addr) (c_c : Nat) (c : List Int) (w : World) (hr_c : RowAt w A_c 1 enU8 c) (hc_c : c.length ≤ c_c) (hl : c.length ≤ 100000) : Calls Tryz.prog 53 #[vS A_c c.length c_c] w (Fresh 29 1 enU8 (trimC c) w) := by
 have _hu := hc_c; have _hv := hr_c; clear _hu _hv
 have _hu := hl; clear _hu
 refine enter_E 22 Tryz.func53 rfl rfl (by kernel_rfl) (L := [(0, vS A_c c.length c_c)]) (by kernel_rfl) ?_
 intro ac hA
 have hW := Ws.start w No
 have hW := hW.arg hr_c
 refine wr <| st_p (vS none 0 0) hA ?_; clear hA ac; intro ac hA
 refine wn <| wr <| st_p (vS A_c c.length c_c) hA fun ac hA => st_p (vI .i64 (c.length : Int)) hA fun ac hA => st_p (vI .i64 (c.length : Int)) hA fun ac hA => wn <| wp_seq <| wp_block <| wp_loop_m (fun m_ ac_ wl_ => ∃ n : Nat, m_ = n + 0 * c.length ∧ (trimC (c.take n) = trimC c) ∧ (n ≤ c.length) ∧ Fm 22 [] [(0, vS A_c c.length c_c), (3, vI .i64 (n : Int))] ac_ ∧ Ws w No [] [roR A_c 1 enU8 c] wl_) _ ⟨c.length, rfl, by rw [List.take_length], by omega, hA.sub ⟨⟨by kernel_rfl, by kernel_rfl⟩, ⟨by kernel_rfl, by kernel_rfl⟩, trivial⟩, (hW.pick [] (by decide) rfl).pickG [0] rfl⟩ ?_
 clear hA ac hW; rintro m_ ac w1 ⟨n, rfl, hn, hnl, hA, hW⟩
 refine wp_seq <| wr <| st_p (vI .i64 (n : Int)) hA fun ac hA => st_p (vB (decide ((n : Int) > (0 : Int)))) hA fun ac hA => st_p (vB (decide ((n : Int) > (0 : Int)))) hA fun ac hA => ?_
 rcases Bool.eq_false_or_eq_true (decide ((n : Int) > (0 : Int))) with h2 | h2
 ·
  rw [h2] at hA
  have h2 := of_decide_eq_true h2
  refine st_p (vS A_c c.length c_c) hA fun ac hA => st_p (vI .i64 (n : Int)) hA fun ac hA => st_q (vI .i64 ((n - 1 : Nat) : Int)) hA hW.cls (Rd.pureE (v0 := vI .i64 (IntKind.i64.wrap ((n : Int) - 1))) (fun _ => by kernel_rfl) (congrArg (vI .i64) ((w_i64 (x := (n : Int) - 1) (by omega) (by omega)).trans (by omega)))) fun ac hA => ?_
  obtain ⟨y3, hy3⟩ : ∃ y, c[n - 1]? = some y := ⟨_, List.getElem?_eq_getElem (by first | omega | (simp; done) | (simp; omega))⟩
  obtain ⟨b4, o5, rfl, hbb4⟩ := row_some ((hW).getG 0 rfl) hy3
  refine st_q (vP (some ⟨b4, o5 + (n - 1) * 1, none⟩)) hA hW.cls (Rd.indexAddr (e := 29) (sz := 1) (b := b4) (off := o5) (n := c.length) (c := c_c) (k := n - 1) (by kernel_rfl) (by kernel_rfl) (by first | omega | (simp; done) | (simp; omega)) (fun _ => by kernel_rfl) (fun _ => by kernel_rfl)) fun ac hA => st_q (vI .u64 y3) hA hW.cls (Rd.loadRow (b := b4) (i := o5 + (n - 1) * 1) (xs := [vI .u64 y3]) (by kernel_rfl) (fun _ hw => row_ld ((hw.1).getG 0 rfl) hy3 (Fr.refl No _) (fun h => h) 0 1 (by kernel_rfl)) (by kernel_rfl)) fun ac hA => st_p (vB ((y3 : Int) == (0 : Int))) hA fun ac hA => st_p (vB ((y3 : Int) == (0 : Int))) hA fun ac hA => wn <| wp_cond_split (t := (y3 : Int) == (0 : Int)) (hA.eval (by kernel_rfl)) (fun h6 => ?_) (fun h6 => ?_)
  ·
   have h6 := eq_of_beq h6
   refine wp_skip <| thenN <| wp_block <| wp_region_lit <| st_p (vI .i64 (n : Int)) hA fun ac hA => st_q (vI .i64 ((n - 1 : Nat) : Int)) hA hW.cls (Rd.pureE (v0 := vI .i64 (IntKind.i64.wrap ((n : Int) - 1))) (fun _ => by kernel_rfl) (congrArg (vI .i64) ((w_i64 (x := (n : Int) - 1) (by omega) (by omega)).trans (by omega)))) fun ac hA => st_p (vI .i64 ((n - 1 : Nat) : Int)) hA fun ac hA => wpList_nil <| blkN <| thenN ?_
   exact ⟨(n - 1) + 0 * c.length, by omega, n - 1, rfl, by rw [← hn, ← trim_step (d := c.take n) (y := y3) (by rw [List.length_take, Nat.min_eq_left (by omega), List.getElem?_take, if_pos (by omega)]; exact hy3) (by omega), List.take_take, List.length_take, Nat.min_eq_left (by omega), Nat.min_eq_left (by omega)], by omega, hA.sub ⟨⟨by kernel_rfl, by kernel_rfl⟩, ⟨by kernel_rfl, by kernel_rfl⟩, trivial⟩, (hW.pick [] (by decide) rfl).pickG [0] rfl⟩
  have h6 := ne_of_beq_false h6
  refine wp_exit <| thenX <| thenX <| blkX <| thenN <| wr <| st_p (vS (some ⟨b4, o5, none⟩) c.length c_c) hA fun ac hA => st_p (vI .i64 (n : Int)) hA fun ac hA => st_q (vS (some ⟨b4, o5, none⟩) (c.take n).length c_c) hA hW.cls ((Rd.slice (E := 29) (A := (some ⟨b4, o5, none⟩)) (n := c.length) (c := c_c) (l := 0) (h := n) (m := c_c) (sz := 1) (by kernel_rfl) (fun _ => by kernel_rfl) (fun _ => by kernel_rfl) (fun w => bounds_hi (by omega) w)).cast (slice_eq (addr_zero _ _ _) (by first | omega | (simp; done) | (simp; omega)) (by first | omega | (simp; done) | (simp; omega)))) fun ac hA => ?_
  have hW := hW.addNil 29 1 enU8
  refine st_s hA (Runs.appOwn (B := (some ⟨b4, o5, none⟩)) (k := c_c) (E := 29) (sz := 1) (en := enU8) (l := ([] : List Int)) (m := (c.take n)) (i := 0) (by kernel_rfl) (by kernel_rfl) elt_U8 (by kernel_rfl) hW rfl (((hW).getG 0 rfl).takeE n) (by first | omega | (simp; done) | (simp; omega)) (by first | omega | (simp; done) | (simp; omega)) ?_); clear hA ac hW; intro A8 c9 w10 hW hcc9 ac hA
  refine st_p (vS A8 (([] : List Int) ++ (c.take n)).length c9) hA ?_; clear hA ac; intro ac hA
  refine wn <| wp_ret <| r1 (vS A8 (([] : List Int) ++ (c.take n)).length c9) hA ?_
  clear hA
  have hq_ : trimC c = ([] : List Int) ++ (c.take n) := by rw [← hn]; exact trim_done (d := c.take n) (y := y3) (by rw [List.length_take, Nat.min_eq_left (by omega), List.getElem?_take, if_pos (by omega)]; exact hy3) (by omega)
  rw [hq_]; exact ⟨_, rfl, hW.fresh 0 rfl (fun _ h => h), hW.fr⟩
 rw [h2] at hA
 have h2 := of_decide_eq_false h2
 refine st_k hA fun ac hA => st_k hA fun ac hA => st_k hA fun ac hA => st_k hA fun ac hA => st_k hA fun ac hA => st_k hA fun ac hA => st_p (vB false) hA fun ac hA => wn <| wp_cond_false (hA.eval (by kernel_rfl)) <| wp_exit <| thenX <| thenX <| blkX <| thenN <| wr <| st_p (vS A_c c.length c_c) hA fun ac hA => st_p (vI .i64 (n : Int)) hA fun ac hA => st_q (vS A_c (c.take n).length c_c) hA hW.cls ((Rd.slice (E := 29) (A := A_c) (n := c.length) (c := c_c) (l := 0) (h := n) (m := c_c) (sz := 1) (by kernel_rfl) (fun _ => by kernel_rfl) (fun _ => by kernel_rfl) (fun w => bounds_hi (by omega) w)).cast (slice_eq (addr_zero _ _ _) (by first | omega | (simp; done) | (simp; omega)) (by first | omega | (simp; done) | (simp; omega)))) fun ac hA => ?_
 have hW := hW.addNil 29 1 enU8
 refine st_s hA (Runs.appOwn (B := A_c) (k := c_c) (E := 29) (sz := 1) (en := enU8) (l := ([] : List Int)) (m := (c.take n)) (i := 0) (by kernel_rfl) (by kernel_rfl) elt_U8 (by kernel_rfl) hW rfl (((hW).getG 0 rfl).takeE n) (by first | omega | (simp; done) | (simp; omega)) (by first | omega | (simp; done) | (simp; omega)) ?_); clear hA ac hW; intro A12 c13 w14 hW hcc13 ac hA
 refine st_p (vS A12 (([] : List Int) ++ (c.take n)).length c13) hA ?_; clear hA ac; intro ac hA
 refine wn <| wp_ret <| r1 (vS A12 (([] : List Int) ++ (c.take n)).length c13) hA ?_
 clear hA
 have hq_ : trimC c = ([] : List Int) ++ (c.take n) := by rw [← hn, show n = 0 from by omega]; rfl
 rw [hq_]; exact ⟨_, rfl, hW.fresh 0 rfl (fun _ h => h), hW.fr⟩

set_option maxRecDepth 100000 in
theorem e_r4join (A_l : Option Addr) (c_l : Nat) (l : List SV) (w : World) (hr_l : RowAt w A_l 1 enSV l) (hc_l : l.length ≤ c_l) (hn_l : (nestR innerSV l).p w) (hk_l : ∀ x_ ∈ l, capSV x_) (hl : l.length ≤ 1000) (hx : ∀ x ∈ l, x.l.length ≤ 100000) : Calls Tryz.prog 47 #[vS A_l l.length c_l] w (Fresh 29 1 enU8 (trimC (foldJ l)) w) := by
 have _hu := hc_l; have _hv := hr_l; clear _hu _hv
 have _hu := hk_l; have _hv := hn_l; clear _hu _hv
 have _hu := hl; clear _hu
 have _hu := hx; clear _hu
 refine enter_E 45 Tryz.func47 rfl rfl (by kernel_rfl) (L := [(0, vS A_l l.length c_l)]) (by kernel_rfl) ?_
 intro ac hA
 have hW := Ws.start w No
 have hW := hW.arg hr_l
 have hW := hW.addG _ hn_l (nest_ltSV hn_l) (by simp)
 refine wr <| st_p (vS none 0 0) hA ?_; clear hA ac; intro ac hA
 refine wn <| wr <| st_p (vS none 0 0) hA ?_; clear hA ac; intro ac hA
 refine wn <| wp_seq <| wr <| st_p (vI .i64 0) hA ?_; clear hA ac; intro ac hA
 refine wn <| wp_block ?_
 have hW := hW.addNil 29 1 enU8
 refine wp_loop_m (fun m_ ac_ wl_ => ∃ i : Nat, ∃ d : List Int, ∃ A : Option Addr, ∃ cc : Nat, m_ = l.length - i ∧ (i ≤ l.length) ∧ (d = foldJ (l.take i)) ∧ (d.length ≤ 100000) ∧ (d.length ≤ cc) ∧ Fm 45 [] [(0, vS A_l l.length c_l), (3, vS A d.length cc), (4, vI .i64 (i : Int))] ac_ ∧ Ws w No [rowR 29 1 enU8 (vS A d.length cc) d] [nestR innerSV l, roR A_l 1 enSV l] wl_) _ ⟨0, [], none, 0, rfl, by omega, by rfl, by simp, by simp, hA.sub (by and_intros <;> first | kernel_rfl | trivial), (hW.pick [0] (by decide) rfl).pickG [0, 1] rfl⟩ ?_
 clear hA ac hW; rintro m_ ac w1 ⟨i, d, A, cc, rfl, hi, hd, hdl, hcc, hA, hW⟩
 refine wp_seq <| wr <| st_p (vI .i64 (i : Int)) hA fun ac hA => st_p (vS A_l l.length c_l) hA fun ac hA => st_p (vI .i64 (l.length : Int)) hA fun ac hA => st_p (vB (decide ((i : Int) < (l.length : Int)))) hA fun ac hA => wn <| wp_cond_split (t := decide ((i : Int) < (l.length : Int))) (hA.eval (by kernel_rfl)) (fun h2 => ?_) (fun h2 => ?_)
 ·
  have h2 := of_decide_eq_true h2
  refine wp_skip <| thenN <| wp_seq <| wp_block <| wp_seq ?_
  obtain ⟨y3, hy3⟩ : ∃ y, l[i]? = some y := ⟨_, List.getElem?_eq_getElem (by omega)⟩
  rcases y3 with ⟨y3_l, y3_l_A, y3_l_c⟩
  obtain ⟨b4, o5, rfl, hbb4⟩ := row_some ((hW).getG 1 rfl) hy3
  have hW := hW.nestAt 0 rfl (List.mem_of_getElem? hy3)
  have hc_y3_l : y3_l.length ≤ y3_l_c := hk_l _ (List.mem_of_getElem? hy3)
  replace hW : Ws w No [rowR 29 1 enU8 (vS A d.length cc) d] [roR y3_l_A 1 enU8 y3_l, nestR innerSV l, roR (some ⟨b4, o5, none⟩) 1 enSV l] w1 := hW
  have hxl_ : y3_l.length ≤ 100000 := hx _ (List.mem_of_getElem? hy3)
  refine wp_region_lit <| st_p (vI .i64 0) hA ?_; clear hA ac; intro ac hA
  refine wn <| wp_block <| wp_loop_m (fun m_ ac_ wl_ => ∃ k : Nat, ∃ e : List Int, ∃ B : Option Addr, ∃ cb : Nat, m_ = y3_l.length - k ∧ (k ≤ y3_l.length) ∧ (e = joinC d (y3_l.take k)) ∧ (e.length = max d.length k) ∧ (e.length ≤ cb) ∧ Fm 45 [] [(0, vS (some ⟨b4, o5, none⟩) l.length c_l), (3, vS B e.length cb), (4, vI .i64 (i : Int)), (5, vI .i64 (k : Int))] ac_ ∧ Ws w No [rowR 29 1 enU8 (vS B e.length cb) e] [roR y3_l_A 1 enU8 y3_l, nestR innerSV l, roR (some ⟨b4, o5, none⟩) 1 enSV l] wl_) _ ⟨0, d, A, cc, rfl, by omega, by rw [List.take_zero, joinC_nil], by omega, by omega, hA.sub (by and_intros <;> first | kernel_rfl | trivial), (hW.pick [0] (by decide) rfl).pickG [0, 1, 2] rfl⟩ ?_
  clear hA ac hW; rintro m_ ac w6 ⟨k, e, B, cb, rfl, hk, he, hel, hcb, hA, hW⟩
  refine wp_seq <| wr <| st_p (vI .i64 (k : Int)) hA fun ac hA => st_p (vS (some ⟨b4, o5, none⟩) l.length c_l) hA fun ac hA => st_p (vI .i64 (i : Int)) hA fun ac hA => st_q (vP (some ⟨b4, o5 + i * 1, none⟩)) hA hW.cls (Rd.indexAddr (e := 34) (sz := 1) (b := b4) (off := o5) (n := l.length) (c := c_l) (k := i) (by kernel_rfl) (by kernel_rfl) (by first | omega | (simp; done) | (simp; omega)) (fun _ => by kernel_rfl) (fun _ => by kernel_rfl)) fun ac hA => st_q (vS y3_l_A y3_l.length y3_l_c) hA hW.cls (Rd.loadRow (b := b4) (i := o5 + i * 1) (xs := [vS y3_l_A y3_l.length y3_l_c]) (by kernel_rfl) (fun _ hw => row_ld ((hw.1).getG 2 rfl) hy3 (Fr.refl No _) (fun h => h) 0 1 (by kernel_rfl)) (by kernel_rfl)) fun ac hA => st_p (vI .i64 (y3_l.length : Int)) hA fun ac hA => st_p (vB (decide ((k : Int) < (y3_l.length : Int)))) hA fun ac hA => wn <| wp_cond_split (t := decide ((k : Int) < (y3_l.length : Int))) (hA.eval (by kernel_rfl)) (fun h7 => ?_) (fun h7 => ?_)
  ·
   have h7 := of_decide_eq_true h7
   refine wp_skip <| thenN <| wp_seq <| wp_block <| wp_seq <| wr <| st_p (vI .i64 (k : Int)) hA fun ac hA => st_p (vS B e.length cb) hA fun ac hA => st_p (vI .i64 (e.length : Int)) hA fun ac hA => st_p (vB ((k : Int) == (e.length : Int))) hA fun ac hA => wn <| wp_cond_split (t := (k : Int) == (e.length : Int)) (hA.eval (by kernel_rfl)) (fun h8 => ?_) (fun h8 => ?_)
   ·
    have h8 := eq_of_beq h8
    refine wp_region_lit <| st_p (vS B e.length cb) hA ?_; clear hA ac; intro ac hA
    refine st_s hA (Runs.cells (fun b => vS (some ⟨b, 0, none⟩) 1 1) #[vI .u64 0] 29 (fun _ => by kernel_rfl) hW ?_); clear hA ac hW; intro b9 w10 hW hb9 hfw10 ac hA
    refine st_s hA (Runs.appOwn (B := (some ⟨b9, 0, none⟩)) (k := 1) (E := 29) (sz := 1) (en := enU8) (l := e) (m := ([0] : List Int)) (i := 1) (by kernel_rfl) (by kernel_rfl) elt_U8 (by kernel_rfl) hW rfl (rowAt_cel ((hW).cel 0 rfl) ([0] : List Int) (by rfl) elt_U8.len) (by first | omega | (simp; done) | (simp; omega)) (by first | omega | (simp; done) | (simp; omega)) ?_); clear hA ac hW; intro A11 c12 w13 hW hcc12 ac hA
    refine st_p (vS A11 (e ++ ([0] : List Int)).length c12) hA ?_; clear hA ac; intro ac hA
    refine wn ?_
    obtain ⟨y14, hy14⟩ : ∃ y, y3_l[k]? = some y := ⟨_, List.getElem?_eq_getElem (by first | omega | (simp; omega))⟩
    obtain ⟨b15, o16, rfl, hbb15⟩ := row_some ((hW).getG 0 rfl) hy14
    obtain ⟨y17, hy17⟩ : ∃ y, (e ++ ([0] : List Int))[k]? = some y := ⟨_, List.getElem?_eq_getElem (by first | omega | (simp; omega))⟩
    obtain ⟨b18, o19, rfl, hbb18⟩ := row_some (rowR_at ((hW).get 1 rfl) elt_U8.len) hy17
    refine wp_cut (fun ac_ wl_ => Fm 45 [] [(0, vS (some ⟨b4, o5, none⟩) l.length c_l), (3, vS (some ⟨b18, o19, none⟩) (e ++ ([0] : List Int)).length c12), (4, vI .i64 (i : Int)), (5, vI .i64 (k : Int)), (12, vI .i64 (k : Int)), (13, vS (some ⟨b4, o5, none⟩) l.length c_l), (14, vI .i64 (i : Int)), (15, vP (some ⟨b4, o5 + i * 1, none⟩)), (16, vS (some ⟨b15, o16, none⟩) y3_l.length y3_l_c), (17, vI .i64 (y3_l.length : Int)), (18, vB (decide ((k : Int) < (y3_l.length : Int)))), (21, vI .i64 (k : Int)), (22, vS B e.length cb), (23, vI .i64 (e.length : Int)), (24, vB ((k : Int) == (e.length : Int))), (25, vS B e.length cb), (26, vS (some ⟨b9, 0, none⟩) 1 1), (27, vS (some ⟨b18, o19, none⟩) (e ++ ([0] : List Int)).length c12)] ac_ ∧ Ws w No [Cel b9 #[vI .u64 0] 29, rowR 29 1 enU8 (vS (some ⟨b18, o19, none⟩) (e ++ ([0] : List Int)).length c12) (List.set (e ++ ([0] : List Int)) k (max (y17 : Int) (y14 : Int) : Int))] [roR (some ⟨b15, o16, none⟩) 1 enU8 y3_l, nestR innerSV l, roR (some ⟨b4, o5, none⟩) 1 enSV l] wl_) ?_ ?_
    · refine sr_region (m := 16) (C := Ws w No [Cel b9 #[vI .u64 0] 29, rowR 29 1 enU8 (vS (some ⟨b18, o19, none⟩) (e ++ ([0] : List Int)).length c12) (e ++ ([0] : List Int))] [roR (some ⟨b15, o16, none⟩) 1 enU8 y3_l, nestR innerSV l, roR (some ⟨b4, o5, none⟩) 1 enSV l]) (fun i => [5, 9, 12].contains i) (fun i => [5, 9, 12].contains i) (fun i => [0, 1, 2, 3, 4, 6, 7, 8, 10, 11, 13, 14].contains i) (by kernel_rfl) (by kernel_rfl) (by kernel_rfl) (by kernel_rfl) hW ?_; clear hW; intro w20 hW hfw20 hR; have hC : Ws w No [Cel b9 #[vI .u64 0] 29, rowR 29 1 enU8 (vS (some ⟨b18, o19, none⟩) (e ++ ([0] : List Int)).length c12) (e ++ ([0] : List Int))] [roR (some ⟨b15, o16, none⟩) 1 enU8 y3_l, nestR innerSV l, roR (some ⟨b4, o5, none⟩) 1 enSV l] w20 := hW.pick [0, 1] (by decide) rfl
      refine sr_p 0 (vS (some ⟨b18, o19, none⟩) (e ++ ([0] : List Int)).length c12) hR rfl hA fun ac hA => sr_p 1 (vI .i64 (k : Int)) hR rfl hA fun ac hA => sr_p 2 (vS (some ⟨b18, o19, none⟩) (e ++ ([0] : List Int)).length c12) hR rfl hA fun ac hA => sr_p 3 (vI .i64 (k : Int)) hR rfl hA fun ac hA => sr_q 4 (vP (some ⟨b18, o19 + k * 1, none⟩)) hR rfl hA (Rd.indexAddr (e := 29) (sz := 1) (b := b18) (off := o19) (n := (e ++ ([0] : List Int)).length) (c := c12) (k := k) (by kernel_rfl) (by kernel_rfl) (by first | omega | (simp; done) | (simp; omega)) (fun _ => by kernel_rfl) (fun _ => by kernel_rfl)) fun ac hA => sr_t 5 (vI .u64 y17) hR rfl hA hC (Rd.loadRow (b := b18) (i := o19 + k * 1) (xs := [vI .u64 y17]) (by kernel_rfl) (fun _ hw => row_ld (rowR_at ((hw).get 1 rfl) elt_U8.len) hy17 (Fr.refl No _) (fun h => h) 0 1 (by kernel_rfl)) (by kernel_rfl)) fun ac hA => sr_p 6 (vS (some ⟨b4, o5, none⟩) l.length c_l) hR rfl hA fun ac hA => sr_p 7 (vI .i64 (i : Int)) hR rfl hA fun ac hA => sr_q 8 (vP (some ⟨b4, o5 + i * 1, none⟩)) hR rfl hA (Rd.indexAddr (e := 34) (sz := 1) (b := b4) (off := o5) (n := l.length) (c := c_l) (k := i) (by kernel_rfl) (by kernel_rfl) (by first | omega | (simp; done) | (simp; omega)) (fun _ => by kernel_rfl) (fun _ => by kernel_rfl)) fun ac hA => sr_t 9 (vS (some ⟨b15, o16, none⟩) y3_l.length y3_l_c) hR rfl hA hC (Rd.loadRow (b := b4) (i := o5 + i * 1) (xs := [vS (some ⟨b15, o16, none⟩) y3_l.length y3_l_c]) (by kernel_rfl) (fun _ hw => row_ld ((hw).getG 2 rfl) hy3 (Fr.refl No _) (fun h => h) 0 1 (by kernel_rfl)) (by kernel_rfl)) fun ac hA => sr_p 10 (vI .i64 (k : Int)) hR rfl hA fun ac hA => sr_q 11 (vP (some ⟨b15, o16 + k * 1, none⟩)) hR rfl hA (Rd.indexAddr (e := 29) (sz := 1) (b := b15) (off := o16) (n := y3_l.length) (c := y3_l_c) (k := k) (by kernel_rfl) (by kernel_rfl) (by first | omega | (simp; done) | (simp; omega)) (fun _ => by kernel_rfl) (fun _ => by kernel_rfl)) fun ac hA => sr_t 12 (vI .u64 y14) hR rfl hA hC (Rd.loadRow (b := b15) (i := o16 + k * 1) (xs := [vI .u64 y14]) (by kernel_rfl) (fun _ hw => row_ld ((hw).getG 0 rfl) hy14 (Fr.refl No _) (fun h => h) 0 1 (by kernel_rfl)) (by kernel_rfl)) fun ac hA => sr_q 13 (vI .u64 (max (y17 : Int) (y14 : Int))) hR rfl hA (Rd.pureE (v0 := vI .u64 (if (y14 : Int) > (y17 : Int) then (y14 : Int) else (y17 : Int))) (fun _ => by kernel_rfl) (congrArg (vI .u64) (max_ _ _))) fun ac hA => sr_q 14 (vP (some ⟨b18, o19 + k * 1, none⟩)) hR rfl hA (Rd.indexAddr (e := 29) (sz := 1) (b := b18) (off := o19) (n := (e ++ ([0] : List Int)).length) (c := c12) (k := k) (by kernel_rfl) (by kernel_rfl) (by first | omega | (simp; done) | (simp; omega)) (fun _ => by kernel_rfl) (fun _ => by kernel_rfl)) fun ac hA => sr_one (i := 15) (by kernel_rfl) (sr_d rfl hA (Runs.storeRow (E := 29) (sz := 1) (en := enU8) (b := b18) (off := o19) (k := k) (n := (e ++ ([0] : List Int)).length) (c := c12) (v := vI .u64 (max (y17 : Int) (y14 : Int))) (max (y17 : Int) (y14 : Int) : Int) elt_U8 (by kernel_rfl) (by kernel_rfl) (by kernel_rfl) (by kernel_rfl) hW (i := 1) rfl (by first | omega | (simp; done) | (simp; omega)) (by first | rfl | omega | (simp; done) | (simp; omega)) ?_)); clear hA ac hW; intro w21 hW ac hA
      refine qn <| sr_done (by kernel_rfl) ?_ _
      exact ⟨hA.sub (by and_intros <;> first | kernel_rfl | trivial), (hW.pick [0, 1] (by decide) rfl).pickG [0, 1, 2] rfl⟩
    clear hA ac hW; rintro ac w22 ⟨hA, hW⟩
    refine blkN <| thenN <| wp_region_lit <| st_p (vI .i64 (k : Int)) hA fun ac hA => st_q (vI .i64 ((k + 1 : Nat) : Int)) hA hW.cls (Rd.pureE (v0 := vI .i64 (IntKind.i64.wrap ((k : Int) + 1))) (fun _ => by kernel_rfl) (congrArg (vI .i64) ((w_i64 (x := (k : Int) + 1) (by omega) (by omega)).trans (by omega)))) fun ac hA => st_p (vI .i64 ((k + 1 : Nat) : Int)) hA fun ac hA => wn ?_
    have el_ : (e ++ ([0] : List Int)).length = (List.set (e ++ ([0] : List Int)) k (max (y17 : Int) (y14 : Int) : Int)).length := by simp
    rw [el_] at hA hW
    have hlt_ : (y3_l.take k).length = k := by rw [List.length_take]; have := (List.getElem?_eq_some_iff.1 hy14).1; omega
    exact ⟨y3_l.length - (k + 1), by omega, k + 1, List.set (e ++ ([0] : List Int)) k (max (y17 : Int) (y14 : Int) : Int), (some ⟨b18, o19, none⟩), c12, rfl, by omega, by rw [tk_snoc hy14, joinC_end (by rw [hlt_]; omega) (by rw [hlt_, ← he]; exact hy17), hlt_, ← he], by first | (rw [List.length_set, List.length_append, List.length_singleton]; omega) | (rw [List.length_set]; omega), by first | (rw [List.length_set, List.length_append, List.length_singleton]; simp at hcc12; omega) | (rw [List.length_set]; omega), hA.sub (by and_intros <;> first | kernel_rfl | trivial), (hW.pick [1] (by decide) rfl).pickG [0, 1, 2] rfl⟩
   have h8 := ne_of_beq_false h8
   refine wp_skip <| thenN ?_
   obtain ⟨y23, hy23⟩ : ∃ y, y3_l[k]? = some y := ⟨_, List.getElem?_eq_getElem (by first | omega | (simp; omega))⟩
   obtain ⟨b24, o25, rfl, hbb24⟩ := row_some ((hW).getG 0 rfl) hy23
   obtain ⟨y26, hy26⟩ : ∃ y, e[k]? = some y := ⟨_, List.getElem?_eq_getElem (by first | omega | (simp; omega))⟩
   obtain ⟨b27, o28, rfl, hbb27⟩ := row_some (rowR_at ((hW).get 0 rfl) elt_U8.len) hy26
   refine wp_cut (fun ac_ wl_ => Fm 45 [] [(0, vS (some ⟨b4, o5, none⟩) l.length c_l), (3, vS (some ⟨b27, o28, none⟩) e.length cb), (4, vI .i64 (i : Int)), (5, vI .i64 (k : Int)), (12, vI .i64 (k : Int)), (13, vS (some ⟨b4, o5, none⟩) l.length c_l), (14, vI .i64 (i : Int)), (15, vP (some ⟨b4, o5 + i * 1, none⟩)), (16, vS (some ⟨b24, o25, none⟩) y3_l.length y3_l_c), (17, vI .i64 (y3_l.length : Int)), (18, vB (decide ((k : Int) < (y3_l.length : Int)))), (21, vI .i64 (k : Int)), (22, vS (some ⟨b27, o28, none⟩) e.length cb), (23, vI .i64 (e.length : Int)), (24, vB ((k : Int) == (e.length : Int)))] ac_ ∧ Ws w No [rowR 29 1 enU8 (vS (some ⟨b27, o28, none⟩) e.length cb) (List.set e k (max (y26 : Int) (y23 : Int) : Int))] [roR (some ⟨b24, o25, none⟩) 1 enU8 y3_l, nestR innerSV l, roR (some ⟨b4, o5, none⟩) 1 enSV l] wl_) ?_ ?_
   · refine sr_region (m := 16) (C := Ws w No [rowR 29 1 enU8 (vS (some ⟨b27, o28, none⟩) e.length cb) e] [roR (some ⟨b24, o25, none⟩) 1 enU8 y3_l, nestR innerSV l, roR (some ⟨b4, o5, none⟩) 1 enSV l]) (fun i => [5, 9, 12].contains i) (fun i => [5, 9, 12].contains i) (fun i => [0, 1, 2, 3, 4, 6, 7, 8, 10, 11, 13, 14].contains i) (by kernel_rfl) (by kernel_rfl) (by kernel_rfl) (by kernel_rfl) hW ?_; clear hW; intro w29 hW hfw29 hR; have hC : Ws w No [rowR 29 1 enU8 (vS (some ⟨b27, o28, none⟩) e.length cb) e] [roR (some ⟨b24, o25, none⟩) 1 enU8 y3_l, nestR innerSV l, roR (some ⟨b4, o5, none⟩) 1 enSV l] w29 := hW.pick [0] (by decide) rfl
     refine sr_p 0 (vS (some ⟨b27, o28, none⟩) e.length cb) hR rfl hA fun ac hA => sr_p 1 (vI .i64 (k : Int)) hR rfl hA fun ac hA => sr_p 2 (vS (some ⟨b27, o28, none⟩) e.length cb) hR rfl hA fun ac hA => sr_p 3 (vI .i64 (k : Int)) hR rfl hA fun ac hA => sr_q 4 (vP (some ⟨b27, o28 + k * 1, none⟩)) hR rfl hA (Rd.indexAddr (e := 29) (sz := 1) (b := b27) (off := o28) (n := e.length) (c := cb) (k := k) (by kernel_rfl) (by kernel_rfl) (by first | omega | (simp; done) | (simp; omega)) (fun _ => by kernel_rfl) (fun _ => by kernel_rfl)) fun ac hA => sr_t 5 (vI .u64 y26) hR rfl hA hC (Rd.loadRow (b := b27) (i := o28 + k * 1) (xs := [vI .u64 y26]) (by kernel_rfl) (fun _ hw => row_ld (rowR_at ((hw).get 0 rfl) elt_U8.len) hy26 (Fr.refl No _) (fun h => h) 0 1 (by kernel_rfl)) (by kernel_rfl)) fun ac hA => sr_p 6 (vS (some ⟨b4, o5, none⟩) l.length c_l) hR rfl hA fun ac hA => sr_p 7 (vI .i64 (i : Int)) hR rfl hA fun ac hA => sr_q 8 (vP (some ⟨b4, o5 + i * 1, none⟩)) hR rfl hA (Rd.indexAddr (e := 34) (sz := 1) (b := b4) (off := o5) (n := l.length) (c := c_l) (k := i) (by kernel_rfl) (by kernel_rfl) (by first | omega | (simp; done) | (simp; omega)) (fun _ => by kernel_rfl) (fun _ => by kernel_rfl)) fun ac hA => sr_t 9 (vS (some ⟨b24, o25, none⟩) y3_l.length y3_l_c) hR rfl hA hC (Rd.loadRow (b := b4) (i := o5 + i * 1) (xs := [vS (some ⟨b24, o25, none⟩) y3_l.length y3_l_c]) (by kernel_rfl) (fun _ hw => row_ld ((hw).getG 2 rfl) hy3 (Fr.refl No _) (fun h => h) 0 1 (by kernel_rfl)) (by kernel_rfl)) fun ac hA => sr_p 10 (vI .i64 (k : Int)) hR rfl hA fun ac hA => sr_q 11 (vP (some ⟨b24, o25 + k * 1, none⟩)) hR rfl hA (Rd.indexAddr (e := 29) (sz := 1) (b := b24) (off := o25) (n := y3_l.length) (c := y3_l_c) (k := k) (by kernel_rfl) (by kernel_rfl) (by first | omega | (simp; done) | (simp; omega)) (fun _ => by kernel_rfl) (fun _ => by kernel_rfl)) fun ac hA => sr_t 12 (vI .u64 y23) hR rfl hA hC (Rd.loadRow (b := b24) (i := o25 + k * 1) (xs := [vI .u64 y23]) (by kernel_rfl) (fun _ hw => row_ld ((hw).getG 0 rfl) hy23 (Fr.refl No _) (fun h => h) 0 1 (by kernel_rfl)) (by kernel_rfl)) fun ac hA => sr_q 13 (vI .u64 (max (y26 : Int) (y23 : Int))) hR rfl hA (Rd.pureE (v0 := vI .u64 (if (y23 : Int) > (y26 : Int) then (y23 : Int) else (y26 : Int))) (fun _ => by kernel_rfl) (congrArg (vI .u64) (max_ _ _))) fun ac hA => sr_q 14 (vP (some ⟨b27, o28 + k * 1, none⟩)) hR rfl hA (Rd.indexAddr (e := 29) (sz := 1) (b := b27) (off := o28) (n := e.length) (c := cb) (k := k) (by kernel_rfl) (by kernel_rfl) (by first | omega | (simp; done) | (simp; omega)) (fun _ => by kernel_rfl) (fun _ => by kernel_rfl)) fun ac hA => sr_one (i := 15) (by kernel_rfl) (sr_d rfl hA (Runs.storeRow (E := 29) (sz := 1) (en := enU8) (b := b27) (off := o28) (k := k) (n := e.length) (c := cb) (v := vI .u64 (max (y26 : Int) (y23 : Int))) (max (y26 : Int) (y23 : Int) : Int) elt_U8 (by kernel_rfl) (by kernel_rfl) (by kernel_rfl) (by kernel_rfl) hW (i := 0) rfl (by first | omega | (simp; done) | (simp; omega)) (by first | rfl | omega | (simp; done) | (simp; omega)) ?_)); clear hA ac hW; intro w30 hW ac hA
     refine qn <| sr_done (by kernel_rfl) ?_ _
     exact ⟨hA.sub (by and_intros <;> first | kernel_rfl | trivial), (hW.pick [0] (by decide) rfl).pickG [0, 1, 2] rfl⟩
   clear hA ac hW; rintro ac w31 ⟨hA, hW⟩
   refine blkN <| thenN <| wp_region_lit <| st_p (vI .i64 (k : Int)) hA fun ac hA => st_q (vI .i64 ((k + 1 : Nat) : Int)) hA hW.cls (Rd.pureE (v0 := vI .i64 (IntKind.i64.wrap ((k : Int) + 1))) (fun _ => by kernel_rfl) (congrArg (vI .i64) ((w_i64 (x := (k : Int) + 1) (by omega) (by omega)).trans (by omega)))) fun ac hA => st_p (vI .i64 ((k + 1 : Nat) : Int)) hA fun ac hA => wn ?_
   have el_ : e.length = (List.set e k (max (y26 : Int) (y23 : Int) : Int)).length := by simp
   rw [el_] at hA hW
   have hlt_ : (y3_l.take k).length = k := by rw [List.length_take]; have := (List.getElem?_eq_some_iff.1 hy23).1; omega
   exact ⟨y3_l.length - (k + 1), by omega, k + 1, List.set e k (max (y26 : Int) (y23 : Int) : Int), (some ⟨b27, o28, none⟩), cb, rfl, by omega, by rw [tk_snoc hy23, joinC_low (by rw [hlt_]; omega) (by rw [hlt_, ← he]; exact hy26), hlt_, ← he], by first | (rw [List.length_set, List.length_append, List.length_singleton]; omega) | (rw [List.length_set]; omega), by rw [List.length_set]; omega, hA.sub (by and_intros <;> first | kernel_rfl | trivial), (hW.pick [0] (by decide) rfl).pickG [0, 1, 2] rfl⟩
  have h7 := of_decide_eq_false h7
  refine wp_exit <| thenX <| thenX <| blkX <| blkN <| thenN <| wp_region_lit <| st_p (vI .i64 (i : Int)) hA fun ac hA => st_q (vI .i64 ((i + 1 : Nat) : Int)) hA hW.cls (Rd.pureE (v0 := vI .i64 (IntKind.i64.wrap ((i : Int) + 1))) (fun _ => by kernel_rfl) (congrArg (vI .i64) ((w_i64 (x := (i : Int) + 1) (by omega) (by omega)).trans (by omega)))) fun ac hA => st_p (vI .i64 ((i + 1 : Nat) : Int)) hA fun ac hA => wn ?_
  exact ⟨l.length - (i + 1), by omega, i + 1, e, B, cb, rfl, by omega, by rw [foldJ_snoc hy3, ← hd, he, List.take_of_length_le (by omega)], by omega, by exact hcb, hA.sub (by and_intros <;> first | kernel_rfl | trivial), (hW.pick [0] (by decide) rfl).pickG [1, 2] rfl⟩
 have h2 := of_decide_eq_false h2
 refine wp_exit <| thenX <| thenX <| blkX <| thenN <| wr <| st_p (vS A d.length cc) hA ?_; clear hA ac; intro ac hA
 refine st_s hA (Runs.callRow (E := 29) (sz := 1) (en := enU8) (l := (trimC d)) (fun _ => by kernel_rfl) hW (e_r4trim A cc d w1 (rowR_at ((hW).get 0 rfl) elt_U8.len) (own_cap ((hW).get 0 rfl)) (by first | omega | assumption | exact ⟨by omega, by omega⟩)) ?_); clear hA ac hW; intro A33 c34 w32 hW hcc34 hfw32 ac hA
 refine st_p (vS A33 (trimC d).length c34) hA ?_; clear hA ac; intro ac hA
 refine wn <| wp_ret <| r1 (vS A33 (trimC d).length c34) hA ?_
 clear hA
 rw [List.take_of_length_le (by omega)] at hd; rw [← hd]; exact ⟨_, rfl, hW.fresh 0 rfl (fun _ h => h), hW.fr⟩

set_option maxRecDepth 100000 in
theorem e_r4right (A_c : Option Addr) (c_c : Nat) (c : List Int) (w : World) (hr_c : RowAt w A_c 1 enU8 c) (hc_c : c.length ≤ c_c) (hl : c.length ≤ 100000) : Calls Tryz.prog 87 #[vS A_c c.length c_c] w (fun e w' => e = .returned (vB (vecOk c)) ∧ Fr No w w') := by
 have _hu := hc_c; have _hv := hr_c; clear _hu _hv
 have _hu := hl; clear _hu
 refine enter_E 18 Tryz.func87 rfl rfl (by kernel_rfl) (L := [(0, vS A_c c.length c_c)]) (by kernel_rfl) ?_
 intro ac hA
 have hW := Ws.start w No
 have hW := hW.arg hr_c
 refine wr <| st_p (vB false) hA ?_; clear hA ac; intro ac hA
 refine wn <| wp_seq <| wr <| st_p (vI .i64 0) hA ?_; clear hA ac; intro ac hA
 refine wn <| wp_block <| wp_loop_m (fun m_ ac_ wl_ => ∃ k : Nat, m_ = c.length - k ∧ (k ≤ c.length) ∧ (∀ n ∈ c.take k, (!big48 n) = true) ∧ Fm 18 [] [(0, vS A_c c.length c_c), (3, vI .i64 (k : Int))] ac_ ∧ Ws w No [] [roR A_c 1 enU8 c] wl_) _ ⟨0, rfl, by omega, by simp, hA.sub ⟨⟨by kernel_rfl, by kernel_rfl⟩, ⟨by kernel_rfl, by kernel_rfl⟩, trivial⟩, (hW.pick [] (by decide) rfl).pickG [0] rfl⟩ ?_
 clear hA ac hW; rintro m_ ac w1 ⟨k, rfl, hk, hn, hA, hW⟩
 refine wp_seq <| wr <| st_p (vI .i64 (k : Int)) hA fun ac hA => st_p (vS A_c c.length c_c) hA fun ac hA => st_p (vI .i64 (c.length : Int)) hA fun ac hA => st_p (vB (decide ((k : Int) < (c.length : Int)))) hA fun ac hA => wn <| wp_cond_split (t := decide ((k : Int) < (c.length : Int))) (hA.eval (by kernel_rfl)) (fun h2 => ?_) (fun h2 => ?_)
 ·
  have h2 := of_decide_eq_true h2
  refine wp_skip <| thenN <| wp_seq <| wp_block <| wr <| st_p (vS A_c c.length c_c) hA fun ac hA => st_p (vI .i64 (k : Int)) hA fun ac hA => ?_
  obtain ⟨y3, hy3⟩ : ∃ y, c[k]? = some y := ⟨_, List.getElem?_eq_getElem (by first | omega | (simp; done) | (simp; omega))⟩
  obtain ⟨b4, o5, rfl, hbb4⟩ := row_some ((hW).getG 0 rfl) hy3
  refine st_q (vP (some ⟨b4, o5 + k * 1, none⟩)) hA hW.cls (Rd.indexAddr (e := 29) (sz := 1) (b := b4) (off := o5) (n := c.length) (c := c_c) (k := k) (by kernel_rfl) (by kernel_rfl) (by first | omega | (simp; done) | (simp; omega)) (fun _ => by kernel_rfl) (fun _ => by kernel_rfl)) fun ac hA => st_q (vI .u64 y3) hA hW.cls (Rd.loadRow (b := b4) (i := o5 + k * 1) (xs := [vI .u64 y3]) (by kernel_rfl) (fun _ hw => row_ld ((hw.1).getG 0 rfl) hy3 (Fr.refl No _) (fun h => h) 0 1 (by kernel_rfl)) (by kernel_rfl)) fun ac hA => st_p (vB (decide ((y3 : Int) > (281474976710655 : Int)))) hA fun ac hA => wn <| wp_cond_split (t := decide ((y3 : Int) > (281474976710655 : Int))) (hA.eval (by kernel_rfl)) (fun h6 => ?_) (fun h6 => ?_)
  ·
   have h6 := of_decide_eq_true h6
   refine wr <| st_p (vB false) hA ?_; clear hA ac; intro ac hA
   refine wn <| wp_ret <| blkR <| thenR <| thenR <| blkR <| thenR <| r1 (vB false) hA ?_
   clear hA
   exact ⟨retv (congrArg vB (show vecOk c = false from by unfold vecOk; rw [Bool.and_eq_false_iff]; right; rw [List.all_eq_false]; exact ⟨_, List.mem_of_getElem? hy3, by unfold big48; simp; omega⟩).symm), hW.fr⟩
  have h6 := of_decide_eq_false h6
  refine wp_skip <| blkN <| thenN <| wp_region_lit <| st_p (vI .i64 (k : Int)) hA fun ac hA => st_q (vI .i64 ((k + 1 : Nat) : Int)) hA hW.cls (Rd.pureE (v0 := vI .i64 (IntKind.i64.wrap ((k : Int) + 1))) (fun _ => by kernel_rfl) (congrArg (vI .i64) ((w_i64 (x := (k : Int) + 1) (by omega) (by omega)).trans (by omega)))) fun ac hA => st_p (vI .i64 ((k + 1 : Nat) : Int)) hA fun ac hA => wn ?_
  exact ⟨c.length - (k + 1), by omega, k + 1, rfl, by omega, by intro n_ hn_; rw [tk_snoc hy3] at hn_; rcases List.mem_append.1 hn_ with hn_ | hn_; exact hn n_ hn_; (rw [List.mem_singleton.1 hn_]; unfold big48; simp; omega), hA.sub ⟨⟨by kernel_rfl, by kernel_rfl⟩, ⟨by kernel_rfl, by kernel_rfl⟩, trivial⟩, (hW.pick [] (by decide) rfl).pickG [0] rfl⟩
 have h2 := of_decide_eq_false h2
 refine wp_exit <| thenX <| thenX <| blkX <| thenN <| wr <| st_p (vS A_c c.length c_c) hA fun ac hA => st_p (vI .i64 (c.length : Int)) hA fun ac hA => st_p (vB (decide ((c.length : Int) ≤ (65536 : Int)))) hA fun ac hA => st_p (vB (decide ((c.length : Int) ≤ (65536 : Int)))) hA fun ac hA => wn <| wp_ret <| r1 (vB (decide ((c.length : Int) ≤ (65536 : Int)))) hA ?_
 clear hA
 exact ⟨retv (congrArg vB (by unfold vecOk; rw [List.all_eq_true.2 (fun n_ hn_ => hn n_ (by rwa [List.take_of_length_le (by omega)])), Bool.and_true, decide_eq_decide]; omega)), hW.fr⟩

set_option maxRecDepth 100000 in
theorem e_r4epoch (A_c : Option Addr) (c_c : Nat) (c : List Int) (id : Int) (w : World) (hr_c : RowAt w A_c 1 enU8 c) (hc_c : c.length ≤ c_c) (hl : c.length ≤ 100000) (hv : vecOk c = true) (hi : 0 ≤ id ∧ id ≤ 65535) (hg : 0 ≤ getC c id ∧ getC c id ≤ 281474976710655) : Calls Tryz.prog 74 #[vS A_c c.length c_c, vI .i64 id] w (fun e w' => e = .returned (vT #[vI .u64 (id * 281474976710656 + getC c id), vI .i64 0]) ∧ Fr No w w') := by
 have _hu := hc_c; have _hv := hr_c; clear _hu _hv
 have _hu := hl; clear _hu
 have _hu := hv; clear _hu
 have _hu := hi; clear _hu
 have _hu := hg; clear _hu
 refine enter_E 24 Tryz.func74 rfl rfl (by kernel_rfl) (L := [(0, vS A_c c.length c_c), (1, vI .i64 id)]) (by kernel_rfl) ?_
 intro ac hA
 have hW := Ws.start w No
 have hW := hW.arg hr_c
 refine wr <| st_p (vI .u64 0) hA fun ac hA => st_p (vI .i64 0) hA fun ac hA => wn <| wp_seq <| wr <| st_p (vS A_c c.length c_c) hA ?_; clear hA ac; intro ac hA
 refine st_s hA (Runs.callN (v := vB (vecOk c)) (fun _ => by kernel_rfl) hW (e_r4right A_c c_c c w ((hW).getG 0 rfl) (by first | assumption | omega | (simp; omega) | simp) (by first | omega | assumption | exact ⟨by omega, by omega⟩)) ?_); clear hA ac hW; intro w1 hW hfw1 ac hA
 refine st_p (vB (!(vecOk c))) hA fun ac hA => st_p (vB (!(vecOk c))) hA fun ac hA => ?_
 rcases Bool.eq_false_or_eq_true (!(vecOk c)) with h2 | h2
 ·
  rw [h2] at hA
  have h2 := not_t h2
  exfalso; clear hA hW; exact absurd (hv.symm.trans h2) (by decide)
 rw [h2] at hA
 have h2 := not_f h2
 refine st_p (vI .i64 id) hA fun ac hA => st_p (vB (decide ((id : Int) < (0 : Int)))) hA fun ac hA => st_p (vB (decide ((id : Int) < (0 : Int)))) hA fun ac hA => st_p (vB (decide ((id : Int) < (0 : Int)))) hA fun ac hA => ?_
 rcases Bool.eq_false_or_eq_true (decide ((id : Int) < (0 : Int))) with h3 | h3
 ·
  rw [h3] at hA
  have h3 := of_decide_eq_true h3
  exfalso; clear hA hW; omega
 rw [h3] at hA
 have h3 := of_decide_eq_false h3
 refine st_p (vI .i64 id) hA fun ac hA => st_p (vB (decide ((id : Int) > (65535 : Int)))) hA fun ac hA => st_p (vB (decide ((id : Int) > (65535 : Int)))) hA fun ac hA => wn <| wp_cond_split (t := decide ((id : Int) > (65535 : Int))) (hA.eval (by kernel_rfl)) (fun h4 => ?_) (fun h4 => ?_)
 ·
  have h4 := of_decide_eq_true h4
  exfalso; clear hA hW; omega
 have h4 := of_decide_eq_false h4
 refine wp_skip <| thenN <| wr <| st_p (vI .i64 id) hA fun ac hA => st_p (vS A_c c.length c_c) hA fun ac hA => st_p (vI .i64 id) hA fun ac hA => st_s hA (Runs.callN (v := vI .u64 (getC c (id))) (fun _ => by kernel_rfl) hW (e_r4get A_c c_c c (id) w1 ((hW).getG 0 rfl) (by first | assumption | omega | (simp; omega) | simp) (by first | omega | assumption | exact ⟨by omega, by omega⟩)) ?_); clear hA ac hW; intro w5 hW hfw5 ac hA
 refine st_s hA (Runs.callN (v := vT #[vI .u64 (packV (id) (getC c (id))), vI .i64 (argErr (packOk (id) (getC c (id))))]) (fun _ => by kernel_rfl) hW (e_r3pack (id) (getC c (id)) w5 (by first | omega | assumption | exact ⟨by omega, by omega⟩) (by first | omega | assumption | exact ⟨by omega, by omega⟩)) ?_); clear hA ac hW; intro w6 hW hfw6 ac hA
 refine st_p (vI .u64 (packV (id) (getC c (id)))) hA fun ac hA => st_p (vI .i64 (argErr (packOk (id) (getC c (id))))) hA fun ac hA => st_p (vI .u64 (packV (id) (getC c (id)))) hA fun ac hA => st_p (vI .i64 (argErr (packOk (id) (getC c (id))))) hA fun ac hA => wn <| wp_ret <| ret2 (v1 := vI .u64 (packV (id) (getC c (id)))) (v2 := vI .i64 (argErr (packOk (id) (getC c (id))))) (by rfl) hA (Got.tmp hA (by kernel_rfl) (by kernel_rfl)) (Got.tmp hA (by kernel_rfl) (by kernel_rfl)) ?_
 clear hA
 have hp_ : packOk id (getC c id) = true := decide_eq_true (by omega)
 exact ⟨retv (by unfold packV; rw [hp_]; rfl), hW.fr⟩

set_option maxRecDepth 100000 in
theorem e_r3next (ep : Int) (en : Int) (w : World) (he : 0 ≤ ep ∧ ep ≤ 18446744073709551614) (hn : 1 ≤ en ∧ en ≤ 281474976710655) (hlt : ep % 281474976710656 < en) : Calls Tryz.prog 75 #[vI .u64 ep, vI .u64 en] w (fun e w' => e = .returned (vT #[vI .u64 (ep + 1), vI .i64 0]) ∧ Fr No w w') := by
 have _hu := he; clear _hu
 have _hu := hn; clear _hu
 have _hu := hlt; clear _hu
 refine enter_E 24 Tryz.func75 rfl rfl (by kernel_rfl) (L := [(0, vI .u64 ep), (1, vI .u64 en)]) (by kernel_rfl) ?_
 intro ac hA
 have hW := Ws.start w No
 refine wr <| st_p (vI .u64 0) hA fun ac hA => st_p (vI .i64 0) hA fun ac hA => wn <| wp_seq <| wr <| st_p (vI .u64 en) hA fun ac hA => st_p (vB (decide ((en : Int) < (1 : Int)))) hA fun ac hA => st_p (vB (decide ((en : Int) < (1 : Int)))) hA fun ac hA => ?_
 rcases Bool.eq_false_or_eq_true (decide ((en : Int) < (1 : Int))) with h1 | h1
 ·
  rw [h1] at hA
  have h1 := of_decide_eq_true h1
  exfalso; clear hA hW; omega
 rw [h1] at hA
 have h1 := of_decide_eq_false h1
 refine st_p (vI .u64 en) hA fun ac hA => st_p (vB (decide ((en : Int) > (281474976710655 : Int)))) hA fun ac hA => st_p (vB (decide ((en : Int) > (281474976710655 : Int)))) hA fun ac hA => wn <| wp_cond_split (t := decide ((en : Int) > (281474976710655 : Int))) (hA.eval (by kernel_rfl)) (fun h2 => ?_) (fun h2 => ?_)
 ·
  have h2 := of_decide_eq_true h2
  exfalso; clear hA hW; omega
 have h2 := of_decide_eq_false h2
 refine wp_skip <| thenN <| wp_seq <| wr <| st_p (vI .u64 ep) hA ?_; clear hA ac; intro ac hA
 refine st_s hA (Runs.callN (v := vT #[vI .i64 (((ep) : Int) / 281474976710656), vI .u64 (((ep) : Int) % 281474976710656)]) (fun _ => by kernel_rfl) hW (e_r3parts (ep) w (by first | omega | assumption | exact ⟨by omega, by omega⟩)) ?_); clear hA ac hW; intro w3 hW hfw3 ac hA
 refine st_p (vT #[vI .i64 (((ep) : Int) / 281474976710656), vI .u64 (((ep) : Int) % 281474976710656)]) hA fun ac hA => st_p (vI .i64 (((ep) : Int) / 281474976710656)) hA fun ac hA => st_p (vI .u64 (((ep) : Int) % 281474976710656)) hA fun ac hA => st_p (vI .i64 (((ep) : Int) / 281474976710656)) hA fun ac hA => st_p (vI .u64 (((ep) : Int) % 281474976710656)) hA fun ac hA => wn <| wr <| st_p (vI .u64 (((ep) : Int) % 281474976710656)) hA fun ac hA => st_p (vI .u64 en) hA fun ac hA => st_p (vB (decide ((((ep) : Int) % 281474976710656 : Int) ≥ (en : Int)))) hA fun ac hA => wn <| wp_cond_split (t := decide ((((ep) : Int) % 281474976710656 : Int) ≥ (en : Int))) (hA.eval (by kernel_rfl)) (fun h4 => ?_) (fun h4 => ?_)
 ·
  have h4 := of_decide_eq_true h4
  exfalso; clear hA hW; omega
 have h4 := of_decide_eq_false h4
 refine wp_skip <| thenN <| wr <| st_p (vI .u64 ep) hA fun ac hA => st_q (vI .u64 ((ep : Int) + 1)) hA hW.cls (Rd.pureE (v0 := vI .u64 (IntKind.u64.wrap ((ep : Int) + 1))) (fun _ => by kernel_rfl) (congrArg (vI .u64) ((w_u64 (x := (ep : Int) + 1) (by omega) (by omega)).trans (by omega)))) fun ac hA => st_p (vI .u64 ((ep : Int) + 1)) hA fun ac hA => st_p (vI .i64 0) hA fun ac hA => wn <| wp_ret <| ret2 (v1 := vI .u64 ((ep : Int) + 1)) (v2 := vI .i64 0) (by rfl) hA (Got.tmp hA (by kernel_rfl) (by kernel_rfl)) (Got.tmp hA (by kernel_rfl) (by kernel_rfl)) ?_
 clear hA
 exact ⟨retv (by rfl), hW.fr⟩

set_option maxRecDepth 100000 in
theorem e_r4tick (A_c : Option Addr) (c_c : Nat) (c : List Int) (id : Int) (en : Int) (w : World) (hr_c : RowAt w A_c 1 enU8 c) (hc_c : c.length ≤ c_c) (hl : c.length ≤ 100000) (hv : vecOk c = true) (hi : 0 ≤ id ∧ id ≤ 65535) (hg : 0 ≤ getC c id ∧ getC c id ≤ 281474976710655) (hne : 1 ≤ en ∧ en ≤ 281474976710655) (hf : getC c id < en) : Calls Tryz.prog 51 #[vS A_c c.length c_c, vI .i64 id, vI .u64 en] w (fun e w' => ∃ O_ : List Int, ∃ (A_o : Option Addr) (c_o : Nat), e = .returned (vT #[vS A_o O_.length c_o, vI .i64 0]) ∧ (O_ = tick1 c id) ∧ O_.length ≤ c_o ∧ (roR A_o 1 enU8 O_).from_ [roR A_c 1 enU8 c] w w' ∧ Fr No w w') := by
 have _hu := hc_c; have _hv := hr_c; clear _hu _hv
 have _hu := hl; clear _hu
 have _hu := hv; clear _hu
 have _hu := hi; clear _hu
 have _hu := hg; clear _hu
 have _hu := hne; clear _hu
 have _hu := hf; clear _hu
 refine enter_E 49 Tryz.func51 rfl rfl (by kernel_rfl) (L := [(0, vS A_c c.length c_c), (1, vI .i64 id), (2, vI .u64 en)]) (by kernel_rfl) ?_
 intro ac hA
 have hW := Ws.start w No
 have hW := hW.arg hr_c
 refine wr <| st_p (vS none 0 0) hA fun ac hA => st_p (vI .i64 0) hA fun ac hA => wn <| wr <| st_p (vS A_c c.length c_c) hA fun ac hA => st_p (vI .i64 id) hA fun ac hA => st_s hA (Runs.callN (v := vT #[vI .u64 ((id) * 281474976710656 + getC c (id)), vI .i64 0]) (fun _ => by kernel_rfl) hW (e_r4epoch A_c c_c c (id) w ((hW).getG 0 rfl) (by first | assumption | omega | (simp; omega) | simp) (by first | omega | assumption | exact ⟨by omega, by omega⟩) (by first | omega | assumption | exact ⟨by omega, by omega⟩) (by first | omega | assumption | exact ⟨by omega, by omega⟩) (by first | omega | assumption | exact ⟨by omega, by omega⟩)) ?_); clear hA ac hW; intro w1 hW hfw1 ac hA
 refine st_p (vT #[vI .u64 ((id) * 281474976710656 + getC c (id)), vI .i64 0]) hA fun ac hA => st_p (vI .u64 ((id) * 281474976710656 + getC c (id))) hA fun ac hA => st_p (vI .i64 0) hA fun ac hA => st_p (vI .u64 ((id) * 281474976710656 + getC c (id))) hA fun ac hA => st_p (vI .i64 0) hA fun ac hA => wn <| wp_seq <| wr <| st_p (vI .i64 0) hA fun ac hA => st_p (vB false) hA fun ac hA => wn <| wp_cond_false (hA.eval (by kernel_rfl)) <| wp_skip <| thenN <| wr <| st_p (vI .u64 ((id) * 281474976710656 + getC c (id))) hA fun ac hA => st_p (vI .u64 en) hA fun ac hA => st_s hA (Runs.callN (v := vT #[vI .u64 (((id) * 281474976710656 + getC c (id)) + 1), vI .i64 0]) (fun _ => by kernel_rfl) hW (e_r3next ((id) * 281474976710656 + getC c (id)) (en) w1 (by first | omega | assumption | exact ⟨by omega, by omega⟩) (by first | omega | assumption | exact ⟨by omega, by omega⟩) (by first | omega | assumption | exact ⟨by omega, by omega⟩)) ?_); clear hA ac hW; intro w2 hW hfw2 ac hA
 refine st_p (vT #[vI .u64 (((id) * 281474976710656 + getC c (id)) + 1), vI .i64 0]) hA fun ac hA => st_p (vI .u64 (((id) * 281474976710656 + getC c (id)) + 1)) hA fun ac hA => st_p (vI .i64 0) hA fun ac hA => st_p (vI .u64 (((id) * 281474976710656 + getC c (id)) + 1)) hA fun ac hA => st_p (vI .i64 0) hA fun ac hA => wn <| wp_seq <| wr <| st_p (vI .i64 0) hA fun ac hA => st_p (vB false) hA fun ac hA => wn <| wp_cond_false (hA.eval (by kernel_rfl)) <| wp_skip <| thenN <| wr <| st_p (vS A_c c.length c_c) hA ?_; clear hA ac; intro ac hA
 have hW := hW.addNil 29 1 enU8
 refine st_s hA (Runs.appOwn (B := A_c) (k := c_c) (E := 29) (sz := 1) (en := enU8) (l := ([] : List Int)) (m := c) (i := 0) (by kernel_rfl) (by kernel_rfl) elt_U8 (by kernel_rfl) hW rfl ((hW).getG 0 rfl) (by first | omega | (simp; done) | (simp; omega)) (by first | omega | (simp; done) | (simp; omega)) ?_); clear hA ac hW; intro A4 c5 w6 hW hcc5 ac hA
 refine st_p (vS A4 (([] : List Int) ++ c).length c5) hA ?_; clear hA ac; intro ac hA
 refine wn <| wp_seq <| wp_block ?_
 have hl0_ : (([] : List Int) ++ c).length = c.length := by simp
 refine wp_loop_m (fun m_ ac_ wl_ => ∃ k : Nat, ∃ d : List Int, ∃ A : Option Addr, ∃ cc : Nat, m_ = id.toNat + 1 - k ∧ (d = c ++ List.replicate k 0) ∧ (d.length = c.length + k) ∧ (d.length ≤ cc) ∧ (k = 0 ∨ ((c.length + k : Nat) : Int) ≤ id + 1) ∧ Fm 49 [] [(0, vS A_c c.length c_c), (1, vI .i64 id), (2, vI .u64 en), (10, vI .u64 (((id) * 281474976710656 + getC c (id)) + 1)), (11, vS A d.length cc)] ac_ ∧ Ws w No [rowR 29 1 enU8 (vS A d.length cc) d] [roR A_c 1 enU8 c] wl_) _ ⟨0, ([] : List Int) ++ c, A4, c5, rfl, by simp, by simp, by exact hcc5, by omega, hA.sub (by and_intros <;> first | kernel_rfl | trivial), (hW.pick [0] (by decide) rfl).pickG [0] rfl⟩ ?_
 clear hA ac hW; rintro m_ ac w7 ⟨k, d, A, cc, rfl, hd, hdl, hdc, hk, hA, hW⟩
 refine wp_seq <| wr <| st_p (vS A d.length cc) hA fun ac hA => st_p (vI .i64 (d.length : Int)) hA fun ac hA => st_p (vI .i64 id) hA fun ac hA => st_p (vB (decide ((d.length : Int) ≤ (id : Int)))) hA fun ac hA => wn <| wp_cond_split (t := decide ((d.length : Int) ≤ (id : Int))) (hA.eval (by kernel_rfl)) (fun h8 => ?_) (fun h8 => ?_)
 ·
  have h8 := of_decide_eq_true h8
  refine wp_skip <| thenN <| wp_block <| wp_region_lit <| st_p (vS A d.length cc) hA ?_; clear hA ac; intro ac hA
  refine st_s hA (Runs.cells (fun b => vS (some ⟨b, 0, none⟩) 1 1) #[vI .u64 0] 29 (fun _ => by kernel_rfl) hW ?_); clear hA ac hW; intro b9 w10 hW hb9 hfw10 ac hA
  refine st_s hA (Runs.appOwn (B := (some ⟨b9, 0, none⟩)) (k := 1) (E := 29) (sz := 1) (en := enU8) (l := d) (m := ([0] : List Int)) (i := 1) (by kernel_rfl) (by kernel_rfl) elt_U8 (by kernel_rfl) hW rfl (rowAt_cel ((hW).cel 0 rfl) ([0] : List Int) (by rfl) elt_U8.len) (by first | omega | (simp; done) | (simp; omega)) (by first | omega | (simp; done) | (simp; omega)) ?_); clear hA ac hW; intro A11 c12 w13 hW hcc12 ac hA
  refine st_p (vS A11 (d ++ ([0] : List Int)).length c12) hA ?_; clear hA ac; intro ac hA
  refine wpList_nil <| blkN <| thenN ?_
  have el_ : (d ++ ([0] : List Int)).length = (d ++ [0]).length := rfl
  exact ⟨id.toNat + 1 - (k + 1), by omega, k + 1, d ++ ([0] : List Int), A11, c12, rfl, by rw [hd, pad_step], by simp; omega, by exact hcc12, by omega, hA.sub (by and_intros <;> first | kernel_rfl | trivial), (hW.pick [1] (by decide) rfl).pickG [0] rfl⟩
 have h8 := of_decide_eq_false h8
 refine wp_exit <| thenX <| thenX <| blkX <| thenN <| wp_seq ?_
 have hpd_ := pad_done (c := c) (k := k) (id := id) (by omega) hk (by omega); rw [← hd] at hpd_
 refine wp_region_lit <| st_p (vS A d.length cc) hA fun ac hA => st_p (vI .i64 id) hA fun ac hA => st_p (vI .u64 (((id) * 281474976710656 + getC c (id)) + 1)) hA fun ac hA => st_s hA (Runs.callN (v := vT #[vI .i64 (((((id) * 281474976710656 + getC c (id)) + 1) : Int) / 281474976710656), vI .u64 (((((id) * 281474976710656 + getC c (id)) + 1) : Int) % 281474976710656)]) (fun _ => by kernel_rfl) hW (e_r3parts (((id) * 281474976710656 + getC c (id)) + 1) w7 (by first | omega | assumption | exact ⟨by omega, by omega⟩)) ?_); clear hA ac hW; intro w14 hW hfw14 ac hA
 refine st_p (vT #[vI .i64 (((((id) * 281474976710656 + getC c (id)) + 1) : Int) / 281474976710656), vI .u64 (((((id) * 281474976710656 + getC c (id)) + 1) : Int) % 281474976710656)]) hA fun ac hA => st_p (vI .i64 (((((id) * 281474976710656 + getC c (id)) + 1) : Int) / 281474976710656)) hA fun ac hA => st_p (vI .u64 (((((id) * 281474976710656 + getC c (id)) + 1) : Int) % 281474976710656)) hA fun ac hA => ?_
 obtain ⟨y15, hy15⟩ : ∃ y, d[Int.toNat (id)]? = some y := ⟨_, List.getElem?_eq_getElem (by first | omega | (simp; done) | (simp; omega))⟩
 obtain ⟨b16, o17, rfl, hbb16⟩ := row_some (rowR_at ((hW).get 0 rfl) elt_U8.len) hy15
 refine st_q (vP (some ⟨b16, o17 + (Int.toNat (id)) * 1, none⟩)) hA hW.cls (Rd.indexAddrI (e := 29) (sz := 1) (b := b16) (off := o17) (n := d.length) (c := cc) (k := id) (by kernel_rfl) (by kernel_rfl) (by omega) (by first | omega | (simp; done) | (simp; omega)) (fun _ => by kernel_rfl) (fun _ => by kernel_rfl)) ?_; clear hA ac; intro ac hA
 refine st_s hA (Runs.storeRow (E := 29) (sz := 1) (en := enU8) (b := b16) (off := o17) (k := Int.toNat (id)) (n := d.length) (c := cc) (v := vI .u64 (((((id) * 281474976710656 + getC c (id)) + 1) : Int) % 281474976710656)) (((((id) * 281474976710656 + getC c (id)) + 1) : Int) % 281474976710656 : Int) elt_U8 (by kernel_rfl) (by kernel_rfl) (by kernel_rfl) (by kernel_rfl) hW (i := 0) rfl (by first | omega | (simp; done) | (simp; omega)) (by first | rfl | omega | (simp; done) | (simp; omega)) ?_); clear hA ac hW; intro w18 hW ac hA
 refine wn <| wp_seq ?_
 have el_ : d.length = (List.set d (Int.toNat (id)) (((((id) * 281474976710656 + getC c (id)) + 1) : Int) % 281474976710656 : Int)).length := by simp
 rw [el_] at hA hW
 have eq_ := el_.symm.trans hdl
 replace hW : Ws w No [rowR 29 1 enU8 (vS (some ⟨b16, o17, none⟩) (List.set d (Int.toNat (id)) (((((id) * 281474976710656 + getC c (id)) + 1) : Int) % 281474976710656 : Int)).length cc) (List.set d (Int.toNat (id)) (((((id) * 281474976710656 + getC c (id)) + 1) : Int) % 281474976710656 : Int))] [roR A_c 1 enU8 c] w18 := hW
 refine wp_region_lit <| st_p (vS (some ⟨b16, o17, none⟩) (List.set d (Int.toNat (id)) (((((id) * 281474976710656 + getC c (id)) + 1) : Int) % 281474976710656 : Int)).length cc) hA ?_; clear hA ac; intro ac hA
 refine st_s hA (Runs.callRow (E := 29) (sz := 1) (en := enU8) (l := (trimC (List.set d (Int.toNat (id)) (((((id) * 281474976710656 + getC c (id)) + 1) : Int) % 281474976710656 : Int)))) (fun _ => by kernel_rfl) hW (e_r4trim (some ⟨b16, o17, none⟩) cc (List.set d (Int.toNat (id)) (((((id) * 281474976710656 + getC c (id)) + 1) : Int) % 281474976710656 : Int)) w18 (rowR_at ((hW).get 0 rfl) elt_U8.len) (own_cap ((hW).get 0 rfl)) (by first | omega | assumption | exact ⟨by omega, by omega⟩)) ?_); clear hA ac hW; intro A20 c21 w19 hW hcc21 hfw19 ac hA
 refine st_p (vS A20 (trimC (List.set d (Int.toNat (id)) (((((id) * 281474976710656 + getC c (id)) + 1) : Int) % 281474976710656 : Int))).length c21) hA fun ac hA => st_p (vI .i64 0) hA fun ac hA => wn <| wp_ret <| ret2 (v1 := vS A20 (trimC (List.set d (Int.toNat (id)) (((((id) * 281474976710656 + getC c (id)) + 1) : Int) % 281474976710656 : Int))).length c21) (v2 := vI .i64 0) (by rfl) hA (Got.tmp hA (by kernel_rfl) (by kernel_rfl)) (Got.tmp hA (by kernel_rfl) (by kernel_rfl)) ?_
 clear hA
 exact ⟨trimC (List.set d (Int.toNat (id)) (((((id) * 281474976710656 + getC c (id)) + 1) : Int) % 281474976710656 : Int)), A20, c21, by first | rfl | (simp; done), by unfold tick1; rw [← hpd_]; congr 2; omega, (own_cap ((hW).get 0 rfl)), (hW.outRow 0 rfl elt_U8.len (fun _ h => h)), hW.fr⟩

end Go.Proofs.YtjegpelofdopmaaGreatDoor.L
