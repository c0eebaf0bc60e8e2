/- Contracts, walked by program over the engine's laws. -/
import Derived.Test.YtjegpelofdopmaaGreatDoorProg
import Derived.Test.YtjegpelofdopmaaGreatDoorT18
namespace Go.Proofs.YtjegpelofdopmaaGreatDoor.L
open Go.RowKit
open Go.Value renaming int → vI, slice → vS, bool → vB, pointer → vP, func → vF, agg → vA, map → vM, tuple → vT

/-- A list with one's vector laid in its place. -/
def withL (L : List One4) (g : Int) (u : One4) : List One4 := L.filter (fun x => decide (x.w < g)) ++ u :: L.filter (fun x => decide (g < x.w))
theorem with_lt {L : List One4} {g : Int} {u : One4} (h : ∀ x ∈ L, x.w < g) : withL L g u = L ++ [u] := by
  unfold withL
  rw [List.filter_eq_self.2 (fun x hx => decide_eq_true (h x hx)), List.filter_eq_nil_iff.2 (fun x hx => by have := h x hx; simp; omega)]
theorem with_gt {L : List One4} {g : Int} {u y : One4} (h : g < y.w) : withL (L ++ [y]) g u = withL L g u ++ [y] := by
  unfold withL
  simp [List.filter_append, decide_eq_false (show ¬ y.w < g from by omega), decide_eq_true h]
theorem with_eq {L : List One4} {g : Int} {u y : One4} (h : y.w = g) : withL (L ++ [y]) g u = withL L g u := by
  unfold withL
  simp [List.filter_append, h]
theorem with_len (L : List One4) (g : Int) (u : One4) : (withL L g u).length ≤ L.length + 1 := by
  have h : ∀ l : List One4, (l.filter (fun x => decide (x.w < g))).length + (l.filter (fun x => decide (g < x.w))).length ≤ l.length := by
    intro l; induction l with
    | nil => simp
    | cons a l ih =>
      simp only [List.filter_cons, decide_eq_true_eq]
      by_cases h1 : a.w < g
      · rw [if_pos h1, if_neg (by omega)]; simp only [List.length_cons]; omega
      · rw [if_neg h1]; split <;> simp only [List.length_cons] <;> omega
  have := h L
  unfold withL; rw [List.length_append, List.length_cons]; omega
theorem th_len {Q : List Thg4} (h : ∀ x ∈ Q, x.cl.length ≤ 65536) (a o : Int) : (thK Q a o).length ≤ 65536 := by
  induction Q with
  | nil => simp [thK]
  | cons y Q ih =>
    unfold thK; split
    · exact h _ (.head _)
    · exact ih (fun z hz => h z (.tail _ hz))
def relL (Q : List Thg4) (a o : Int) (u : Thg4) : List Thg4 := u :: Q.filter (fun x => decide (¬ (x.kq = a ∧ x.oq = o)))
theorem rel_no {Q : List Thg4} {a o : Int} {u y : Thg4} (h : y.kq = a ∧ y.oq = o) : relL (Q ++ [y]) a o u = relL Q a o u := by
  unfold relL; simp [List.filter_append, h]
theorem rel_yes {Q : List Thg4} {a o : Int} {u y : Thg4} (h : ¬ (y.kq = a ∧ y.oq = o)) : relL (Q ++ [y]) a o u = relL Q a o u ++ [y] := by
  unfold relL; simp only [List.filter_append, List.filter_cons, decide_eq_true h, if_true, List.filter_nil, List.cons_append]
theorem srt_gt {L : List One4} {g : Int} {k : Nat} {y : One4} (h : L.Pairwise (fun a b => a.w < b.w)) (hy : L[k]? = some y) (he : ∃ x ∈ L.take k, g ≤ x.w) : g < y.w := by
  obtain ⟨x, hx, hg⟩ := he
  have h1 : (L.take k ++ [y]).Pairwise (fun a b => a.w < b.w) := by rw [← tk_snoc hy]; exact h.sublist (List.take_sublist _ _)
  have := (List.pairwise_append.1 h1).2.2 x hx y (.head _)
  omega
set_option maxRecDepth 100000 in
theorem e_kthing4 (en : Int) (A_L : Option Addr) (c_L : Nat) (L : List One4) (A_Q : Option Addr) (c_Q : Nat) (Q : List Thg4) (a : Int) (o : Int) (w : World) (hr_L : RowAt w A_L 2 enOne4 L) (hc_L : L.length ≤ c_L) (hn_L : (nestR innerOne4 L).p w) (hk_L : ∀ x_ ∈ L, capOne4 x_) (hr_Q : RowAt w A_Q 3 enThg4 Q) (hc_Q : Q.length ≤ c_Q) (hn_Q : (nestR innerThg4 Q).p w) (hk_Q : ∀ x_ ∈ Q, capThg4 x_) (hL : L.length ≤ 100000) (hQ : Q.length ≤ 100000) (hLc : ∀ x ∈ L, x.cl.length ≤ 65536) (hQc : ∀ x ∈ Q, x.cl.length ≤ 65536) (ha : -9223372036854775808 ≤ a ∧ a ≤ 9223372036854775807) (ho : -9223372036854775808 ≤ o ∧ o ≤ 9223372036854775807) : Calls Tryz.prog 46 #[vA #[vI .u64 en, vS A_L L.length c_L, vS A_Q Q.length c_Q], vI .i64 a, vI .i64 o] w (fun e w' => ∃ (A_ow : Option Addr) (c_ow : Nat), e = .returned (vS A_ow (thK Q a o).length c_ow) ∧ (thK Q a o).length ≤ c_ow ∧ (roR A_ow 1 enU8 (thK Q a o)).from_ [roR A_L 2 enOne4 L, nestR innerOne4 L, roR A_Q 3 enThg4 Q, nestR innerThg4 Q] w w' ∧ Fr No w w') := by
 have _hu := hc_L; have _hv := hr_L; clear _hu _hv
 have _hu := hk_L; have _hv := hn_L; clear _hu _hv
 have _hu := hc_Q; have _hv := hr_Q; clear _hu _hv
 have _hu := hk_Q; have _hv := hn_Q; clear _hu _hv
 have _hu := hL; clear _hu
 have _hu := hQ; clear _hu
 have _hu := hLc; clear _hu
 have _hu := hQc; clear _hu
 have _hu := ha; clear _hu
 have _hu := ho; clear _hu
 refine enter_E 39 Tryz.func46 rfl rfl (by kernel_rfl) (L := [(0, vA #[vI .u64 en, vS A_L L.length c_L, vS A_Q Q.length c_Q]), (1, vI .i64 a), (2, vI .i64 o)]) (by kernel_rfl) ?_
 intro ac hA
 have hW := Ws.start w No
 have hW := hW.arg hr_L
 have hW := hW.addG _ hn_L (nest_ltOne4 hn_L) (by simp)
 have hW := hW.arg hr_Q
 have hW := hW.addG _ hn_Q (nest_ltThg4 hn_Q) (by simp)
 refine wr <| st_s hA (Runs.cells (fun b => pA b 0) #[vI .u64 en, vS A_L L.length c_L, vS A_Q Q.length c_Q] 61 (fun _ => by kernel_rfl) hW ?_); clear hA ac hW; intro b1 w2 hW hb1 hfw2 ac hA
 refine st_p (vS none 0 0) hA ?_; clear hA ac; intro ac hA
 refine wn <| wp_seq <| wr <| st_p (vI .i64 0) hA ?_; clear hA ac; intro ac hA
 refine wn <| wp_block <| wp_loop_m (fun m_ ac_ wl_ => ∃ k : Nat, m_ = Q.length - k ∧ (k ≤ Q.length) ∧ (∀ x ∈ Q.take k, ¬ (x.kq = a ∧ x.oq = o)) ∧ Fm 39 [] [(1, vI .i64 a), (2, vI .i64 o), (3, pA b1 0), (6, vS none 0 0), (7, vI .i64 (k : Int))] ac_ ∧ Ws w No [Cel b1 #[vI .u64 en, vS A_L L.length c_L, vS A_Q Q.length c_Q] 61] [nestR innerThg4 Q, roR A_Q 3 enThg4 Q, nestR innerOne4 L, roR A_L 2 enOne4 L] wl_) _ ⟨0, rfl, by omega, by simp, hA.sub (by and_intros <;> first | kernel_rfl | trivial), (hW.pick [0] (by decide) rfl).pickG [0, 1, 2, 3] rfl⟩ ?_
 clear hA ac hW; rintro m_ ac w3 ⟨k, rfl, hk, hn, hA, hW⟩
 refine wp_seq <| wr <| st_p (vI .i64 (k : Int)) hA fun ac hA => st_p (pA b1 2) hA fun ac hA => st_q (vS A_Q Q.length c_Q) hA hW.cls (rl b1 2 0) fun ac hA => st_p (vI .i64 (Q.length : Int)) hA fun ac hA => st_p (vB (decide ((k : Int) < (Q.length : Int)))) hA fun ac hA => wn <| wp_cond_split (t := decide ((k : Int) < (Q.length : Int))) (hA.eval (by kernel_rfl)) (fun h4 => ?_) (fun h4 => ?_)
 ·
  have h4 := of_decide_eq_true h4
  refine wp_skip <| thenN <| wp_seq <| wp_block <| wr <| st_p (pA b1 2) hA fun ac hA => st_q (vS A_Q Q.length c_Q) hA hW.cls (rl b1 2 0) fun ac hA => st_p (vI .i64 (k : Int)) hA fun ac hA => ?_
  obtain ⟨y5, hy5⟩ : ∃ y, Q[k]? = some y := ⟨_, List.getElem?_eq_getElem (by first | omega | (simp; done) | (simp; omega))⟩
  rcases y5 with ⟨y5_kq, y5_oq, y5_cl, y5_cl_A, y5_cl_c⟩
  obtain ⟨b6, o7, rfl, hbb6⟩ := row_some ((hW).getG 1 rfl) hy5
  refine st_q (vP (some ⟨b6, o7 + k * 3, none⟩)) hA hW.cls (Rd.indexAddr (e := 140) (sz := 3) (b := b6) (off := o7) (n := Q.length) (c := c_Q) (k := k) (by kernel_rfl) (by kernel_rfl) (by first | omega | (simp; done) | (simp; omega)) (fun _ => by kernel_rfl) (fun _ => by kernel_rfl)) fun ac hA => st_p (vP (some ⟨b6, o7 + k * 3, none⟩)) hA fun ac hA => st_q (vI .i64 y5_kq) hA hW.cls (Rd.loadRow (b := b6) (i := o7 + k * 3) (xs := [vI .i64 y5_kq]) (by kernel_rfl) (fun _ hw => row_ld ((hw.1).getG 1 rfl) hy5 (Fr.refl No _) (fun h => h) 0 1 (by kernel_rfl)) (by kernel_rfl)) fun ac hA => st_p (vI .i64 a) hA fun ac hA => st_p (vB ((y5_kq : Int) == (a : Int))) hA fun ac hA => st_p (vB ((y5_kq : Int) == (a : Int))) hA fun ac hA => ?_
  rcases Bool.eq_false_or_eq_true ((y5_kq : Int) == (a : Int)) with h8 | h8
  ·
   rw [h8] at hA
   have h8 := eq_of_beq h8
   refine st_p (pA b1 2) hA fun ac hA => st_q (vS (some ⟨b6, o7, none⟩) Q.length c_Q) hA hW.cls (rl b1 2 0) fun ac hA => st_p (vI .i64 (k : Int)) hA fun ac hA => st_q (vP (some ⟨b6, o7 + k * 3, none⟩)) hA hW.cls (Rd.indexAddr (e := 140) (sz := 3) (b := b6) (off := o7) (n := Q.length) (c := c_Q) (k := k) (by kernel_rfl) (by kernel_rfl) (by first | omega | (simp; done) | (simp; omega)) (fun _ => by kernel_rfl) (fun _ => by kernel_rfl)) fun ac hA => st_p (vP (some ⟨b6, o7 + k * 3 + 1, none⟩)) hA fun ac hA => st_q (vI .i64 y5_oq) hA hW.cls (Rd.loadRow (b := b6) (i := o7 + k * 3 + 1) (xs := [vI .i64 y5_oq]) (by kernel_rfl) (fun _ hw => row_ld ((hw.1).getG 1 rfl) hy5 (Fr.refl No _) (fun h => h) 1 1 (by kernel_rfl)) (by kernel_rfl)) fun ac hA => st_p (vI .i64 o) hA fun ac hA => st_p (vB ((y5_oq : Int) == (o : Int))) hA fun ac hA => st_p (vB ((y5_oq : Int) == (o : Int))) hA fun ac hA => wn <| wp_cond_split (t := (y5_oq : Int) == (o : Int)) (hA.eval (by kernel_rfl)) (fun h9 => ?_) (fun h9 => ?_)
   ·
    have h9 := eq_of_beq h9
    refine wr <| st_p (pA b1 2) hA fun ac hA => st_q (vS (some ⟨b6, o7, none⟩) Q.length c_Q) hA hW.cls (rl b1 2 0) fun ac hA => st_p (vI .i64 (k : Int)) hA fun ac hA => st_q (vP (some ⟨b6, o7 + k * 3, none⟩)) hA hW.cls (Rd.indexAddr (e := 140) (sz := 3) (b := b6) (off := o7) (n := Q.length) (c := c_Q) (k := k) (by kernel_rfl) (by kernel_rfl) (by first | omega | (simp; done) | (simp; omega)) (fun _ => by kernel_rfl) (fun _ => by kernel_rfl)) fun ac hA => st_p (vP (some ⟨b6, o7 + k * 3 + 2, none⟩)) hA fun ac hA => ?_
    have hW := hW.nestAt 0 rfl (List.mem_of_getElem? hy5)
    have hc_y5_cl : y5_cl.length ≤ y5_cl_c := hk_Q _ (List.mem_of_getElem? hy5)
    have hsy5_cl : Res.src (roR y5_cl_A 1 enU8 y5_cl) [roR A_L 2 enOne4 L, nestR innerOne4 L, roR (some ⟨b6, o7, none⟩) 3 enThg4 Q, nestR innerThg4 Q] w := nsrc_at (inner := innerThg4) (x := (⟨y5_kq, y5_oq, y5_cl, y5_cl_A, y5_cl_c⟩ : Thg4)) (src_arg (.tail _ (.tail _ (.tail _ (.head _))))) (List.mem_of_getElem? hy5)
    replace hW : Ws w No [Cel b1 #[vI .u64 en, vS A_L L.length c_L, vS (some ⟨b6, o7, none⟩) Q.length c_Q] 61] [roR y5_cl_A 1 enU8 y5_cl, nestR innerThg4 Q, roR (some ⟨b6, o7, none⟩) 3 enThg4 Q, nestR innerOne4 L, roR A_L 2 enOne4 L] w3 := hW
    refine st_q (vS y5_cl_A y5_cl.length y5_cl_c) hA hW.cls (Rd.loadRow (b := b6) (i := o7 + k * 3 + 2) (xs := [vS y5_cl_A y5_cl.length y5_cl_c]) (by kernel_rfl) (fun _ hw => row_ld ((hw.1).getG 2 rfl) hy5 (Fr.refl No _) (fun h => h) 2 1 (by kernel_rfl)) (by kernel_rfl)) fun ac hA => st_p (vS y5_cl_A y5_cl.length y5_cl_c) hA fun ac hA => wn <| wp_ret <| blkR <| thenR <| thenR <| blkR <| thenR <| r1 (vS y5_cl_A y5_cl.length y5_cl_c) hA ?_
    clear hA
    rw [show thK Q a o = y5_cl from th_yes hn hy5 (by exact ⟨by omega, by omega⟩)]
    exact ⟨y5_cl_A, y5_cl_c, by first | rfl | (simp; done), (by first | assumption | omega | (simp; omega) | simp), (hW.outSrc 0 rfl hsy5_cl), hW.fr⟩
   have h9 := ne_of_beq_false h9
   refine wp_skip <| blkN <| thenN <| wp_region_lit <| st_p (vI .i64 (k : Int)) hA fun ac hA => st_q (vI .i64 ((k + 1 : Nat) : Int)) hA hW.cls (Rd.pureE (v0 := vI .i64 (IntKind.i64.wrap ((k : Int) + 1))) (fun _ => by kernel_rfl) (congrArg (vI .i64) ((w_i64 (x := (k : Int) + 1) (by omega) (by omega)).trans (by omega)))) fun ac hA => st_p (vI .i64 ((k + 1 : Nat) : Int)) hA fun ac hA => wn ?_
   exact ⟨Q.length - (k + 1), by omega, k + 1, rfl, by omega, by intro x_ hx_; rw [tk_snoc hy5] at hx_; rcases List.mem_append.1 hx_ with hx_ | hx_; exact hn x_ hx_; (rw [List.mem_singleton.1 hx_]; show ¬ (y5_kq = a ∧ y5_oq = o); omega), hA.sub (by and_intros <;> first | kernel_rfl | trivial), (hW.pick [0] (by decide) rfl).pickG [0, 1, 2, 3] rfl⟩
  rw [h8] at hA
  have h8 := ne_of_beq_false h8
  refine st_k hA fun ac hA => st_k hA fun ac hA => st_k hA fun ac hA => st_k hA fun ac hA => st_k hA fun ac hA => st_k hA fun ac hA => st_k hA fun ac hA => st_k hA fun ac hA => st_p (vB false) hA fun ac hA => wn <| wp_cond_false (hA.eval (by kernel_rfl)) <| wp_skip <| blkN <| thenN <| wp_region_lit <| st_p (vI .i64 (k : Int)) hA fun ac hA => st_q (vI .i64 ((k + 1 : Nat) : Int)) hA hW.cls (Rd.pureE (v0 := vI .i64 (IntKind.i64.wrap ((k : Int) + 1))) (fun _ => by kernel_rfl) (congrArg (vI .i64) ((w_i64 (x := (k : Int) + 1) (by omega) (by omega)).trans (by omega)))) fun ac hA => st_p (vI .i64 ((k + 1 : Nat) : Int)) hA fun ac hA => wn ?_
  exact ⟨Q.length - (k + 1), by omega, k + 1, rfl, by omega, by intro x_ hx_; rw [tk_snoc hy5] at hx_; rcases List.mem_append.1 hx_ with hx_ | hx_; exact hn x_ hx_; (rw [List.mem_singleton.1 hx_]; show ¬ (y5_kq = a ∧ y5_oq = o); omega), hA.sub (by and_intros <;> first | kernel_rfl | trivial), (hW.pick [0] (by decide) rfl).pickG [0, 1, 2, 3] rfl⟩
 have h4 := of_decide_eq_false h4
 refine wp_exit <| thenX <| thenX <| blkX <| thenN <| wr <| st_p (vS none 0 0) hA ?_; clear hA ac; intro ac hA
 refine wn <| wp_ret <| r1 (vS none 0 0) hA ?_
 clear hA
 rw [show thK Q a o = [] from th_no (fun x_ hx_ => hn x_ (by rwa [List.take_of_length_le (by omega)]))]
 exact ⟨none, 0, by first | rfl | (simp; done), (by simp), from_nil, hW.fr⟩

set_option maxRecDepth 100000 in
theorem e_kwith (en : Int) (A_L : Option Addr) (c_L : Nat) (L : List One4) (A_Q : Option Addr) (c_Q : Nat) (Q : List Thg4) (g : Int) (A_x : Option Addr) (c_x : Nat) (x : List Int) (w : World) (hr_L : RowAt w A_L 2 enOne4 L) (hc_L : L.length ≤ c_L) (hn_L : (nestR innerOne4 L).p w) (hk_L : ∀ x_ ∈ L, capOne4 x_) (hr_Q : RowAt w A_Q 3 enThg4 Q) (hc_Q : Q.length ≤ c_Q) (hn_Q : (nestR innerThg4 Q).p w) (hk_Q : ∀ x_ ∈ Q, capThg4 x_) (hr_x : RowAt w A_x 1 enU8 x) (hc_x : x.length ≤ c_x) (hL : L.length ≤ 100000) (hQ : Q.length ≤ 100000) (hLc : ∀ x ∈ L, x.cl.length ≤ 65536) (hQc : ∀ x ∈ Q, x.cl.length ≤ 65536) (hg : -9223372036854775808 ≤ g ∧ g ≤ 9223372036854775807) (hx : x.length ≤ 65536) (hs : L.Pairwise (fun a b => a.w < b.w)) : Calls Tryz.prog 48 #[vA #[vI .u64 en, vS A_L L.length c_L, vS A_Q Q.length c_Q], vI .i64 g, vS A_x x.length c_x] w (fun e w' => ∃ L' : List One4, ∃ (A_oL : Option Addr) (c_oL : Nat), ∃ (A_oQ : Option Addr) (c_oQ : Nat), e = .returned (vA #[vI .u64 en, vS A_oL L'.length c_oL, vS A_oQ Q.length c_oQ]) ∧ (∃ u : One4, u.w = g ∧ u.cl = x ∧ L' = withL L g u) ∧ L'.length ≤ c_oL ∧ Q.length ≤ c_oQ ∧ (∀ x_ ∈ (L'), capOne4 x_) ∧ (∀ x_ ∈ (Q), capThg4 x_) ∧ (roR A_oL 2 enOne4 L').from_ [roR A_L 2 enOne4 L, nestR innerOne4 L, roR A_Q 3 enThg4 Q, nestR innerThg4 Q, roR A_x 1 enU8 x] w w' ∧ (roR A_oQ 3 enThg4 Q).from_ [roR A_L 2 enOne4 L, nestR innerOne4 L, roR A_Q 3 enThg4 Q, nestR innerThg4 Q, roR A_x 1 enU8 x] w w' ∧ (nestR innerOne4 L').from_ [roR A_L 2 enOne4 L, nestR innerOne4 L, roR A_Q 3 enThg4 Q, nestR innerThg4 Q, roR A_x 1 enU8 x] w w' ∧ (nestR innerThg4 Q).from_ [roR A_L 2 enOne4 L, nestR innerOne4 L, roR A_Q 3 enThg4 Q, nestR innerThg4 Q, roR A_x 1 enU8 x] w w' ∧ Fr No w w') := by
 have _hu := hc_L; have _hv := hr_L; clear _hu _hv
 have _hu := hk_L; have _hv := hn_L; clear _hu _hv
 have _hu := hc_Q; have _hv := hr_Q; clear _hu _hv
 have _hu := hk_Q; have _hv := hn_Q; clear _hu _hv
 have _hu := hc_x; have _hv := hr_x; clear _hu _hv
 have _hu := hL; clear _hu
 have _hu := hQ; clear _hu
 have _hu := hLc; clear _hu
 have _hu := hQc; clear _hu
 have _hu := hg; clear _hu
 have _hu := hx; clear _hu
 have _hu := hs; clear _hu
 refine enter_E 62 Tryz.func48 rfl rfl (by kernel_rfl) (L := [(0, vA #[vI .u64 en, vS A_L L.length c_L, vS A_Q Q.length c_Q]), (1, vI .i64 g), (2, vS A_x x.length c_x)]) (by kernel_rfl) ?_
 intro ac hA
 have hW := Ws.start w No
 have hW := hW.arg hr_L
 have hW := hW.addG _ hn_L (nest_ltOne4 hn_L) (by simp)
 have hW := hW.arg hr_Q
 have hW := hW.addG _ hn_Q (nest_ltThg4 hn_Q) (by simp)
 have hW := hW.arg hr_x
 refine wr <| st_s hA (Runs.cells (fun b => pA b 0) #[vI .u64 en, vS A_L L.length c_L, vS A_Q Q.length c_Q] 61 (fun _ => by kernel_rfl) hW ?_); clear hA ac hW; intro b1 w2 hW hb1 hfw2 ac hA
 refine st_s hA (Runs.cells (fun b => pA b 0) #[vI .u64 0, vS none 0 0, vS none 0 0] 61 (fun _ => by kernel_rfl) hW ?_); clear hA ac hW; intro b3 w4 hW hb3 hfw4 ac hA
 refine wn <| wr <| st_p (vS none 0 0) hA ?_; clear hA ac; intro ac hA
 refine wn <| wr <| st_p (vB false) hA ?_; clear hA ac; intro ac hA
 refine wn <| wp_seq <| wr <| st_p (vI .i64 0) hA ?_; clear hA ac; intro ac hA
 refine wn <| wp_block ?_
 have hW := hW.addNil 104 2 enOne4
 have hW := hW.nestNil innerOne4
 have hknq5 : ∀ x_ ∈ ([] : List One4), capOne4 x_ := all_nil
 have hsnq5 : Res.src (nestR innerOne4 ([] : List One4)) [roR A_L 2 enOne4 L, nestR innerOne4 L, roR A_Q 3 enThg4 Q, nestR innerThg4 Q, roR A_x 1 enU8 x] w := nsrc_nil
 refine wp_loop_m (fun m_ ac_ wl_ => ∃ k : Nat, ∃ th : Bool, ∃ d : List One4, ∃ A : Option Addr, ∃ cc : Nat, m_ = L.length - k ∧ (k ≤ L.length) ∧ (d = if th then withL (L.take k) g (⟨g, x, A_x, c_x⟩ : One4) else L.take k) ∧ (th = false → ∀ x ∈ L.take k, x.w < g) ∧ (th = true → ∃ x ∈ L.take k, g ≤ x.w) ∧ (d.length ≤ cc) ∧ (∀ x_ ∈ d, capOne4 x_) ∧ (Res.src (nestR innerOne4 d) [roR A_L 2 enOne4 L, nestR innerOne4 L, roR A_Q 3 enThg4 Q, nestR innerThg4 Q, roR A_x 1 enU8 x] w) ∧ Fm 62 [] [(0, vA #[vI .u64 en, vS A_L L.length c_L, vS A_Q Q.length c_Q]), (1, vI .i64 g), (2, vS A_x x.length c_x), (3, pA b1 0), (6, pA b3 0), (7, vS A d.length cc), (8, vB th), (9, vI .i64 (k : Int))] ac_ ∧ Ws w No [rowR 104 2 enOne4 (vS A d.length cc) d, Cel b3 #[vI .u64 0, vS none 0 0, vS none 0 0] 61, Cel b1 #[vI .u64 en, vS A_L L.length c_L, vS A_Q Q.length c_Q] 61] [nestR innerOne4 d, roR A_x 1 enU8 x, nestR innerThg4 Q, roR A_Q 3 enThg4 Q, nestR innerOne4 L, roR A_L 2 enOne4 L] wl_) _ ⟨0, false, [], none, 0, rfl, by omega, by rfl, by simp, by exact fun q_ => absurd q_ (by decide), by simp, by exact all_nil, by exact nsrc_nil, hA.sub (by and_intros <;> first | kernel_rfl | trivial), (hW.pick [0, 1, 2] (by decide) rfl).pickG [0, 1, 2, 3, 4, 5] rfl⟩ ?_
 clear hA ac hW; rintro m_ ac w6 ⟨k, th, d, A, cc, rfl, hk, hd, hf, ht, hcc, hkD, hsD, hA, hW⟩
 have hdl_ : d.length ≤ k + 1 := by have q_ := with_len (L.take k) g (⟨g, x, A_x, c_x⟩ : One4); rw [hd]; split <;> (try rw [List.length_take] at q_) <;> (try rw [List.length_take]) <;> omega
 refine wp_seq <| wr <| st_p (vI .i64 (k : Int)) hA fun ac hA => st_p (pA b1 1) hA fun ac hA => st_q (vS A_L L.length c_L) hA hW.cls (rl b1 1 2) fun ac hA => st_p (vI .i64 (L.length : Int)) hA fun ac hA => st_p (vB (decide ((k : Int) < (L.length : Int)))) hA fun ac hA => wn <| wp_cond_split (t := decide ((k : Int) < (L.length : Int))) (hA.eval (by kernel_rfl)) (fun h7 => ?_) (fun h7 => ?_)
 ·
  have h7 := of_decide_eq_true h7
  refine wp_skip <| thenN <| wp_seq <| wp_block <| wp_seq <| wr <| st_p (vB th) hA fun ac hA => st_p (vB (!th)) hA fun ac hA => st_p (vB (!th)) hA fun ac hA => ?_
  rcases Bool.eq_false_or_eq_true (!th) with h8 | h8
  ·
   rw [h8] at hA
   have h8 := not_t h8
   refine st_p (pA b1 1) hA fun ac hA => st_q (vS A_L L.length c_L) hA hW.cls (rl b1 1 2) fun ac hA => st_p (vI .i64 (k : Int)) hA fun ac hA => ?_
   obtain ⟨y9, hy9⟩ : ∃ y, L[k]? = some y := ⟨_, List.getElem?_eq_getElem (by first | omega | (simp; done) | (simp; omega))⟩
   rcases y9 with ⟨y9_w, y9_cl, y9_cl_A, y9_cl_c⟩
   obtain ⟨b10, o11, rfl, hbb10⟩ := row_some ((hW).getG 5 rfl) hy9
   refine st_q (vP (some ⟨b10, o11 + k * 2, none⟩)) hA hW.cls (Rd.indexAddr (e := 104) (sz := 2) (b := b10) (off := o11) (n := L.length) (c := c_L) (k := k) (by kernel_rfl) (by kernel_rfl) (by first | omega | (simp; done) | (simp; omega)) (fun _ => by kernel_rfl) (fun _ => by kernel_rfl)) fun ac hA => st_p (vP (some ⟨b10, o11 + k * 2, none⟩)) hA fun ac hA => st_q (vI .i64 y9_w) hA hW.cls (Rd.loadRow (b := b10) (i := o11 + k * 2) (xs := [vI .i64 y9_w]) (by kernel_rfl) (fun _ hw => row_ld ((hw.1).getG 5 rfl) hy9 (Fr.refl No _) (fun h => h) 0 1 (by kernel_rfl)) (by kernel_rfl)) fun ac hA => st_p (vI .i64 g) hA fun ac hA => st_p (vB (decide ((y9_w : Int) ≥ (g : Int)))) hA fun ac hA => st_p (vB (decide ((y9_w : Int) ≥ (g : Int)))) hA fun ac hA => wn <| wp_cond_split (t := decide ((y9_w : Int) ≥ (g : Int))) (hA.eval (by kernel_rfl)) (fun h12 => ?_) (fun h12 => ?_)
   ·
    have h12 := of_decide_eq_true h12
    refine wr <| st_p (vS A d.length cc) hA fun ac hA => st_p (vI .i64 g) hA fun ac hA => st_p (vS A_x x.length c_x) hA fun ac hA => st_p (vA #[vI .i64 g, vS A_x x.length c_x]) hA fun ac hA => st_s hA (Runs.cells (fun b => vS (some ⟨b, 0, none⟩) 1 1) #[vI .i64 g, vS A_x x.length c_x] 104 (fun _ => by kernel_rfl) hW ?_); clear hA ac hW; intro b13 w14 hW hb13 hfw14 ac hA
    have hW := hW.nestNil innerOne4
    have hknq15 : ∀ x_ ∈ ([] : List One4), capOne4 x_ := all_nil
    have hsnq15 : Res.src (nestR innerOne4 ([] : List One4)) [roR (some ⟨b10, o11, none⟩) 2 enOne4 L, nestR innerOne4 L, roR A_Q 3 enThg4 Q, nestR innerThg4 Q, roR A_x 1 enU8 x] w := nsrc_nil
    have hcq16 : x.length ≤ c_x := (by first | assumption | omega | (simp; omega) | simp)
    have hW := Ws.nestCons (inner := innerOne4) hW 0 rfl (⟨g, x, A_x, c_x⟩ : One4) (hW.getG 2 rfl) (fun _ hb_ => ⟨_, List.mem_of_getElem? (i := 2) rfl, hb_⟩)
    have hknq17 : ∀ x_ ∈ ([(⟨g, x, A_x, c_x⟩ : One4)] : List One4), capOne4 x_ := all_cons hcq16 hknq15
    have hsnq17 : Res.src (nestR innerOne4 ([(⟨g, x, A_x, c_x⟩ : One4)] : List One4)) [roR (some ⟨b10, o11, none⟩) 2 enOne4 L, nestR innerOne4 L, roR A_Q 3 enThg4 Q, nestR innerThg4 Q, roR A_x 1 enU8 x] w := nsrc_cons (src_arg (.tail _ (.tail _ (.tail _ (.tail _ (.head _)))))) hsnq15
    have hW := hW.nestApp 2 0 rfl rfl
    have hknq18 : ∀ x_ ∈ (d ++ ([(⟨g, x, A_x, c_x⟩ : One4)] : List One4)), capOne4 x_ := all_app hkD hknq17
    have hsnq18 : Res.src (nestR innerOne4 (d ++ ([(⟨g, x, A_x, c_x⟩ : One4)] : List One4))) [roR (some ⟨b10, o11, none⟩) 2 enOne4 L, nestR innerOne4 L, roR A_Q 3 enThg4 Q, nestR innerThg4 Q, roR A_x 1 enU8 x] w := nsrc_app hsD hsnq17
    refine st_s hA (Runs.appOwn (B := (some ⟨b13, 0, none⟩)) (k := 1) (E := 104) (sz := 2) (en := enOne4) (l := d) (m := ([(⟨g, x, A_x, c_x⟩ : One4)] : List One4)) (i := 1) (by kernel_rfl) (by kernel_rfl) elt_One4 (by kernel_rfl) hW rfl (rowAt_cel ((hW).cel 0 rfl) ([(⟨g, x, A_x, c_x⟩ : One4)] : List One4) (by rfl) elt_One4.len) (by first | omega | (simp; done) | (simp; omega)) (by first | omega | (simp; done) | (simp; omega)) ?_); clear hA ac hW; intro A19 c20 w21 hW hcc20 ac hA
    refine st_p (vS A19 (d ++ ([(⟨g, x, A_x, c_x⟩ : One4)] : List One4)).length c20) hA ?_; clear hA ac; intro ac hA
    refine wn <| wp_region_lit <| st_p (vB true) hA ?_; clear hA ac; intro ac hA
    refine wn <| wr <| st_p (pA b1 1) hA fun ac hA => st_q (vS (some ⟨b10, o11, none⟩) L.length c_L) hA hW.cls (rl b1 1 3) fun ac hA => st_p (vI .i64 (k : Int)) hA fun ac hA => st_q (vP (some ⟨b10, o11 + k * 2, none⟩)) hA hW.cls (Rd.indexAddr (e := 104) (sz := 2) (b := b10) (off := o11) (n := L.length) (c := c_L) (k := k) (by kernel_rfl) (by kernel_rfl) (by first | omega | (simp; done) | (simp; omega)) (fun _ => by kernel_rfl) (fun _ => by kernel_rfl)) fun ac hA => st_p (vP (some ⟨b10, o11 + k * 2, none⟩)) hA fun ac hA => st_q (vI .i64 y9_w) hA hW.cls (Rd.loadRow (b := b10) (i := o11 + k * 2) (xs := [vI .i64 y9_w]) (by kernel_rfl) (fun _ hw => row_ld ((hw.1).getG 8 rfl) hy9 (Fr.refl No _) (fun h => h) 0 1 (by kernel_rfl)) (by kernel_rfl)) fun ac hA => st_p (vI .i64 g) hA fun ac hA => st_p (vB ((y9_w : Int) != (g : Int))) hA fun ac hA => wn <| wp_cond_split (t := (y9_w : Int) != (g : Int)) (hA.eval (by kernel_rfl)) (fun h22 => ?_) (fun h22 => ?_)
    ·
     have h22 := bne_iff_ne.1 h22
     refine wp_region_lit <| st_p (vS A19 (d ++ ([(⟨g, x, A_x, c_x⟩ : One4)] : List One4)).length c20) hA fun ac hA => st_p (pA b1 1) hA fun ac hA => st_q (vS (some ⟨b10, o11, none⟩) L.length c_L) hA hW.cls (rl b1 1 3) fun ac hA => st_p (vI .i64 (k : Int)) hA fun ac hA => st_q (vP (some ⟨b10, o11 + k * 2, none⟩)) hA hW.cls (Rd.indexAddr (e := 104) (sz := 2) (b := b10) (off := o11) (n := L.length) (c := c_L) (k := k) (by kernel_rfl) (by kernel_rfl) (by first | omega | (simp; done) | (simp; omega)) (fun _ => by kernel_rfl) (fun _ => by kernel_rfl)) fun ac hA => ?_
     have hW := hW.nestAt 7 rfl (List.mem_of_getElem? hy9)
     have hc_y9_cl : y9_cl.length ≤ y9_cl_c := hk_L _ (List.mem_of_getElem? hy9)
     have hsy9_cl : Res.src (roR y9_cl_A 1 enU8 y9_cl) [roR (some ⟨b10, o11, none⟩) 2 enOne4 L, nestR innerOne4 L, roR A_Q 3 enThg4 Q, nestR innerThg4 Q, roR A_x 1 enU8 x] w := nsrc_at (inner := innerOne4) (x := (⟨y9_w, y9_cl, y9_cl_A, y9_cl_c⟩ : One4)) (src_arg (.tail _ (.head _))) (List.mem_of_getElem? hy9)
     replace hW : Ws w No [Cel b13 #[vI .i64 g, vS A_x x.length c_x] 104, rowR 104 2 enOne4 (vS A19 (d ++ ([(⟨g, x, A_x, c_x⟩ : One4)] : List One4)).length c20) (d ++ ([(⟨g, x, A_x, c_x⟩ : One4)] : List One4)), Cel b3 #[vI .u64 0, vS none 0 0, vS none 0 0] 61, Cel b1 #[vI .u64 en, vS (some ⟨b10, o11, none⟩) L.length c_L, vS A_Q Q.length c_Q] 61] [roR y9_cl_A 1 enU8 y9_cl, nestR innerOne4 (d ++ ([(⟨g, x, A_x, c_x⟩ : One4)] : List One4)), nestR innerOne4 ([(⟨g, x, A_x, c_x⟩ : One4)] : List One4), nestR innerOne4 ([] : List One4), nestR innerOne4 d, roR A_x 1 enU8 x, nestR innerThg4 Q, roR A_Q 3 enThg4 Q, nestR innerOne4 L, roR (some ⟨b10, o11, none⟩) 2 enOne4 L] w21 := hW
     refine st_q (vA #[vI .i64 y9_w, vS y9_cl_A y9_cl.length y9_cl_c]) hA hW.cls (Rd.loadRow (b := b10) (i := o11 + k * 2) (xs := [vI .i64 y9_w, vS y9_cl_A y9_cl.length y9_cl_c]) (by kernel_rfl) (fun _ hw => row_ld ((hw.1).getG 9 rfl) hy9 (Fr.refl No _) (fun h => h) 0 2 (by kernel_rfl)) (by kernel_rfl)) ?_; clear hA ac; intro ac hA
     refine st_s hA (Runs.cells (fun b => vS (some ⟨b, 0, none⟩) 1 1) #[vI .i64 y9_w, vS y9_cl_A y9_cl.length y9_cl_c] 104 (fun _ => by kernel_rfl) hW ?_); clear hA ac hW; intro b23 w24 hW hb23 hfw24 ac hA
     have hcq25 : y9_cl.length ≤ y9_cl_c := (by first | assumption | omega | (simp; omega) | simp)
     have hW := Ws.nestCons (inner := innerOne4) hW 3 rfl (⟨y9_w, y9_cl, y9_cl_A, y9_cl_c⟩ : One4) (hW.getG 0 rfl) (fun _ hb_ => ⟨_, List.mem_of_getElem? (i := 0) rfl, hb_⟩)
     have hknq26 : ∀ x_ ∈ ([(⟨y9_w, y9_cl, y9_cl_A, y9_cl_c⟩ : One4)] : List One4), capOne4 x_ := all_cons hcq25 hknq15
     have hsnq26 : Res.src (nestR innerOne4 ([(⟨y9_w, y9_cl, y9_cl_A, y9_cl_c⟩ : One4)] : List One4)) [roR (some ⟨b10, o11, none⟩) 2 enOne4 L, nestR innerOne4 L, roR A_Q 3 enThg4 Q, nestR innerThg4 Q, roR A_x 1 enU8 x] w := nsrc_cons hsy9_cl hsnq15
     have hW := hW.nestApp 2 0 rfl rfl
     have hknq27 : ∀ x_ ∈ ((d ++ ([(⟨g, x, A_x, c_x⟩ : One4)] : List One4)) ++ ([(⟨y9_w, y9_cl, y9_cl_A, y9_cl_c⟩ : One4)] : List One4)), capOne4 x_ := all_app hknq18 hknq26
     have hsnq27 : Res.src (nestR innerOne4 ((d ++ ([(⟨g, x, A_x, c_x⟩ : One4)] : List One4)) ++ ([(⟨y9_w, y9_cl, y9_cl_A, y9_cl_c⟩ : One4)] : List One4))) [roR (some ⟨b10, o11, none⟩) 2 enOne4 L, nestR innerOne4 L, roR A_Q 3 enThg4 Q, nestR innerThg4 Q, roR A_x 1 enU8 x] w := nsrc_app hsnq18 hsnq26
     refine st_s hA (Runs.appOwn (B := (some ⟨b23, 0, none⟩)) (k := 1) (E := 104) (sz := 2) (en := enOne4) (l := (d ++ ([(⟨g, x, A_x, c_x⟩ : One4)] : List One4))) (m := ([(⟨y9_w, y9_cl, y9_cl_A, y9_cl_c⟩ : One4)] : List One4)) (i := 2) (by kernel_rfl) (by kernel_rfl) elt_One4 (by kernel_rfl) hW rfl (rowAt_cel ((hW).cel 0 rfl) ([(⟨y9_w, y9_cl, y9_cl_A, y9_cl_c⟩ : One4)] : List One4) (by rfl) elt_One4.len) (by first | omega | (simp; done) | (simp; omega)) (by first | omega | (simp; done) | (simp; omega)) ?_); clear hA ac hW; intro A28 c29 w30 hW hcc29 ac hA
     refine st_p (vS A28 ((d ++ ([(⟨g, x, A_x, c_x⟩ : One4)] : List One4)) ++ ([(⟨y9_w, y9_cl, y9_cl_A, y9_cl_c⟩ : One4)] : List One4)).length c29) hA ?_; clear hA ac; intro ac hA
     refine wpList_nil <| blkN <| thenN <| wp_region_lit <| st_p (vI .i64 (k : Int)) hA fun ac hA => st_q (vI .i64 ((k + 1 : Nat) : Int)) hA hW.cls (Rd.pureE (v0 := vI .i64 (IntKind.i64.wrap ((k : Int) + 1))) (fun _ => by kernel_rfl) (congrArg (vI .i64) ((w_i64 (x := (k : Int) + 1) (by omega) (by omega)).trans (by omega)))) fun ac hA => st_p (vI .i64 ((k + 1 : Nat) : Int)) hA fun ac hA => wn ?_
     have hth_ : th = false := by simpa using h8
     exact ⟨L.length - (k + 1), by omega, k + 1, true, (d ++ ([(⟨g, x, A_x, c_x⟩ : One4)] : List One4)) ++ ([(⟨y9_w, y9_cl, y9_cl_A, y9_cl_c⟩ : One4)] : List One4), A28, c29, rfl, by omega, by rw [if_pos rfl, tk_snoc hy9, with_gt (show g < y9_w from by omega), with_lt (hf hth_), hd, if_neg (by rw [hth_]; exact Bool.false_ne_true)], by exact fun q_ => absurd q_ (by decide), by intro _; exact ⟨_, by rw [tk_snoc hy9]; exact List.mem_append_right _ (.head _), by show g ≤ y9_w; omega⟩, by exact (own_cap ((hW).get 2 rfl)), by exact hknq27, by exact hsnq27, hA.sub (by and_intros <;> first | kernel_rfl | trivial), (hW.pick [2, 3, 4] (by decide) rfl).pickG [0, 7, 8, 9, 10, 11] rfl⟩
    have h22 := of_bne_f h22
    refine wp_skip <| blkN <| thenN <| wp_region_lit <| st_p (vI .i64 (k : Int)) hA fun ac hA => st_q (vI .i64 ((k + 1 : Nat) : Int)) hA hW.cls (Rd.pureE (v0 := vI .i64 (IntKind.i64.wrap ((k : Int) + 1))) (fun _ => by kernel_rfl) (congrArg (vI .i64) ((w_i64 (x := (k : Int) + 1) (by omega) (by omega)).trans (by omega)))) fun ac hA => st_p (vI .i64 ((k + 1 : Nat) : Int)) hA fun ac hA => wn ?_
    have hth_ : th = false := by simpa using h8
    exact ⟨L.length - (k + 1), by omega, k + 1, true, d ++ ([(⟨g, x, A_x, c_x⟩ : One4)] : List One4), A19, c20, rfl, by omega, by rw [if_pos rfl, tk_snoc hy9, with_eq (show y9_w = g from by omega), with_lt (hf hth_), hd, if_neg (by rw [hth_]; exact Bool.false_ne_true)], by exact fun q_ => absurd q_ (by decide), by intro _; exact ⟨_, by rw [tk_snoc hy9]; exact List.mem_append_right _ (.head _), by show g ≤ y9_w; omega⟩, by exact (own_cap ((hW).get 1 rfl)), by exact hknq18, by exact hsnq18, hA.sub (by and_intros <;> first | kernel_rfl | trivial), (hW.pick [1, 2, 3] (by decide) rfl).pickG [0, 4, 5, 6, 7, 8] rfl⟩
   have h12 := of_decide_eq_false h12
   refine wp_skip <| thenN <| wr <| st_p (pA b1 1) hA fun ac hA => st_q (vS (some ⟨b10, o11, none⟩) L.length c_L) hA hW.cls (rl b1 1 2) fun ac hA => st_p (vI .i64 (k : Int)) hA fun ac hA => st_q (vP (some ⟨b10, o11 + k * 2, none⟩)) hA hW.cls (Rd.indexAddr (e := 104) (sz := 2) (b := b10) (off := o11) (n := L.length) (c := c_L) (k := k) (by kernel_rfl) (by kernel_rfl) (by first | omega | (simp; done) | (simp; omega)) (fun _ => by kernel_rfl) (fun _ => by kernel_rfl)) fun ac hA => st_p (vP (some ⟨b10, o11 + k * 2, none⟩)) hA fun ac hA => st_q (vI .i64 y9_w) hA hW.cls (Rd.loadRow (b := b10) (i := o11 + k * 2) (xs := [vI .i64 y9_w]) (by kernel_rfl) (fun _ hw => row_ld ((hw.1).getG 5 rfl) hy9 (Fr.refl No _) (fun h => h) 0 1 (by kernel_rfl)) (by kernel_rfl)) fun ac hA => st_p (vI .i64 g) hA fun ac hA => st_p (vB ((y9_w : Int) != (g : Int))) hA fun ac hA => wn <| wp_cond_split (t := (y9_w : Int) != (g : Int)) (hA.eval (by kernel_rfl)) (fun h31 => ?_) (fun h31 => ?_)
   ·
    have h31 := bne_iff_ne.1 h31
    refine wp_region_lit <| st_p (vS A d.length cc) hA fun ac hA => st_p (pA b1 1) hA fun ac hA => st_q (vS (some ⟨b10, o11, none⟩) L.length c_L) hA hW.cls (rl b1 1 2) fun ac hA => st_p (vI .i64 (k : Int)) hA fun ac hA => st_q (vP (some ⟨b10, o11 + k * 2, none⟩)) hA hW.cls (Rd.indexAddr (e := 104) (sz := 2) (b := b10) (off := o11) (n := L.length) (c := c_L) (k := k) (by kernel_rfl) (by kernel_rfl) (by first | omega | (simp; done) | (simp; omega)) (fun _ => by kernel_rfl) (fun _ => by kernel_rfl)) fun ac hA => ?_
    have hW := hW.nestAt 4 rfl (List.mem_of_getElem? hy9)
    have hc_y9_cl : y9_cl.length ≤ y9_cl_c := hk_L _ (List.mem_of_getElem? hy9)
    have hsy9_cl : Res.src (roR y9_cl_A 1 enU8 y9_cl) [roR (some ⟨b10, o11, none⟩) 2 enOne4 L, nestR innerOne4 L, roR A_Q 3 enThg4 Q, nestR innerThg4 Q, roR A_x 1 enU8 x] w := nsrc_at (inner := innerOne4) (x := (⟨y9_w, y9_cl, y9_cl_A, y9_cl_c⟩ : One4)) (src_arg (.tail _ (.head _))) (List.mem_of_getElem? hy9)
    replace hW : Ws w No [rowR 104 2 enOne4 (vS A d.length cc) d, Cel b3 #[vI .u64 0, vS none 0 0, vS none 0 0] 61, Cel b1 #[vI .u64 en, vS (some ⟨b10, o11, none⟩) L.length c_L, vS A_Q Q.length c_Q] 61] [roR y9_cl_A 1 enU8 y9_cl, nestR innerOne4 d, roR A_x 1 enU8 x, nestR innerThg4 Q, roR A_Q 3 enThg4 Q, nestR innerOne4 L, roR (some ⟨b10, o11, none⟩) 2 enOne4 L] w6 := hW
    refine st_q (vA #[vI .i64 y9_w, vS y9_cl_A y9_cl.length y9_cl_c]) hA hW.cls (Rd.loadRow (b := b10) (i := o11 + k * 2) (xs := [vI .i64 y9_w, vS y9_cl_A y9_cl.length y9_cl_c]) (by kernel_rfl) (fun _ hw => row_ld ((hw.1).getG 6 rfl) hy9 (Fr.refl No _) (fun h => h) 0 2 (by kernel_rfl)) (by kernel_rfl)) ?_; clear hA ac; intro ac hA
    refine st_s hA (Runs.cells (fun b => vS (some ⟨b, 0, none⟩) 1 1) #[vI .i64 y9_w, vS y9_cl_A y9_cl.length y9_cl_c] 104 (fun _ => by kernel_rfl) hW ?_); clear hA ac hW; intro b32 w33 hW hb32 hfw33 ac hA
    have hW := hW.nestNil innerOne4
    have hknq34 : ∀ x_ ∈ ([] : List One4), capOne4 x_ := all_nil
    have hsnq34 : Res.src (nestR innerOne4 ([] : List One4)) [roR (some ⟨b10, o11, none⟩) 2 enOne4 L, nestR innerOne4 L, roR A_Q 3 enThg4 Q, nestR innerThg4 Q, roR A_x 1 enU8 x] w := nsrc_nil
    have hcq35 : y9_cl.length ≤ y9_cl_c := (by first | assumption | omega | (simp; omega) | simp)
    have hW := Ws.nestCons (inner := innerOne4) hW 0 rfl (⟨y9_w, y9_cl, y9_cl_A, y9_cl_c⟩ : One4) (hW.getG 1 rfl) (fun _ hb_ => ⟨_, List.mem_of_getElem? (i := 1) rfl, hb_⟩)
    have hknq36 : ∀ x_ ∈ ([(⟨y9_w, y9_cl, y9_cl_A, y9_cl_c⟩ : One4)] : List One4), capOne4 x_ := all_cons hcq35 hknq34
    have hsnq36 : Res.src (nestR innerOne4 ([(⟨y9_w, y9_cl, y9_cl_A, y9_cl_c⟩ : One4)] : List One4)) [roR (some ⟨b10, o11, none⟩) 2 enOne4 L, nestR innerOne4 L, roR A_Q 3 enThg4 Q, nestR innerThg4 Q, roR A_x 1 enU8 x] w := nsrc_cons hsy9_cl hsnq34
    have hW := hW.nestApp 3 0 rfl rfl
    have hknq37 : ∀ x_ ∈ (d ++ ([(⟨y9_w, y9_cl, y9_cl_A, y9_cl_c⟩ : One4)] : List One4)), capOne4 x_ := all_app hkD hknq36
    have hsnq37 : Res.src (nestR innerOne4 (d ++ ([(⟨y9_w, y9_cl, y9_cl_A, y9_cl_c⟩ : One4)] : List One4))) [roR (some ⟨b10, o11, none⟩) 2 enOne4 L, nestR innerOne4 L, roR A_Q 3 enThg4 Q, nestR innerThg4 Q, roR A_x 1 enU8 x] w := nsrc_app hsD hsnq36
    refine st_s hA (Runs.appOwn (B := (some ⟨b32, 0, none⟩)) (k := 1) (E := 104) (sz := 2) (en := enOne4) (l := d) (m := ([(⟨y9_w, y9_cl, y9_cl_A, y9_cl_c⟩ : One4)] : List One4)) (i := 1) (by kernel_rfl) (by kernel_rfl) elt_One4 (by kernel_rfl) hW rfl (rowAt_cel ((hW).cel 0 rfl) ([(⟨y9_w, y9_cl, y9_cl_A, y9_cl_c⟩ : One4)] : List One4) (by rfl) elt_One4.len) (by first | omega | (simp; done) | (simp; omega)) (by first | omega | (simp; done) | (simp; omega)) ?_); clear hA ac hW; intro A38 c39 w40 hW hcc39 ac hA
    refine st_p (vS A38 (d ++ ([(⟨y9_w, y9_cl, y9_cl_A, y9_cl_c⟩ : One4)] : List One4)).length c39) hA ?_; clear hA ac; intro ac hA
    refine wpList_nil <| blkN <| thenN <| wp_region_lit <| st_p (vI .i64 (k : Int)) hA fun ac hA => st_q (vI .i64 ((k + 1 : Nat) : Int)) hA hW.cls (Rd.pureE (v0 := vI .i64 (IntKind.i64.wrap ((k : Int) + 1))) (fun _ => by kernel_rfl) (congrArg (vI .i64) ((w_i64 (x := (k : Int) + 1) (by omega) (by omega)).trans (by omega)))) fun ac hA => st_p (vI .i64 ((k + 1 : Nat) : Int)) hA fun ac hA => wn ?_
    have hth_ : th = false := by simpa using h8
    exact ⟨L.length - (k + 1), by omega, k + 1, th, d ++ ([(⟨y9_w, y9_cl, y9_cl_A, y9_cl_c⟩ : One4)] : List One4), A38, c39, rfl, by omega, by rw [if_neg (by rw [hth_]; exact Bool.false_ne_true), tk_snoc hy9, hd, if_neg (by rw [hth_]; exact Bool.false_ne_true)], by intro _ x_ hx_; rw [tk_snoc hy9] at hx_; rcases List.mem_append.1 hx_ with hx_ | hx_; exact hf hth_ x_ hx_; (rw [List.mem_singleton.1 hx_]; show y9_w < g; omega), by intro q_; rw [hth_] at q_; exact absurd q_ (by decide), by exact (own_cap ((hW).get 1 rfl)), by exact hknq37, by exact hsnq37, hA.sub (by and_intros <;> first | kernel_rfl | trivial), (hW.pick [1, 2, 3] (by decide) rfl).pickG [0, 5, 6, 7, 8, 9] rfl⟩
   have h31 := of_bne_f h31
   exfalso; clear hA hW; omega
  rw [h8] at hA
  have h8 := not_f h8
  refine st_k hA fun ac hA => st_k hA fun ac hA => st_k hA fun ac hA => st_k hA fun ac hA => st_k hA fun ac hA => st_k hA fun ac hA => st_k hA fun ac hA => st_k hA fun ac hA => st_p (vB false) hA fun ac hA => wn <| wp_cond_false (hA.eval (by kernel_rfl)) <| wp_skip <| thenN <| wr <| st_p (pA b1 1) hA fun ac hA => st_q (vS A_L L.length c_L) hA hW.cls (rl b1 1 2) fun ac hA => st_p (vI .i64 (k : Int)) hA fun ac hA => ?_
  obtain ⟨y41, hy41⟩ : ∃ y, L[k]? = some y := ⟨_, List.getElem?_eq_getElem (by first | omega | (simp; done) | (simp; omega))⟩
  rcases y41 with ⟨y41_w, y41_cl, y41_cl_A, y41_cl_c⟩
  obtain ⟨b42, o43, rfl, hbb42⟩ := row_some ((hW).getG 5 rfl) hy41
  refine st_q (vP (some ⟨b42, o43 + k * 2, none⟩)) hA hW.cls (Rd.indexAddr (e := 104) (sz := 2) (b := b42) (off := o43) (n := L.length) (c := c_L) (k := k) (by kernel_rfl) (by kernel_rfl) (by first | omega | (simp; done) | (simp; omega)) (fun _ => by kernel_rfl) (fun _ => by kernel_rfl)) fun ac hA => st_p (vP (some ⟨b42, o43 + k * 2, none⟩)) hA fun ac hA => st_q (vI .i64 y41_w) hA hW.cls (Rd.loadRow (b := b42) (i := o43 + k * 2) (xs := [vI .i64 y41_w]) (by kernel_rfl) (fun _ hw => row_ld ((hw.1).getG 5 rfl) hy41 (Fr.refl No _) (fun h => h) 0 1 (by kernel_rfl)) (by kernel_rfl)) fun ac hA => st_p (vI .i64 g) hA fun ac hA => st_p (vB ((y41_w : Int) != (g : Int))) hA fun ac hA => wn <| wp_cond_split (t := (y41_w : Int) != (g : Int)) (hA.eval (by kernel_rfl)) (fun h44 => ?_) (fun h44 => ?_)
  ·
   have h44 := bne_iff_ne.1 h44
   refine wp_region_lit <| st_p (vS A d.length cc) hA fun ac hA => st_p (pA b1 1) hA fun ac hA => st_q (vS (some ⟨b42, o43, none⟩) L.length c_L) hA hW.cls (rl b1 1 2) fun ac hA => st_p (vI .i64 (k : Int)) hA fun ac hA => st_q (vP (some ⟨b42, o43 + k * 2, none⟩)) hA hW.cls (Rd.indexAddr (e := 104) (sz := 2) (b := b42) (off := o43) (n := L.length) (c := c_L) (k := k) (by kernel_rfl) (by kernel_rfl) (by first | omega | (simp; done) | (simp; omega)) (fun _ => by kernel_rfl) (fun _ => by kernel_rfl)) fun ac hA => ?_
   have hW := hW.nestAt 4 rfl (List.mem_of_getElem? hy41)
   have hc_y41_cl : y41_cl.length ≤ y41_cl_c := hk_L _ (List.mem_of_getElem? hy41)
   have hsy41_cl : Res.src (roR y41_cl_A 1 enU8 y41_cl) [roR (some ⟨b42, o43, none⟩) 2 enOne4 L, nestR innerOne4 L, roR A_Q 3 enThg4 Q, nestR innerThg4 Q, roR A_x 1 enU8 x] w := nsrc_at (inner := innerOne4) (x := (⟨y41_w, y41_cl, y41_cl_A, y41_cl_c⟩ : One4)) (src_arg (.tail _ (.head _))) (List.mem_of_getElem? hy41)
   replace hW : Ws w No [rowR 104 2 enOne4 (vS A d.length cc) d, Cel b3 #[vI .u64 0, vS none 0 0, vS none 0 0] 61, Cel b1 #[vI .u64 en, vS (some ⟨b42, o43, none⟩) L.length c_L, vS A_Q Q.length c_Q] 61] [roR y41_cl_A 1 enU8 y41_cl, nestR innerOne4 d, roR A_x 1 enU8 x, nestR innerThg4 Q, roR A_Q 3 enThg4 Q, nestR innerOne4 L, roR (some ⟨b42, o43, none⟩) 2 enOne4 L] w6 := hW
   refine st_q (vA #[vI .i64 y41_w, vS y41_cl_A y41_cl.length y41_cl_c]) hA hW.cls (Rd.loadRow (b := b42) (i := o43 + k * 2) (xs := [vI .i64 y41_w, vS y41_cl_A y41_cl.length y41_cl_c]) (by kernel_rfl) (fun _ hw => row_ld ((hw.1).getG 6 rfl) hy41 (Fr.refl No _) (fun h => h) 0 2 (by kernel_rfl)) (by kernel_rfl)) ?_; clear hA ac; intro ac hA
   refine st_s hA (Runs.cells (fun b => vS (some ⟨b, 0, none⟩) 1 1) #[vI .i64 y41_w, vS y41_cl_A y41_cl.length y41_cl_c] 104 (fun _ => by kernel_rfl) hW ?_); clear hA ac hW; intro b45 w46 hW hb45 hfw46 ac hA
   have hW := hW.nestNil innerOne4
   have hknq47 : ∀ x_ ∈ ([] : List One4), capOne4 x_ := all_nil
   have hsnq47 : Res.src (nestR innerOne4 ([] : List One4)) [roR (some ⟨b42, o43, none⟩) 2 enOne4 L, nestR innerOne4 L, roR A_Q 3 enThg4 Q, nestR innerThg4 Q, roR A_x 1 enU8 x] w := nsrc_nil
   have hcq48 : y41_cl.length ≤ y41_cl_c := (by first | assumption | omega | (simp; omega) | simp)
   have hW := Ws.nestCons (inner := innerOne4) hW 0 rfl (⟨y41_w, y41_cl, y41_cl_A, y41_cl_c⟩ : One4) (hW.getG 1 rfl) (fun _ hb_ => ⟨_, List.mem_of_getElem? (i := 1) rfl, hb_⟩)
   have hknq49 : ∀ x_ ∈ ([(⟨y41_w, y41_cl, y41_cl_A, y41_cl_c⟩ : One4)] : List One4), capOne4 x_ := all_cons hcq48 hknq47
   have hsnq49 : Res.src (nestR innerOne4 ([(⟨y41_w, y41_cl, y41_cl_A, y41_cl_c⟩ : One4)] : List One4)) [roR (some ⟨b42, o43, none⟩) 2 enOne4 L, nestR innerOne4 L, roR A_Q 3 enThg4 Q, nestR innerThg4 Q, roR A_x 1 enU8 x] w := nsrc_cons hsy41_cl hsnq47
   have hW := hW.nestApp 3 0 rfl rfl
   have hknq50 : ∀ x_ ∈ (d ++ ([(⟨y41_w, y41_cl, y41_cl_A, y41_cl_c⟩ : One4)] : List One4)), capOne4 x_ := all_app hkD hknq49
   have hsnq50 : Res.src (nestR innerOne4 (d ++ ([(⟨y41_w, y41_cl, y41_cl_A, y41_cl_c⟩ : One4)] : List One4))) [roR (some ⟨b42, o43, none⟩) 2 enOne4 L, nestR innerOne4 L, roR A_Q 3 enThg4 Q, nestR innerThg4 Q, roR A_x 1 enU8 x] w := nsrc_app hsD hsnq49
   refine st_s hA (Runs.appOwn (B := (some ⟨b45, 0, none⟩)) (k := 1) (E := 104) (sz := 2) (en := enOne4) (l := d) (m := ([(⟨y41_w, y41_cl, y41_cl_A, y41_cl_c⟩ : One4)] : List One4)) (i := 1) (by kernel_rfl) (by kernel_rfl) elt_One4 (by kernel_rfl) hW rfl (rowAt_cel ((hW).cel 0 rfl) ([(⟨y41_w, y41_cl, y41_cl_A, y41_cl_c⟩ : One4)] : List One4) (by rfl) elt_One4.len) (by first | omega | (simp; done) | (simp; omega)) (by first | omega | (simp; done) | (simp; omega)) ?_); clear hA ac hW; intro A51 c52 w53 hW hcc52 ac hA
   refine st_p (vS A51 (d ++ ([(⟨y41_w, y41_cl, y41_cl_A, y41_cl_c⟩ : One4)] : List One4)).length c52) hA ?_; clear hA ac; intro ac hA
   refine wpList_nil <| blkN <| thenN <| wp_region_lit <| st_p (vI .i64 (k : Int)) hA fun ac hA => st_q (vI .i64 ((k + 1 : Nat) : Int)) hA hW.cls (Rd.pureE (v0 := vI .i64 (IntKind.i64.wrap ((k : Int) + 1))) (fun _ => by kernel_rfl) (congrArg (vI .i64) ((w_i64 (x := (k : Int) + 1) (by omega) (by omega)).trans (by omega)))) fun ac hA => st_p (vI .i64 ((k + 1 : Nat) : Int)) hA fun ac hA => wn ?_
   have hth_ : th = true := by simpa using h8
   exact ⟨L.length - (k + 1), by omega, k + 1, th, d ++ ([(⟨y41_w, y41_cl, y41_cl_A, y41_cl_c⟩ : One4)] : List One4), A51, c52, rfl, by omega, by rw [if_pos hth_, tk_snoc hy41, with_gt (srt_gt hs hy41 (ht hth_)), hd, if_pos hth_], by intro q_; rw [hth_] at q_; exact absurd q_ (by decide), by intro _; obtain ⟨x_, hx_, q_⟩ := ht hth_; exact ⟨x_, by rw [tk_snoc hy41]; exact List.mem_append_left _ hx_, q_⟩, by exact (own_cap ((hW).get 1 rfl)), by exact hknq50, by exact hsnq50, hA.sub (by and_intros <;> first | kernel_rfl | trivial), (hW.pick [1, 2, 3] (by decide) rfl).pickG [0, 5, 6, 7, 8, 9] rfl⟩
  have h44 := of_bne_f h44
  refine wp_skip <| blkN <| thenN <| wp_region_lit <| st_p (vI .i64 (k : Int)) hA fun ac hA => st_q (vI .i64 ((k + 1 : Nat) : Int)) hA hW.cls (Rd.pureE (v0 := vI .i64 (IntKind.i64.wrap ((k : Int) + 1))) (fun _ => by kernel_rfl) (congrArg (vI .i64) ((w_i64 (x := (k : Int) + 1) (by omega) (by omega)).trans (by omega)))) fun ac hA => st_p (vI .i64 ((k + 1 : Nat) : Int)) hA fun ac hA => wn ?_
  have hth_ : th = true := by simpa using h8
  exact ⟨L.length - (k + 1), by omega, k + 1, th, d, A, cc, rfl, by omega, by exact absurd (srt_gt hs hy41 (ht hth_)) (by show ¬ g < y41_w; omega), by exact absurd (srt_gt hs hy41 (ht hth_)) (by show ¬ g < y41_w; omega), by exact absurd (srt_gt hs hy41 (ht hth_)) (by show ¬ g < y41_w; omega), by exact (own_cap ((hW).get 0 rfl)), by exact hkD, by exact hsD, hA.sub (by and_intros <;> first | kernel_rfl | trivial), (hW.pick [0, 1, 2] (by decide) rfl).pickG [0, 1, 2, 3, 4, 5] rfl⟩
 have h7 := of_decide_eq_false h7
 refine wp_exit <| thenX <| thenX <| blkX <| thenN <| wp_seq <| wr <| st_p (vB th) hA fun ac hA => st_p (vB (!th)) hA fun ac hA => wn <| wp_cond_split (t := !th) (hA.eval (by kernel_rfl)) (fun h54 => ?_) (fun h54 => ?_)
 ·
  have h54 := not_t h54
  refine wp_region_lit <| st_p (vS A d.length cc) hA fun ac hA => st_p (vI .i64 g) hA fun ac hA => st_p (vS A_x x.length c_x) hA fun ac hA => st_p (vA #[vI .i64 g, vS A_x x.length c_x]) hA fun ac hA => st_s hA (Runs.cells (fun b => vS (some ⟨b, 0, none⟩) 1 1) #[vI .i64 g, vS A_x x.length c_x] 104 (fun _ => by kernel_rfl) hW ?_); clear hA ac hW; intro b55 w56 hW hb55 hfw56 ac hA
  have hW := hW.nestNil innerOne4
  have hknq57 : ∀ x_ ∈ ([] : List One4), capOne4 x_ := all_nil
  have hsnq57 : Res.src (nestR innerOne4 ([] : List One4)) [roR A_L 2 enOne4 L, nestR innerOne4 L, roR A_Q 3 enThg4 Q, nestR innerThg4 Q, roR A_x 1 enU8 x] w := nsrc_nil
  have hcq58 : x.length ≤ c_x := (by first | assumption | omega | (simp; omega) | simp)
  have hW := Ws.nestCons (inner := innerOne4) hW 0 rfl (⟨g, x, A_x, c_x⟩ : One4) (hW.getG 2 rfl) (fun _ hb_ => ⟨_, List.mem_of_getElem? (i := 2) rfl, hb_⟩)
  have hknq59 : ∀ x_ ∈ ([(⟨g, x, A_x, c_x⟩ : One4)] : List One4), capOne4 x_ := all_cons hcq58 hknq57
  have hsnq59 : Res.src (nestR innerOne4 ([(⟨g, x, A_x, c_x⟩ : One4)] : List One4)) [roR A_L 2 enOne4 L, nestR innerOne4 L, roR A_Q 3 enThg4 Q, nestR innerThg4 Q, roR A_x 1 enU8 x] w := nsrc_cons (src_arg (.tail _ (.tail _ (.tail _ (.tail _ (.head _)))))) hsnq57
  have hW := hW.nestApp 2 0 rfl rfl
  have hknq60 : ∀ x_ ∈ (d ++ ([(⟨g, x, A_x, c_x⟩ : One4)] : List One4)), capOne4 x_ := all_app hkD hknq59
  have hsnq60 : Res.src (nestR innerOne4 (d ++ ([(⟨g, x, A_x, c_x⟩ : One4)] : List One4))) [roR A_L 2 enOne4 L, nestR innerOne4 L, roR A_Q 3 enThg4 Q, nestR innerThg4 Q, roR A_x 1 enU8 x] w := nsrc_app hsD hsnq59
  refine st_s hA (Runs.appOwn (B := (some ⟨b55, 0, none⟩)) (k := 1) (E := 104) (sz := 2) (en := enOne4) (l := d) (m := ([(⟨g, x, A_x, c_x⟩ : One4)] : List One4)) (i := 1) (by kernel_rfl) (by kernel_rfl) elt_One4 (by kernel_rfl) hW rfl (rowAt_cel ((hW).cel 0 rfl) ([(⟨g, x, A_x, c_x⟩ : One4)] : List One4) (by rfl) elt_One4.len) (by first | omega | (simp; done) | (simp; omega)) (by first | omega | (simp; done) | (simp; omega)) ?_); clear hA ac hW; intro A61 c62 w63 hW hcc62 ac hA
  refine st_p (vS A61 (d ++ ([(⟨g, x, A_x, c_x⟩ : One4)] : List One4)).length c62) hA ?_; clear hA ac; intro ac hA
  refine wn <| wr <| st_p (vS A61 (d ++ ([(⟨g, x, A_x, c_x⟩ : One4)] : List One4)).length c62) hA fun ac hA => st_p (pA b1 1) hA fun ac hA => st_s hA (Runs.store (v := vS A61 (d ++ ([(⟨g, x, A_x, c_x⟩ : One4)] : List One4)).length c62) (b := b1) (j := 1) (n := 1) (cs' := #[vI .u64 en, vS A61 (d ++ ([(⟨g, x, A_x, c_x⟩ : One4)] : List One4)).length c62, vS A_Q Q.length c_Q]) (H' := [Cel b55 #[vI .i64 g, vS A_x x.length c_x] 104, rowR 104 2 enOne4 (vS A61 (d ++ ([(⟨g, x, A_x, c_x⟩ : One4)] : List One4)).length c62) (d ++ ([(⟨g, x, A_x, c_x⟩ : One4)] : List One4)), Cel b3 #[vI .u64 0, vS none 0 0, vS none 0 0] 61, Cel b1 #[vI .u64 en, vS A61 (d ++ ([(⟨g, x, A_x, c_x⟩ : One4)] : List One4)).length c62, vS A_Q Q.length c_Q] 61]) (by kernel_rfl) (by kernel_rfl) (by kernel_rfl) (by kernel_rfl) (by kernel_rfl) hW 3 (by rfl) (Nat.le_of_ble_eq_true (by kernel_rfl)) (by kernel_rfl) (by rfl) ?_); clear hA ac hW; intro w64 hW ac hA
  refine wn <| wr <| st_q (vA #[vI .u64 en, vS A61 (d ++ ([(⟨g, x, A_x, c_x⟩ : One4)] : List One4)).length c62, vS A_Q Q.length c_Q]) hA hW.cls (rl b1 0 3) ?_; clear hA ac; intro ac hA
  refine st_s hA (Runs.store (v := vA #[vI .u64 en, vS A61 (d ++ ([(⟨g, x, A_x, c_x⟩ : One4)] : List One4)).length c62, vS A_Q Q.length c_Q]) (b := b3) (j := 0) (n := 3) (cs' := #[vI .u64 en, vS A61 (d ++ ([(⟨g, x, A_x, c_x⟩ : One4)] : List One4)).length c62, vS A_Q Q.length c_Q]) (H' := [Cel b55 #[vI .i64 g, vS A_x x.length c_x] 104, rowR 104 2 enOne4 (vS A61 (d ++ ([(⟨g, x, A_x, c_x⟩ : One4)] : List One4)).length c62) (d ++ ([(⟨g, x, A_x, c_x⟩ : One4)] : List One4)), Cel b3 #[vI .u64 en, vS A61 (d ++ ([(⟨g, x, A_x, c_x⟩ : One4)] : List One4)).length c62, vS A_Q Q.length c_Q] 61, Cel b1 #[vI .u64 en, vS A61 (d ++ ([(⟨g, x, A_x, c_x⟩ : One4)] : List One4)).length c62, vS A_Q Q.length c_Q] 61]) (by kernel_rfl) (by kernel_rfl) (by kernel_rfl) (by kernel_rfl) (by kernel_rfl) hW 2 (by rfl) (Nat.le_of_ble_eq_true (by kernel_rfl)) (by kernel_rfl) (by rfl) ?_); clear hA ac hW; intro w65 hW ac hA
  refine wn <| wp_ret <| ret1 (v := vA #[vI .u64 en, vS A61 (d ++ ([(⟨g, x, A_x, c_x⟩ : One4)] : List One4)).length c62, vS A_Q Q.length c_Q]) (by rfl) hA (Got.cell (b := b3) (i := 0) hA (by kernel_rfl) (by kernel_rfl) (hW.cel 2 rfl) (by kernel_rfl)) ?_
  clear hA
  have hth_ : th = false := by simpa using h54
  rw [List.take_of_length_le (by omega)] at hd hf
  exact ⟨d ++ ([(⟨g, x, A_x, c_x⟩ : One4)] : List One4), A61, c62, A_Q, c_Q, by first | rfl | (simp; done), by exact ⟨(⟨g, x, A_x, c_x⟩ : One4), rfl, rfl, by rw [hd, if_neg (by rw [hth_]; exact Bool.false_ne_true)]; exact (with_lt (hf hth_)).symm⟩, (own_cap ((hW).get 1 rfl)), (by first | assumption | omega | (simp; omega) | simp), hknq60, hk_Q, (hW.outRow 1 rfl elt_One4.len (fun _ h => h)), (hW.outSrc 6 rfl (src_arg (.tail _ (.tail _ (.head _))))), (hW.outSrc 0 rfl hsnq60), (hW.outSrc 5 rfl (src_arg (.tail _ (.tail _ (.tail _ (.head _)))))), hW.fr⟩
 have h54 := not_f h54
 refine wp_skip <| thenN <| wr <| st_p (vS A d.length cc) hA fun ac hA => st_p (pA b1 1) hA fun ac hA => st_s hA (Runs.store (v := vS A d.length cc) (b := b1) (j := 1) (n := 1) (cs' := #[vI .u64 en, vS A d.length cc, vS A_Q Q.length c_Q]) (H' := [rowR 104 2 enOne4 (vS A d.length cc) d, Cel b3 #[vI .u64 0, vS none 0 0, vS none 0 0] 61, Cel b1 #[vI .u64 en, vS A d.length cc, vS A_Q Q.length c_Q] 61]) (by kernel_rfl) (by kernel_rfl) (by kernel_rfl) (by kernel_rfl) (by kernel_rfl) hW 2 (by rfl) (Nat.le_of_ble_eq_true (by kernel_rfl)) (by kernel_rfl) (by rfl) ?_); clear hA ac hW; intro w66 hW ac hA
 refine wn <| wr <| st_q (vA #[vI .u64 en, vS A d.length cc, vS A_Q Q.length c_Q]) hA hW.cls (rl b1 0 2) ?_; clear hA ac; intro ac hA
 refine st_s hA (Runs.store (v := vA #[vI .u64 en, vS A d.length cc, vS A_Q Q.length c_Q]) (b := b3) (j := 0) (n := 3) (cs' := #[vI .u64 en, vS A d.length cc, vS A_Q Q.length c_Q]) (H' := [rowR 104 2 enOne4 (vS A d.length cc) d, Cel b3 #[vI .u64 en, vS A d.length cc, vS A_Q Q.length c_Q] 61, Cel b1 #[vI .u64 en, vS A d.length cc, vS A_Q Q.length c_Q] 61]) (by kernel_rfl) (by kernel_rfl) (by kernel_rfl) (by kernel_rfl) (by kernel_rfl) hW 1 (by rfl) (Nat.le_of_ble_eq_true (by kernel_rfl)) (by kernel_rfl) (by rfl) ?_); clear hA ac hW; intro w67 hW ac hA
 refine wn <| wp_ret <| ret1 (v := vA #[vI .u64 en, vS A d.length cc, vS A_Q Q.length c_Q]) (by rfl) hA (Got.cell (b := b3) (i := 0) hA (by kernel_rfl) (by kernel_rfl) (hW.cel 1 rfl) (by kernel_rfl)) ?_
 clear hA
 have hth_ : th = true := by simpa using h54
 rw [List.take_of_length_le (by omega)] at hd hf
 exact ⟨d, A, cc, A_Q, c_Q, by first | rfl | (simp; done), by exact ⟨(⟨g, x, A_x, c_x⟩ : One4), rfl, rfl, by rw [hd, if_pos hth_]⟩, (own_cap ((hW).get 0 rfl)), (by first | assumption | omega | (simp; omega) | simp), hkD, hk_Q, (hW.outRow 0 rfl elt_One4.len (fun _ h => h)), (hW.outSrc 3 rfl (src_arg (.tail _ (.tail _ (.head _))))), (hW.outSrc 0 rfl hsD), (hW.outSrc 2 rfl (src_arg (.tail _ (.tail _ (.tail _ (.head _)))))), hW.fr⟩

set_option maxRecDepth 100000 in
theorem e_krel4 (en : Int) (A_L : Option Addr) (c_L : Nat) (L : List One4) (A_Q : Option Addr) (c_Q : Nat) (Q : List Thg4) (a : Int) (o : Int) (A_x : Option Addr) (c_x : Nat) (x : List Int) (w : World) (hr_L : RowAt w A_L 2 enOne4 L) (hc_L : L.length ≤ c_L) (hn_L : (nestR innerOne4 L).p w) (hk_L : ∀ x_ ∈ L, capOne4 x_) (hr_Q : RowAt w A_Q 3 enThg4 Q) (hc_Q : Q.length ≤ c_Q) (hn_Q : (nestR innerThg4 Q).p w) (hk_Q : ∀ x_ ∈ Q, capThg4 x_) (hr_x : RowAt w A_x 1 enU8 x) (hc_x : x.length ≤ c_x) (hL : L.length ≤ 100000) (hQ : Q.length ≤ 100000) (hLc : ∀ x ∈ L, x.cl.length ≤ 65536) (hQc : ∀ x ∈ Q, x.cl.length ≤ 65536) (ha : -9223372036854775808 ≤ a ∧ a ≤ 9223372036854775807) (ho : -9223372036854775808 ≤ o ∧ o ≤ 9223372036854775807) (hx : x.length ≤ 65536) : Calls Tryz.prog 52 #[vA #[vI .u64 en, vS A_L L.length c_L, vS A_Q Q.length c_Q], vI .i64 a, vI .i64 o, vS A_x x.length c_x] w (fun e w' => ∃ Q' : List Thg4, ∃ (A_oL : Option Addr) (c_oL : Nat), ∃ (A_oQ : Option Addr) (c_oQ : Nat), e = .returned (vA #[vI .u64 en, vS A_oL L.length c_oL, vS A_oQ Q'.length c_oQ]) ∧ (∃ u : Thg4, u.kq = a ∧ u.oq = o ∧ u.cl = join2 (thK Q a o) x ∧ Q' = relL Q a o u) ∧ L.length ≤ c_oL ∧ Q'.length ≤ c_oQ ∧ (∀ x_ ∈ (L), capOne4 x_) ∧ (∀ x_ ∈ (Q'), capThg4 x_) ∧ (roR A_oL 2 enOne4 L).from_ [roR A_L 2 enOne4 L, nestR innerOne4 L, roR A_Q 3 enThg4 Q, nestR innerThg4 Q, roR A_x 1 enU8 x] w w' ∧ (roR A_oQ 3 enThg4 Q').from_ [roR A_L 2 enOne4 L, nestR innerOne4 L, roR A_Q 3 enThg4 Q, nestR innerThg4 Q, roR A_x 1 enU8 x] w w' ∧ (nestR innerOne4 L).from_ [roR A_L 2 enOne4 L, nestR innerOne4 L, roR A_Q 3 enThg4 Q, nestR innerThg4 Q, roR A_x 1 enU8 x] w w' ∧ (nestR innerThg4 Q').from_ [roR A_L 2 enOne4 L, nestR innerOne4 L, roR A_Q 3 enThg4 Q, nestR innerThg4 Q, roR A_x 1 enU8 x] w w' ∧ Fr No w w') := by
 have _hu := hc_L; have _hv := hr_L; clear _hu _hv
 have _hu := hk_L; have _hv := hn_L; clear _hu _hv
 have _hu := hc_Q; have _hv := hr_Q; clear _hu _hv
 have _hu := hk_Q; have _hv := hn_Q; clear _hu _hv
 have _hu := hc_x; have _hv := hr_x; clear _hu _hv
 have _hu := hL; clear _hu
 have _hu := hQ; clear _hu
 have _hu := hLc; clear _hu
 have _hu := hQc; clear _hu
 have _hu := ha; clear _hu
 have _hu := ho; clear _hu
 have _hu := hx; clear _hu
 refine enter_E 58 Tryz.func52 rfl rfl (by kernel_rfl) (L := [(0, vA #[vI .u64 en, vS A_L L.length c_L, vS A_Q Q.length c_Q]), (1, vI .i64 a), (2, vI .i64 o), (3, vS A_x x.length c_x)]) (by kernel_rfl) ?_
 intro ac hA
 have hW := Ws.start w No
 have hW := hW.arg hr_L
 have hW := hW.addG _ hn_L (nest_ltOne4 hn_L) (by simp)
 have hW := hW.arg hr_Q
 have hW := hW.addG _ hn_Q (nest_ltThg4 hn_Q) (by simp)
 have hW := hW.arg hr_x
 refine wr <| st_s hA (Runs.cells (fun b => pA b 0) #[vI .u64 en, vS A_L L.length c_L, vS A_Q Q.length c_Q] 61 (fun _ => by kernel_rfl) hW ?_); clear hA ac hW; intro b1 w2 hW hb1 hfw2 ac hA
 refine st_s hA (Runs.cells (fun b => pA b 0) #[vI .u64 0, vS none 0 0, vS none 0 0] 61 (fun _ => by kernel_rfl) hW ?_); clear hA ac hW; intro b3 w4 hW hb3 hfw4 ac hA
 refine wn <| wr <| st_p (vI .i64 a) hA fun ac hA => st_p (vI .i64 o) hA fun ac hA => st_q (vA #[vI .u64 en, vS A_L L.length c_L, vS A_Q Q.length c_Q]) hA hW.cls (rl b1 0 1) fun ac hA => st_p (vI .i64 a) hA fun ac hA => st_p (vI .i64 o) hA fun ac hA => st_s hA (Runs.call (fun _ => by kernel_rfl) (e_kthing4 (en) A_L c_L L A_Q c_Q Q (a) (o) w4 ((hW).getG 4 rfl) (by first | assumption | omega | (simp; omega) | simp) ((hW).getG 3 rfl) hk_L ((hW).getG 2 rfl) (by first | assumption | omega | (simp; omega) | simp) ((hW).getG 1 rfl) hk_Q (by first | omega | assumption | exact ⟨by omega, by omega⟩) (by first | omega | assumption | exact ⟨by omega, by omega⟩) (by first | omega | assumption | exact ⟨by omega, by omega⟩) (by first | omega | assumption | exact ⟨by omega, by omega⟩) (by first | omega | assumption | exact ⟨by omega, by omega⟩) (by first | omega | assumption | exact ⟨by omega, by omega⟩)) ?_)
 rintro _ w5 ⟨Aow6, cow7, rfl, hccow7, hfcow7, hfw5⟩; refine ⟨_, rfl, ?_⟩; have hW0 := hW; have hW := hW0.call hfw5
 have hW := hW0.addFromAt hW hfcow7 (in_cons (in_at 4 rfl) (in_cons (in_at 3 rfl) (in_cons (in_at 2 rfl) (in_cons (in_at 1 rfl) in_nil))))
 have hscow7 : Res.src (roR Aow6 1 enU8 (thK Q (a) (o))) [roR A_L 2 enOne4 L, nestR innerOne4 L, roR A_Q 3 enThg4 Q, nestR innerThg4 Q, roR A_x 1 enU8 x] w := src_call hfcow7 (srcs_cons (src_arg (.head _)) (srcs_cons (src_arg (.tail _ (.head _))) (srcs_cons (src_arg (.tail _ (.tail _ (.head _)))) (srcs_cons (src_arg (.tail _ (.tail _ (.tail _ (.head _))))) srcs_nil)))) hW0.fr.size
 clear hW0 hA ac; intro ac hA
 refine st_p (vS A_x x.length c_x) hA ?_; clear hA ac; intro ac hA
 refine st_s hA (Runs.cells (fun b => vS (some ⟨b, 0, none⟩) 2 2) #[vS Aow6 (thK Q (a) (o)).length cow7, vS A_x x.length c_x] 34 (fun _ => by kernel_rfl) hW ?_); clear hA ac hW; intro b8 w9 hW hb8 hfw9 ac hA
 have hW := hW.nestNil innerSV
 have hknq10 : ∀ x_ ∈ ([] : List SV), capSV x_ := all_nil
 have hsnq10 : Res.src (nestR innerSV ([] : List SV)) [roR A_L 2 enOne4 L, nestR innerOne4 L, roR A_Q 3 enThg4 Q, nestR innerThg4 Q, roR A_x 1 enU8 x] w := nsrc_nil
 have hcq11 : x.length ≤ c_x := (by first | assumption | omega | (simp; omega) | simp)
 have hW := Ws.nestCons (inner := innerSV) hW 0 rfl (⟨x, A_x, c_x⟩ : SV) (hW.getG 2 rfl) (fun _ hb_ => ⟨_, List.mem_of_getElem? (i := 2) rfl, hb_⟩)
 have hknq12 : ∀ x_ ∈ ([(⟨x, A_x, c_x⟩ : SV)] : List SV), capSV x_ := all_cons hcq11 hknq10
 have hsnq12 : Res.src (nestR innerSV ([(⟨x, A_x, c_x⟩ : SV)] : List SV)) [roR A_L 2 enOne4 L, nestR innerOne4 L, roR A_Q 3 enThg4 Q, nestR innerThg4 Q, roR A_x 1 enU8 x] w := nsrc_cons (src_arg (.tail _ (.tail _ (.tail _ (.tail _ (.head _)))))) hsnq10
 have hcq13 : (thK Q (a) (o)).length ≤ cow7 := (by first | assumption | omega | (simp; omega) | simp)
 have hW := Ws.nestCons (inner := innerSV) hW 0 rfl (⟨thK Q (a) (o), Aow6, cow7⟩ : SV) (hW.getG 2 rfl) (fun _ hb_ => ⟨_, List.mem_of_getElem? (i := 2) rfl, hb_⟩)
 have hknq14 : ∀ x_ ∈ ([(⟨thK Q (a) (o), Aow6, cow7⟩ : SV), (⟨x, A_x, c_x⟩ : SV)] : List SV), capSV x_ := all_cons hcq13 hknq12
 have hsnq14 : Res.src (nestR innerSV ([(⟨thK Q (a) (o), Aow6, cow7⟩ : SV), (⟨x, A_x, c_x⟩ : SV)] : List SV)) [roR A_L 2 enOne4 L, nestR innerOne4 L, roR A_Q 3 enThg4 Q, nestR innerThg4 Q, roR A_x 1 enU8 x] w := nsrc_cons hscow7 hsnq12
 refine st_s hA (Runs.callRow (E := 29) (sz := 1) (en := enU8) (l := (trimC (foldJ ([(⟨thK Q (a) (o), Aow6, cow7⟩ : SV), (⟨x, A_x, c_x⟩ : SV)] : List SV)))) (fun _ => by kernel_rfl) hW (e_r4join (some ⟨b8, 0, none⟩) 2 ([(⟨thK Q (a) (o), Aow6, cow7⟩ : SV), (⟨x, A_x, c_x⟩ : SV)] : List SV) w9 (rowAt_cel ((hW).cel 0 rfl) ([(⟨thK Q (a) (o), Aow6, cow7⟩ : SV), (⟨x, A_x, c_x⟩ : SV)] : List SV) (by rfl) elt_SV.len) (by first | assumption | omega | (simp; omega) | simp) ((hW).getG 0 rfl) hknq14 (show (2 : Nat) ≤ 1000 from by decide) (jn_hx (th_len hQc a o) hx)) ?_); clear hA ac hW; intro A16 c17 w15 hW hcc17 hfw15 ac hA
 refine st_p (vA #[vI .i64 a, vI .i64 o, vS A16 (trimC (foldJ ([(⟨thK Q (a) (o), Aow6, cow7⟩ : SV), (⟨x, A_x, c_x⟩ : SV)] : List SV))).length c17]) hA ?_; clear hA ac; intro ac hA
 refine st_s hA (Runs.cells (fun b => vS (some ⟨b, 0, none⟩) 1 1) #[vI .i64 a, vI .i64 o, vS A16 (trimC (foldJ ([(⟨thK Q (a) (o), Aow6, cow7⟩ : SV), (⟨x, A_x, c_x⟩ : SV)] : List SV))).length c17] 140 (fun _ => by kernel_rfl) hW ?_); clear hA ac hW; intro b19 w20 hW hb19 hfw20 ac hA
 refine st_p (vS (some ⟨b19, 0, none⟩) 1 1) hA ?_; clear hA ac; intro ac hA
 refine wn <| wp_seq <| wr <| st_p (vI .i64 0) hA ?_; clear hA ac; intro ac hA
 refine wn <| wp_block ?_
 have hW := hW.nestNil innerThg4
 have hknq21 : ∀ x_ ∈ ([] : List Thg4), capThg4 x_ := all_nil
 have hsnq21 : Res.src (nestR innerThg4 ([] : List Thg4)) [roR A_L 2 enOne4 L, nestR innerOne4 L, roR A_Q 3 enThg4 Q, nestR innerThg4 Q, roR A_x 1 enU8 x] w := nsrc_nil
 have hsrow18 : Res.src (roR A16 1 enU8 (trimC (foldJ ([(⟨thK Q (a) (o), Aow6, cow7⟩ : SV), (⟨x, A_x, c_x⟩ : SV)] : List SV)))) [roR A_L 2 enOne4 L, nestR innerOne4 L, roR A_Q 3 enThg4 Q, nestR innerThg4 Q, roR A_x 1 enU8 x] w := fun b_ hb_ => .inr ((hW.may _ (List.mem_of_getElem? (i := 1) rfl) b_ (rowR_fp b_ hb_)).resolve_left (fun h_ => h_))
 have hW := hW.share 1 rfl (H' := [Cel b19 #[vI .i64 a, vI .i64 o, vS A16 (trimC (foldJ ([(⟨thK Q (a) (o), Aow6, cow7⟩ : SV), (⟨x, A_x, c_x⟩ : SV)] : List SV))).length c17] 140, Cel b8 #[vS Aow6 (thK Q (a) (o)).length cow7, vS A_x x.length c_x] 34, Cel b3 #[vI .u64 0, vS none 0 0, vS none 0 0] 61, Cel b1 #[vI .u64 en, vS A_L L.length c_L, vS A_Q Q.length c_Q] 61]) rfl
 have hcq22 : (trimC (foldJ ([(⟨thK Q (a) (o), Aow6, cow7⟩ : SV), (⟨x, A_x, c_x⟩ : SV)] : List SV))).length ≤ c17 := (own_cap (E := 29) (sz := 1) (en := enU8) ((hW).getG 0 rfl))
 have hW := Ws.nestCons (inner := innerThg4) hW 1 rfl (⟨a, o, trimC (foldJ ([(⟨thK Q (a) (o), Aow6, cow7⟩ : SV), (⟨x, A_x, c_x⟩ : SV)] : List SV)), A16, c17⟩ : Thg4) (rowR_at (E := 29) (hW.getG 0 rfl) elt_U8.len) (fun _ hb_ => ⟨_, List.mem_of_getElem? (i := 0) rfl, rowR_fp _ hb_⟩)
 have hknq23 : ∀ x_ ∈ ([(⟨a, o, trimC (foldJ ([(⟨thK Q (a) (o), Aow6, cow7⟩ : SV), (⟨x, A_x, c_x⟩ : SV)] : List SV)), A16, c17⟩ : Thg4)] : List Thg4), capThg4 x_ := all_cons hcq22 hknq21
 have hsnq23 : Res.src (nestR innerThg4 ([(⟨a, o, trimC (foldJ ([(⟨thK Q (a) (o), Aow6, cow7⟩ : SV), (⟨x, A_x, c_x⟩ : SV)] : List SV)), A16, c17⟩ : Thg4)] : List Thg4)) [roR A_L 2 enOne4 L, nestR innerOne4 L, roR A_Q 3 enThg4 Q, nestR innerThg4 Q, roR A_x 1 enU8 x] w := nsrc_cons hsrow18 hsnq21
 have hW := hW.celRow (en := enThg4) (H' := [rowR 140 3 enThg4 (vS (some ⟨b19, 0, none⟩) ([(⟨a, o, trimC (foldJ ([(⟨thK Q (a) (o), Aow6, cow7⟩ : SV), (⟨x, A_x, c_x⟩ : SV)] : List SV)), A16, c17⟩ : Thg4)] : List Thg4).length ([(⟨a, o, trimC (foldJ ([(⟨thK Q (a) (o), Aow6, cow7⟩ : SV), (⟨x, A_x, c_x⟩ : SV)] : List SV)), A16, c17⟩ : Thg4)] : List Thg4).length) ([(⟨a, o, trimC (foldJ ([(⟨thK Q (a) (o), Aow6, cow7⟩ : SV), (⟨x, A_x, c_x⟩ : SV)] : List SV)), A16, c17⟩ : Thg4)] : List Thg4), Cel b8 #[vS Aow6 (thK Q (a) (o)).length cow7, vS A_x x.length c_x] 34, Cel b3 #[vI .u64 0, vS none 0 0, vS none 0 0] 61, Cel b1 #[vI .u64 en, vS A_L L.length c_L, vS A_Q Q.length c_Q] 61]) 0 rfl ([(⟨a, o, trimC (foldJ ([(⟨thK Q (a) (o), Aow6, cow7⟩ : SV), (⟨x, A_x, c_x⟩ : SV)] : List SV)), A16, c17⟩ : Thg4)] : List Thg4) (by rfl) elt_Thg4.len (show (1 : Nat) ≤ maxLen from by decide) rfl
 refine wp_loop_m (fun m_ ac_ wl_ => ∃ k : Nat, ∃ d : List Thg4, ∃ A : Option Addr, ∃ cc : Nat, m_ = Q.length - k ∧ (k ≤ Q.length) ∧ (d = relL (Q.take k) a o (⟨a, o, trimC (foldJ ([(⟨thK Q (a) (o), Aow6, cow7⟩ : SV), (⟨x, A_x, c_x⟩ : SV)] : List SV)), A16, c17⟩ : Thg4)) ∧ (d.length ≤ cc) ∧ (∀ x_ ∈ d, capThg4 x_) ∧ (Res.src (nestR innerThg4 d) [roR A_L 2 enOne4 L, nestR innerOne4 L, roR A_Q 3 enThg4 Q, nestR innerThg4 Q, roR A_x 1 enU8 x] w) ∧ (d.length ≤ k + 1) ∧ Fm 58 [] [(0, vA #[vI .u64 en, vS A_L L.length c_L, vS A_Q Q.length c_Q]), (1, vI .i64 a), (2, vI .i64 o), (3, vS A_x x.length c_x), (4, pA b1 0), (8, pA b3 0), (9, vS A d.length cc), (10, vI .i64 (k : Int))] ac_ ∧ Ws w No [rowR 140 3 enThg4 (vS A d.length cc) d, Cel b8 #[vS Aow6 (thK Q (a) (o)).length cow7, vS A_x x.length c_x] 34, Cel b3 #[vI .u64 0, vS none 0 0, vS none 0 0] 61, Cel b1 #[vI .u64 en, vS A_L L.length c_L, vS A_Q Q.length c_Q] 61] [nestR innerThg4 d, roR A_x 1 enU8 x, nestR innerThg4 Q, roR A_Q 3 enThg4 Q, nestR innerOne4 L, roR A_L 2 enOne4 L] wl_) _ ⟨0, ([(⟨a, o, trimC (foldJ ([(⟨thK Q (a) (o), Aow6, cow7⟩ : SV), (⟨x, A_x, c_x⟩ : SV)] : List SV)), A16, c17⟩ : Thg4)] : List Thg4), (some ⟨b19, 0, none⟩), ([(⟨a, o, trimC (foldJ ([(⟨thK Q (a) (o), Aow6, cow7⟩ : SV), (⟨x, A_x, c_x⟩ : SV)] : List SV)), A16, c17⟩ : Thg4)] : List Thg4).length, rfl, by omega, by rfl, by simp, by exact hknq23, by exact hsnq23, by simp, hA.sub (by and_intros <;> first | kernel_rfl | trivial), (hW.pick [0, 1, 2, 3] (by decide) rfl).pickG [0, 7, 8, 9, 10, 11] rfl⟩ ?_
 clear hA ac hW; rintro m_ ac w24 ⟨k, d, A, cc, rfl, hk, hd, hcc, hkD, hsD, hdl, hA, hW⟩
 refine wp_seq <| wr <| st_p (vI .i64 (k : Int)) hA fun ac hA => st_p (pA b1 2) hA fun ac hA => st_q (vS A_Q Q.length c_Q) hA hW.cls (rl b1 2 3) fun ac hA => st_p (vI .i64 (Q.length : Int)) hA fun ac hA => st_p (vB (decide ((k : Int) < (Q.length : Int)))) hA fun ac hA => wn <| wp_cond_split (t := decide ((k : Int) < (Q.length : Int))) (hA.eval (by kernel_rfl)) (fun h25 => ?_) (fun h25 => ?_)
 ·
  have h25 := of_decide_eq_true h25
  refine wp_skip <| thenN <| wp_seq <| wp_block <| wr <| st_p (pA b1 2) hA fun ac hA => st_q (vS A_Q Q.length c_Q) hA hW.cls (rl b1 2 3) fun ac hA => st_p (vI .i64 (k : Int)) hA fun ac hA => ?_
  obtain ⟨y26, hy26⟩ : ∃ y, Q[k]? = some y := ⟨_, List.getElem?_eq_getElem (by first | omega | (simp; done) | (simp; omega))⟩
  rcases y26 with ⟨y26_kq, y26_oq, y26_cl, y26_cl_A, y26_cl_c⟩
  obtain ⟨b27, o28, rfl, hbb27⟩ := row_some ((hW).getG 3 rfl) hy26
  refine st_q (vP (some ⟨b27, o28 + k * 3, none⟩)) hA hW.cls (Rd.indexAddr (e := 140) (sz := 3) (b := b27) (off := o28) (n := Q.length) (c := c_Q) (k := k) (by kernel_rfl) (by kernel_rfl) (by first | omega | (simp; done) | (simp; omega)) (fun _ => by kernel_rfl) (fun _ => by kernel_rfl)) fun ac hA => st_p (vP (some ⟨b27, o28 + k * 3, none⟩)) hA fun ac hA => st_q (vI .i64 y26_kq) hA hW.cls (Rd.loadRow (b := b27) (i := o28 + k * 3) (xs := [vI .i64 y26_kq]) (by kernel_rfl) (fun _ hw => row_ld ((hw.1).getG 3 rfl) hy26 (Fr.refl No _) (fun h => h) 0 1 (by kernel_rfl)) (by kernel_rfl)) fun ac hA => st_p (vI .i64 a) hA fun ac hA => st_p (vB ((y26_kq : Int) != (a : Int))) hA fun ac hA => st_p (vB ((y26_kq : Int) != (a : Int))) hA fun ac hA => ?_
  rcases Bool.eq_false_or_eq_true ((y26_kq : Int) != (a : Int)) with h29 | h29
  ·
   rw [h29] at hA
   have h29 := bne_iff_ne.1 h29
   refine st_k hA fun ac hA => st_k hA fun ac hA => st_k hA fun ac hA => st_k hA fun ac hA => st_k hA fun ac hA => st_k hA fun ac hA => st_k hA fun ac hA => st_k hA fun ac hA => st_p (vB true) hA fun ac hA => wn <| wp_cond_true (hA.eval (by kernel_rfl)) <| wp_region_lit <| st_p (vS A d.length cc) hA fun ac hA => st_p (pA b1 2) hA fun ac hA => st_q (vS (some ⟨b27, o28, none⟩) Q.length c_Q) hA hW.cls (rl b1 2 3) fun ac hA => st_p (vI .i64 (k : Int)) hA fun ac hA => st_q (vP (some ⟨b27, o28 + k * 3, none⟩)) hA hW.cls (Rd.indexAddr (e := 140) (sz := 3) (b := b27) (off := o28) (n := Q.length) (c := c_Q) (k := k) (by kernel_rfl) (by kernel_rfl) (by first | omega | (simp; done) | (simp; omega)) (fun _ => by kernel_rfl) (fun _ => by kernel_rfl)) fun ac hA => ?_
   have hW := hW.nestAt 2 rfl (List.mem_of_getElem? hy26)
   have hc_y26_cl : y26_cl.length ≤ y26_cl_c := hk_Q _ (List.mem_of_getElem? hy26)
   have hsy26_cl : Res.src (roR y26_cl_A 1 enU8 y26_cl) [roR A_L 2 enOne4 L, nestR innerOne4 L, roR (some ⟨b27, o28, none⟩) 3 enThg4 Q, nestR innerThg4 Q, roR A_x 1 enU8 x] w := nsrc_at (inner := innerThg4) (x := (⟨y26_kq, y26_oq, y26_cl, y26_cl_A, y26_cl_c⟩ : Thg4)) (src_arg (.tail _ (.tail _ (.tail _ (.head _))))) (List.mem_of_getElem? hy26)
   replace hW : Ws w No [rowR 140 3 enThg4 (vS A d.length cc) d, Cel b8 #[vS Aow6 (thK Q (a) (o)).length cow7, vS A_x x.length c_x] 34, Cel b3 #[vI .u64 0, vS none 0 0, vS none 0 0] 61, Cel b1 #[vI .u64 en, vS A_L L.length c_L, vS (some ⟨b27, o28, none⟩) Q.length c_Q] 61] [roR y26_cl_A 1 enU8 y26_cl, nestR innerThg4 d, roR A_x 1 enU8 x, nestR innerThg4 Q, roR (some ⟨b27, o28, none⟩) 3 enThg4 Q, nestR innerOne4 L, roR A_L 2 enOne4 L] w24 := hW
   refine st_q (vA #[vI .i64 y26_kq, vI .i64 y26_oq, vS y26_cl_A y26_cl.length y26_cl_c]) hA hW.cls (Rd.loadRow (b := b27) (i := o28 + k * 3) (xs := [vI .i64 y26_kq, vI .i64 y26_oq, vS y26_cl_A y26_cl.length y26_cl_c]) (by kernel_rfl) (fun _ hw => row_ld ((hw.1).getG 4 rfl) hy26 (Fr.refl No _) (fun h => h) 0 3 (by kernel_rfl)) (by kernel_rfl)) ?_; clear hA ac; intro ac hA
   refine st_s hA (Runs.cells (fun b => vS (some ⟨b, 0, none⟩) 1 1) #[vI .i64 y26_kq, vI .i64 y26_oq, vS y26_cl_A y26_cl.length y26_cl_c] 140 (fun _ => by kernel_rfl) hW ?_); clear hA ac hW; intro b30 w31 hW hb30 hfw31 ac hA
   have hW := hW.nestNil innerThg4
   have hknq32 : ∀ x_ ∈ ([] : List Thg4), capThg4 x_ := all_nil
   have hsnq32 : Res.src (nestR innerThg4 ([] : List Thg4)) [roR A_L 2 enOne4 L, nestR innerOne4 L, roR (some ⟨b27, o28, none⟩) 3 enThg4 Q, nestR innerThg4 Q, roR A_x 1 enU8 x] w := nsrc_nil
   have hcq33 : y26_cl.length ≤ y26_cl_c := (by first | assumption | omega | (simp; omega) | simp)
   have hW := Ws.nestCons (inner := innerThg4) hW 0 rfl (⟨y26_kq, y26_oq, y26_cl, y26_cl_A, y26_cl_c⟩ : Thg4) (hW.getG 1 rfl) (fun _ hb_ => ⟨_, List.mem_of_getElem? (i := 1) rfl, hb_⟩)
   have hknq34 : ∀ x_ ∈ ([(⟨y26_kq, y26_oq, y26_cl, y26_cl_A, y26_cl_c⟩ : Thg4)] : List Thg4), capThg4 x_ := all_cons hcq33 hknq32
   have hsnq34 : Res.src (nestR innerThg4 ([(⟨y26_kq, y26_oq, y26_cl, y26_cl_A, y26_cl_c⟩ : Thg4)] : List Thg4)) [roR A_L 2 enOne4 L, nestR innerOne4 L, roR (some ⟨b27, o28, none⟩) 3 enThg4 Q, nestR innerThg4 Q, roR A_x 1 enU8 x] w := nsrc_cons hsy26_cl hsnq32
   have hW := hW.nestApp 3 0 rfl rfl
   have hknq35 : ∀ x_ ∈ (d ++ ([(⟨y26_kq, y26_oq, y26_cl, y26_cl_A, y26_cl_c⟩ : Thg4)] : List Thg4)), capThg4 x_ := all_app hkD hknq34
   have hsnq35 : Res.src (nestR innerThg4 (d ++ ([(⟨y26_kq, y26_oq, y26_cl, y26_cl_A, y26_cl_c⟩ : Thg4)] : List Thg4))) [roR A_L 2 enOne4 L, nestR innerOne4 L, roR (some ⟨b27, o28, none⟩) 3 enThg4 Q, nestR innerThg4 Q, roR A_x 1 enU8 x] w := nsrc_app hsD hsnq34
   refine st_s hA (Runs.appOwn (B := (some ⟨b30, 0, none⟩)) (k := 1) (E := 140) (sz := 3) (en := enThg4) (l := d) (m := ([(⟨y26_kq, y26_oq, y26_cl, y26_cl_A, y26_cl_c⟩ : Thg4)] : List Thg4)) (i := 1) (by kernel_rfl) (by kernel_rfl) elt_Thg4 (by kernel_rfl) hW rfl (rowAt_cel ((hW).cel 0 rfl) ([(⟨y26_kq, y26_oq, y26_cl, y26_cl_A, y26_cl_c⟩ : Thg4)] : List Thg4) (by rfl) elt_Thg4.len) (by first | omega | (simp; done) | (simp; omega)) (by first | omega | (simp; done) | (simp; omega)) ?_); clear hA ac hW; intro A36 c37 w38 hW hcc37 ac hA
   refine st_p (vS A36 (d ++ ([(⟨y26_kq, y26_oq, y26_cl, y26_cl_A, y26_cl_c⟩ : Thg4)] : List Thg4)).length c37) hA ?_; clear hA ac; intro ac hA
   refine wpList_nil <| blkN <| thenN <| wp_region_lit <| st_p (vI .i64 (k : Int)) hA fun ac hA => st_q (vI .i64 ((k + 1 : Nat) : Int)) hA hW.cls (Rd.pureE (v0 := vI .i64 (IntKind.i64.wrap ((k : Int) + 1))) (fun _ => by kernel_rfl) (congrArg (vI .i64) ((w_i64 (x := (k : Int) + 1) (by omega) (by omega)).trans (by omega)))) fun ac hA => st_p (vI .i64 ((k + 1 : Nat) : Int)) hA fun ac hA => wn ?_
   exact ⟨Q.length - (k + 1), by omega, k + 1, d ++ ([(⟨y26_kq, y26_oq, y26_cl, y26_cl_A, y26_cl_c⟩ : Thg4)] : List Thg4), A36, c37, rfl, by omega, by rw [tk_snoc hy26, rel_yes (show ¬ (y26_kq = a ∧ y26_oq = o) from by omega), hd], by exact (own_cap ((hW).get 1 rfl)), by exact hknq35, by exact hsnq35, by first | (simp; omega) | omega, hA.sub (by and_intros <;> first | kernel_rfl | trivial), (hW.pick [1, 2, 3, 4] (by decide) rfl).pickG [0, 5, 6, 7, 8, 9] rfl⟩
  rw [h29] at hA
  have h29 := of_bne_f h29
  refine st_p (pA b1 2) hA fun ac hA => st_q (vS (some ⟨b27, o28, none⟩) Q.length c_Q) hA hW.cls (rl b1 2 3) fun ac hA => st_p (vI .i64 (k : Int)) hA fun ac hA => st_q (vP (some ⟨b27, o28 + k * 3, none⟩)) hA hW.cls (Rd.indexAddr (e := 140) (sz := 3) (b := b27) (off := o28) (n := Q.length) (c := c_Q) (k := k) (by kernel_rfl) (by kernel_rfl) (by first | omega | (simp; done) | (simp; omega)) (fun _ => by kernel_rfl) (fun _ => by kernel_rfl)) fun ac hA => st_p (vP (some ⟨b27, o28 + k * 3 + 1, none⟩)) hA fun ac hA => st_q (vI .i64 y26_oq) hA hW.cls (Rd.loadRow (b := b27) (i := o28 + k * 3 + 1) (xs := [vI .i64 y26_oq]) (by kernel_rfl) (fun _ hw => row_ld ((hw.1).getG 3 rfl) hy26 (Fr.refl No _) (fun h => h) 1 1 (by kernel_rfl)) (by kernel_rfl)) fun ac hA => st_p (vI .i64 o) hA fun ac hA => st_p (vB ((y26_oq : Int) != (o : Int))) hA fun ac hA => st_p (vB ((y26_oq : Int) != (o : Int))) hA fun ac hA => wn <| wp_cond_split (t := (y26_oq : Int) != (o : Int)) (hA.eval (by kernel_rfl)) (fun h39 => ?_) (fun h39 => ?_)
  ·
   have h39 := bne_iff_ne.1 h39
   refine wp_region_lit <| st_p (vS A d.length cc) hA fun ac hA => st_p (pA b1 2) hA fun ac hA => st_q (vS (some ⟨b27, o28, none⟩) Q.length c_Q) hA hW.cls (rl b1 2 3) fun ac hA => st_p (vI .i64 (k : Int)) hA fun ac hA => st_q (vP (some ⟨b27, o28 + k * 3, none⟩)) hA hW.cls (Rd.indexAddr (e := 140) (sz := 3) (b := b27) (off := o28) (n := Q.length) (c := c_Q) (k := k) (by kernel_rfl) (by kernel_rfl) (by first | omega | (simp; done) | (simp; omega)) (fun _ => by kernel_rfl) (fun _ => by kernel_rfl)) fun ac hA => ?_
   have hW := hW.nestAt 2 rfl (List.mem_of_getElem? hy26)
   have hc_y26_cl : y26_cl.length ≤ y26_cl_c := hk_Q _ (List.mem_of_getElem? hy26)
   have hsy26_cl : Res.src (roR y26_cl_A 1 enU8 y26_cl) [roR A_L 2 enOne4 L, nestR innerOne4 L, roR (some ⟨b27, o28, none⟩) 3 enThg4 Q, nestR innerThg4 Q, roR A_x 1 enU8 x] w := nsrc_at (inner := innerThg4) (x := (⟨y26_kq, y26_oq, y26_cl, y26_cl_A, y26_cl_c⟩ : Thg4)) (src_arg (.tail _ (.tail _ (.tail _ (.head _))))) (List.mem_of_getElem? hy26)
   replace hW : Ws w No [rowR 140 3 enThg4 (vS A d.length cc) d, Cel b8 #[vS Aow6 (thK Q (a) (o)).length cow7, vS A_x x.length c_x] 34, Cel b3 #[vI .u64 0, vS none 0 0, vS none 0 0] 61, Cel b1 #[vI .u64 en, vS A_L L.length c_L, vS (some ⟨b27, o28, none⟩) Q.length c_Q] 61] [roR y26_cl_A 1 enU8 y26_cl, nestR innerThg4 d, roR A_x 1 enU8 x, nestR innerThg4 Q, roR (some ⟨b27, o28, none⟩) 3 enThg4 Q, nestR innerOne4 L, roR A_L 2 enOne4 L] w24 := hW
   refine st_q (vA #[vI .i64 y26_kq, vI .i64 y26_oq, vS y26_cl_A y26_cl.length y26_cl_c]) hA hW.cls (Rd.loadRow (b := b27) (i := o28 + k * 3) (xs := [vI .i64 y26_kq, vI .i64 y26_oq, vS y26_cl_A y26_cl.length y26_cl_c]) (by kernel_rfl) (fun _ hw => row_ld ((hw.1).getG 4 rfl) hy26 (Fr.refl No _) (fun h => h) 0 3 (by kernel_rfl)) (by kernel_rfl)) ?_; clear hA ac; intro ac hA
   refine st_s hA (Runs.cells (fun b => vS (some ⟨b, 0, none⟩) 1 1) #[vI .i64 y26_kq, vI .i64 y26_oq, vS y26_cl_A y26_cl.length y26_cl_c] 140 (fun _ => by kernel_rfl) hW ?_); clear hA ac hW; intro b40 w41 hW hb40 hfw41 ac hA
   have hW := hW.nestNil innerThg4
   have hknq42 : ∀ x_ ∈ ([] : List Thg4), capThg4 x_ := all_nil
   have hsnq42 : Res.src (nestR innerThg4 ([] : List Thg4)) [roR A_L 2 enOne4 L, nestR innerOne4 L, roR (some ⟨b27, o28, none⟩) 3 enThg4 Q, nestR innerThg4 Q, roR A_x 1 enU8 x] w := nsrc_nil
   have hcq43 : y26_cl.length ≤ y26_cl_c := (by first | assumption | omega | (simp; omega) | simp)
   have hW := Ws.nestCons (inner := innerThg4) hW 0 rfl (⟨y26_kq, y26_oq, y26_cl, y26_cl_A, y26_cl_c⟩ : Thg4) (hW.getG 1 rfl) (fun _ hb_ => ⟨_, List.mem_of_getElem? (i := 1) rfl, hb_⟩)
   have hknq44 : ∀ x_ ∈ ([(⟨y26_kq, y26_oq, y26_cl, y26_cl_A, y26_cl_c⟩ : Thg4)] : List Thg4), capThg4 x_ := all_cons hcq43 hknq42
   have hsnq44 : Res.src (nestR innerThg4 ([(⟨y26_kq, y26_oq, y26_cl, y26_cl_A, y26_cl_c⟩ : Thg4)] : List Thg4)) [roR A_L 2 enOne4 L, nestR innerOne4 L, roR (some ⟨b27, o28, none⟩) 3 enThg4 Q, nestR innerThg4 Q, roR A_x 1 enU8 x] w := nsrc_cons hsy26_cl hsnq42
   have hW := hW.nestApp 3 0 rfl rfl
   have hknq45 : ∀ x_ ∈ (d ++ ([(⟨y26_kq, y26_oq, y26_cl, y26_cl_A, y26_cl_c⟩ : Thg4)] : List Thg4)), capThg4 x_ := all_app hkD hknq44
   have hsnq45 : Res.src (nestR innerThg4 (d ++ ([(⟨y26_kq, y26_oq, y26_cl, y26_cl_A, y26_cl_c⟩ : Thg4)] : List Thg4))) [roR A_L 2 enOne4 L, nestR innerOne4 L, roR (some ⟨b27, o28, none⟩) 3 enThg4 Q, nestR innerThg4 Q, roR A_x 1 enU8 x] w := nsrc_app hsD hsnq44
   refine st_s hA (Runs.appOwn (B := (some ⟨b40, 0, none⟩)) (k := 1) (E := 140) (sz := 3) (en := enThg4) (l := d) (m := ([(⟨y26_kq, y26_oq, y26_cl, y26_cl_A, y26_cl_c⟩ : Thg4)] : List Thg4)) (i := 1) (by kernel_rfl) (by kernel_rfl) elt_Thg4 (by kernel_rfl) hW rfl (rowAt_cel ((hW).cel 0 rfl) ([(⟨y26_kq, y26_oq, y26_cl, y26_cl_A, y26_cl_c⟩ : Thg4)] : List Thg4) (by rfl) elt_Thg4.len) (by first | omega | (simp; done) | (simp; omega)) (by first | omega | (simp; done) | (simp; omega)) ?_); clear hA ac hW; intro A46 c47 w48 hW hcc47 ac hA
   refine st_p (vS A46 (d ++ ([(⟨y26_kq, y26_oq, y26_cl, y26_cl_A, y26_cl_c⟩ : Thg4)] : List Thg4)).length c47) hA ?_; clear hA ac; intro ac hA
   refine wpList_nil <| blkN <| thenN <| wp_region_lit <| st_p (vI .i64 (k : Int)) hA fun ac hA => st_q (vI .i64 ((k + 1 : Nat) : Int)) hA hW.cls (Rd.pureE (v0 := vI .i64 (IntKind.i64.wrap ((k : Int) + 1))) (fun _ => by kernel_rfl) (congrArg (vI .i64) ((w_i64 (x := (k : Int) + 1) (by omega) (by omega)).trans (by omega)))) fun ac hA => st_p (vI .i64 ((k + 1 : Nat) : Int)) hA fun ac hA => wn ?_
   exact ⟨Q.length - (k + 1), by omega, k + 1, d ++ ([(⟨y26_kq, y26_oq, y26_cl, y26_cl_A, y26_cl_c⟩ : Thg4)] : List Thg4), A46, c47, rfl, by omega, by rw [tk_snoc hy26, rel_yes (show ¬ (y26_kq = a ∧ y26_oq = o) from by omega), hd], by exact (own_cap ((hW).get 1 rfl)), by exact hknq45, by exact hsnq45, by first | (simp; omega) | omega, hA.sub (by and_intros <;> first | kernel_rfl | trivial), (hW.pick [1, 2, 3, 4] (by decide) rfl).pickG [0, 5, 6, 7, 8, 9] rfl⟩
  have h39 := of_bne_f h39
  refine wp_skip <| blkN <| thenN <| wp_region_lit <| st_p (vI .i64 (k : Int)) hA fun ac hA => st_q (vI .i64 ((k + 1 : Nat) : Int)) hA hW.cls (Rd.pureE (v0 := vI .i64 (IntKind.i64.wrap ((k : Int) + 1))) (fun _ => by kernel_rfl) (congrArg (vI .i64) ((w_i64 (x := (k : Int) + 1) (by omega) (by omega)).trans (by omega)))) fun ac hA => st_p (vI .i64 ((k + 1 : Nat) : Int)) hA fun ac hA => wn ?_
  exact ⟨Q.length - (k + 1), by omega, k + 1, d, A, cc, rfl, by omega, by rw [tk_snoc hy26, rel_no (show (y26_kq = a ∧ y26_oq = o) from by omega), hd], by exact (own_cap ((hW).get 0 rfl)), by exact hkD, by exact hsD, by first | (simp; omega) | omega, hA.sub (by and_intros <;> first | kernel_rfl | trivial), (hW.pick [0, 1, 2, 3] (by decide) rfl).pickG [0, 1, 2, 3, 4, 5] rfl⟩
 have h25 := of_decide_eq_false h25
 refine wp_exit <| thenX <| thenX <| blkX <| thenN <| wr <| st_p (vS A d.length cc) hA fun ac hA => st_p (pA b1 2) hA fun ac hA => st_s hA (Runs.store (v := vS A d.length cc) (b := b1) (j := 2) (n := 1) (cs' := #[vI .u64 en, vS A_L L.length c_L, vS A d.length cc]) (H' := [rowR 140 3 enThg4 (vS A d.length cc) d, Cel b8 #[vS Aow6 (thK Q (a) (o)).length cow7, vS A_x x.length c_x] 34, Cel b3 #[vI .u64 0, vS none 0 0, vS none 0 0] 61, Cel b1 #[vI .u64 en, vS A_L L.length c_L, vS A d.length cc] 61]) (by kernel_rfl) (by kernel_rfl) (by kernel_rfl) (by kernel_rfl) (by kernel_rfl) hW 3 (by rfl) (Nat.le_of_ble_eq_true (by kernel_rfl)) (by kernel_rfl) (by rfl) ?_); clear hA ac hW; intro w49 hW ac hA
 refine wn <| wr <| st_q (vA #[vI .u64 en, vS A_L L.length c_L, vS A d.length cc]) hA hW.cls (rl b1 0 3) ?_; clear hA ac; intro ac hA
 refine st_s hA (Runs.store (v := vA #[vI .u64 en, vS A_L L.length c_L, vS A d.length cc]) (b := b3) (j := 0) (n := 3) (cs' := #[vI .u64 en, vS A_L L.length c_L, vS A d.length cc]) (H' := [rowR 140 3 enThg4 (vS A d.length cc) d, Cel b8 #[vS Aow6 (thK Q (a) (o)).length cow7, vS A_x x.length c_x] 34, Cel b3 #[vI .u64 en, vS A_L L.length c_L, vS A d.length cc] 61, Cel b1 #[vI .u64 en, vS A_L L.length c_L, vS A d.length cc] 61]) (by kernel_rfl) (by kernel_rfl) (by kernel_rfl) (by kernel_rfl) (by kernel_rfl) hW 2 (by rfl) (Nat.le_of_ble_eq_true (by kernel_rfl)) (by kernel_rfl) (by rfl) ?_); clear hA ac hW; intro w50 hW ac hA
 refine wn <| wp_ret <| ret1 (v := vA #[vI .u64 en, vS A_L L.length c_L, vS A d.length cc]) (by rfl) hA (Got.cell (b := b3) (i := 0) hA (by kernel_rfl) (by kernel_rfl) (hW.cel 2 rfl) (by kernel_rfl)) ?_
 clear hA
 rw [List.take_of_length_le (by omega)] at hd
 exact ⟨d, A_L, c_L, A, cc, by first | rfl | (simp; done), by exact ⟨(⟨a, o, trimC (foldJ ([(⟨thK Q (a) (o), Aow6, cow7⟩ : SV), (⟨x, A_x, c_x⟩ : SV)] : List SV)), A16, c17⟩ : Thg4), rfl, rfl, rfl, by rw [hd]⟩, (by first | assumption | omega | (simp; omega) | simp), (own_cap ((hW).get 0 rfl)), hk_L, hkD, (hW.outSrc 5 rfl (src_arg (.head _))), (hW.outRow 0 rfl elt_Thg4.len (fun _ h => h)), (hW.outSrc 4 rfl (src_arg (.tail _ (.head _)))), (hW.outSrc 0 rfl hsD), hW.fr⟩

end Go.Proofs.YtjegpelofdopmaaGreatDoor.L
