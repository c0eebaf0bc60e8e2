/- Contracts, walked by program over the engine's laws. -/
import Derived.Test.YtjegpelofdopmaaGreatDoorProg
import Derived.Test.YtjegpelofdopmaaGreatDoorT17
namespace Go.Proofs.YtjegpelofdopmaaGreatDoor.L
open Go.RowKit
open Go.Value renaming int → vI, slice → vS, bool → vB, pointer → vP, func → vF, agg → vA, map → vM, tuple → vT

structure One4 where
  w : Int
  cl : List Int
  cl_A : Option Addr
  cl_c : Nat
def One4.v (x : One4) : Value := .agg #[.int .i64 x.w, .slice x.cl_A x.cl.length x.cl_c]
def enOne4 (x : One4) : List Value := [.int .i64 x.w, .slice x.cl_A x.cl.length x.cl_c]
structure Thg4 where
  kq : Int
  oq : Int
  cl : List Int
  cl_A : Option Addr
  cl_c : Nat
def Thg4.v (x : Thg4) : Value := .agg #[.int .i64 x.kq, .int .i64 x.oq, .slice x.cl_A x.cl.length x.cl_c]
def enThg4 (x : Thg4) : List Value := [.int .i64 x.kq, .int .i64 x.oq, .slice x.cl_A x.cl.length x.cl_c]
theorem elt_One4 : Elt Tryz.prog 104 2 enOne4 := ⟨⟨vA #[vI .i64 0, vS none 0 0], 32, by kernel_rfl, rfl, by decide⟩, by decide, fun _ => rfl, fun x u hu => List.all_eq_true.1 (show (enOne4 x).all (·.oneCell') = true from rfl) u hu⟩
theorem elt_Thg4 : Elt Tryz.prog 140 3 enThg4 := ⟨⟨vA #[vI .i64 0, vI .i64 0, vS none 0 0], 40, by kernel_rfl, rfl, by decide⟩, by decide, fun _ => rfl, fun x u hu => List.all_eq_true.1 (show (enThg4 x).all (·.oneCell') = true from rfl) u hu⟩
def innerOne4 (x : One4) : Res := roR x.cl_A 1 enU8 x.cl
def capOne4 (x : One4) : Prop := x.cl.length ≤ x.cl_c
theorem nest_ltOne4 {V : List One4} {w : World} (h : (nestR innerOne4 V).p w) : ∀ b ∈ (nestR innerOne4 V).fp, b < w.heap.size := nest_lt (A := fun x : One4 => x.cl_A) (sz := fun _ => 1) (L := fun x : One4 => x.cl) (en := enU8) h
def innerThg4 (x : Thg4) : Res := roR x.cl_A 1 enU8 x.cl
def capThg4 (x : Thg4) : Prop := x.cl.length ≤ x.cl_c
theorem nest_ltThg4 {V : List Thg4} {w : World} (h : (nestR innerThg4 V).p w) : ∀ b ∈ (nestR innerThg4 V).fp, b < w.heap.size := nest_lt (A := fun x : Thg4 => x.cl_A) (sz := fun _ => 1) (L := fun x : Thg4 => x.cl) (en := enU8) h
/-- The place of a goroutine; -1: it has not begun. -/
def atK : List One4 → Int → Int
  | [], _ => -1
  | x :: l, g => if x.w = g then 0 else if atK l g < 0 then -1 else atK l g + 1
theorem at_yes {g : Int} {y : One4} : ∀ {l : List One4} {k : Nat}, (∀ x ∈ l.take k, x.w ≠ g) → l[k]? = some y → y.w = g → atK l g = k
  | [], k, _, h, _ => by simp at h
  | x :: l, 0, _, h, e => by
    obtain rfl : x = y := by simpa using h
    unfold atK; rw [if_pos e]; rfl
  | x :: l, k + 1, hn, h, e => by
    have ih := at_yes (l := l) (k := k) (fun z hz => hn z (by rw [List.take_succ_cons]; exact .tail _ hz)) (by simpa using h) e
    unfold atK; rw [if_neg (hn x (by rw [List.take_succ_cons]; exact .head _)), if_neg (by omega), ih]; omega
theorem at_no {g : Int} : ∀ {l : List One4}, (∀ x ∈ l, x.w ≠ g) → atK l g = -1
  | [], _ => rfl
  | x :: l, hn => by
    have ih := at_no (l := l) (fun z hz => hn z (.tail _ hz))
    unfold atK; rw [if_neg (hn x (.head _)), if_pos (by omega)]
theorem at_rng (g : Int) : ∀ l : List One4, -1 ≤ atK l g ∧ atK l g < l.length
  | [] => by simp [atK]
  | x :: l => by
    have ih := at_rng g l
    unfold atK; simp only [List.length_cons]; split
    · omega
    · split <;> omega
/-- A goroutine's vector. -/
def ofK (l : List One4) (g : Int) : List Int := if 0 ≤ atK l g then ((l[(atK l g).toNat]?).map One4.cl).getD [] else []
theorem of_at {l : List One4} {g : Int} {y : One4} (h : 0 ≤ atK l g) (hy : l[(atK l g).toNat]? = some y) : ofK l g = y.cl := by unfold ofK; rw [if_pos h, hy]; rfl
/-- A thing's vector. -/
def thK : List Thg4 → Int → Int → List Int
  | [], _, _ => []
  | x :: l, k, o => if x.kq = k ∧ x.oq = o then x.cl else thK l k o
theorem th_yes {a o : Int} {y : Thg4} : ∀ {l : List Thg4} {k : Nat}, (∀ x ∈ l.take k, ¬ (x.kq = a ∧ x.oq = o)) → l[k]? = some y → y.kq = a ∧ y.oq = o → thK l a o = y.cl
  | [], k, _, h, _ => by simp at h
  | x :: l, 0, _, h, e => by
    obtain rfl : x = y := by simpa using h
    unfold thK; rw [if_pos e]
  | x :: l, k + 1, hn, h, e => by
    unfold thK; rw [if_neg (hn x (by rw [List.take_succ_cons]; exact .head _))]
    exact th_yes (l := l) (k := k) (fun z hz => hn z (by rw [List.take_succ_cons]; exact .tail _ hz)) (by simpa using h) e
theorem th_no {a o : Int} : ∀ {l : List Thg4}, (∀ x ∈ l, ¬ (x.kq = a ∧ x.oq = o)) → thK l a o = []
  | [], _ => rfl
  | x :: l, hn => by unfold thK; rw [if_neg (hn x (.head _)), th_no (fun z hz => hn z (.tail _ hz))]
set_option maxRecDepth 100000 in
theorem e_kat (en : Int) (A_L : Option Addr) (c_L : Nat) (L : List One4) (A_Q : Option Addr) (c_Q : Nat) (Q : List Thg4) (g : Int) (w : World) (hr_L : RowAt w A_L 2 enOne4 L) (hc_L : L.length ≤ c_L) (hn_L : (nestR innerOne4 L).p w) (hk_L : ∀ x_ ∈ L, capOne4 x_) (hr_Q : RowAt w A_Q 3 enThg4 Q) (hc_Q : Q.length ≤ c_Q) (hn_Q : (nestR innerThg4 Q).p w) (hk_Q : ∀ x_ ∈ Q, capThg4 x_) (hL : L.length ≤ 100000) (hQ : Q.length ≤ 100000) (hLc : ∀ x ∈ L, x.cl.length ≤ 65536) (hQc : ∀ x ∈ Q, x.cl.length ≤ 65536) (hg : -9223372036854775808 ≤ g ∧ g ≤ 9223372036854775807) : Calls Tryz.prog 43 #[vA #[vI .u64 en, vS A_L L.length c_L, vS A_Q Q.length c_Q], vI .i64 g] w (fun e w' => e = .returned (vI .i64 (atK L g)) ∧ Fr No w w') := by
 have _hu := hc_L; have _hv := hr_L; clear _hu _hv
 have _hu := hk_L; have _hv := hn_L; clear _hu _hv
 have _hu := hc_Q; have _hv := hr_Q; clear _hu _hv
 have _hu := hk_Q; have _hv := hn_Q; clear _hu _hv
 have _hu := hL; clear _hu
 have _hu := hQ; clear _hu
 have _hu := hLc; clear _hu
 have _hu := hQc; clear _hu
 have _hu := hg; clear _hu
 refine enter_E 22 Tryz.func43 rfl rfl (by kernel_rfl) (L := [(0, vA #[vI .u64 en, vS A_L L.length c_L, vS A_Q Q.length c_Q]), (1, vI .i64 g)]) (by kernel_rfl) ?_
 intro ac hA
 have hW := Ws.start w No
 have hW := hW.arg hr_L
 have hW := hW.addG _ hn_L (nest_ltOne4 hn_L) (by simp)
 have hW := hW.arg hr_Q
 have hW := hW.addG _ hn_Q (nest_ltThg4 hn_Q) (by simp)
 refine wr <| st_s hA (Runs.cells (fun b => pA b 0) #[vI .u64 en, vS A_L L.length c_L, vS A_Q Q.length c_Q] 61 (fun _ => by kernel_rfl) hW ?_); clear hA ac hW; intro b1 w2 hW hb1 hfw2 ac hA
 refine st_p (vI .i64 0) hA ?_; clear hA ac; intro ac hA
 refine wn <| wp_seq <| wr <| st_p (vI .i64 0) hA ?_; clear hA ac; intro ac hA
 refine wn <| wp_block <| wp_loop_m (fun m_ ac_ wl_ => ∃ k : Nat, m_ = L.length - k ∧ (k ≤ L.length) ∧ (∀ x ∈ L.take k, x.w ≠ g) ∧ Fm 22 [] [(1, vI .i64 g), (2, pA b1 0), (5, vI .i64 (k : Int))] ac_ ∧ Ws w No [Cel b1 #[vI .u64 en, vS A_L L.length c_L, vS A_Q Q.length c_Q] 61] [nestR innerThg4 Q, roR A_Q 3 enThg4 Q, nestR innerOne4 L, roR A_L 2 enOne4 L] wl_) _ ⟨0, rfl, by omega, by simp, hA.sub (by and_intros <;> first | kernel_rfl | trivial), (hW.pick [0] (by decide) rfl).pickG [0, 1, 2, 3] rfl⟩ ?_
 clear hA ac hW; rintro m_ ac w3 ⟨k, rfl, hk, hn, hA, hW⟩
 refine wp_seq <| wr <| st_p (vI .i64 (k : Int)) hA fun ac hA => st_p (pA b1 1) hA fun ac hA => st_q (vS A_L L.length c_L) hA hW.cls (rl b1 1 0) fun ac hA => st_p (vI .i64 (L.length : Int)) hA fun ac hA => st_p (vB (decide ((k : Int) < (L.length : Int)))) hA fun ac hA => wn <| wp_cond_split (t := decide ((k : Int) < (L.length : Int))) (hA.eval (by kernel_rfl)) (fun h4 => ?_) (fun h4 => ?_)
 ·
  have h4 := of_decide_eq_true h4
  refine wp_skip <| thenN <| wp_seq <| wp_block <| wr <| st_p (pA b1 1) hA fun ac hA => st_q (vS A_L L.length c_L) hA hW.cls (rl b1 1 0) fun ac hA => st_p (vI .i64 (k : Int)) hA fun ac hA => ?_
  obtain ⟨y5, hy5⟩ : ∃ y, L[k]? = some y := ⟨_, List.getElem?_eq_getElem (by first | omega | (simp; done) | (simp; omega))⟩
  rcases y5 with ⟨y5_w, y5_cl, y5_cl_A, y5_cl_c⟩
  obtain ⟨b6, o7, rfl, hbb6⟩ := row_some ((hW).getG 3 rfl) hy5
  refine st_q (vP (some ⟨b6, o7 + k * 2, none⟩)) hA hW.cls (Rd.indexAddr (e := 104) (sz := 2) (b := b6) (off := o7) (n := L.length) (c := c_L) (k := k) (by kernel_rfl) (by kernel_rfl) (by first | omega | (simp; done) | (simp; omega)) (fun _ => by kernel_rfl) (fun _ => by kernel_rfl)) fun ac hA => st_p (vP (some ⟨b6, o7 + k * 2, none⟩)) hA fun ac hA => st_q (vI .i64 y5_w) hA hW.cls (Rd.loadRow (b := b6) (i := o7 + k * 2) (xs := [vI .i64 y5_w]) (by kernel_rfl) (fun _ hw => row_ld ((hw.1).getG 3 rfl) hy5 (Fr.refl No _) (fun h => h) 0 1 (by kernel_rfl)) (by kernel_rfl)) fun ac hA => st_p (vI .i64 g) hA fun ac hA => st_p (vB ((y5_w : Int) == (g : Int))) hA fun ac hA => wn <| wp_cond_split (t := (y5_w : Int) == (g : Int)) (hA.eval (by kernel_rfl)) (fun h8 => ?_) (fun h8 => ?_)
  ·
   have h8 := eq_of_beq h8
   refine wr <| st_p (vI .i64 (k : Int)) hA fun ac hA => st_p (vI .i64 (k : Int)) hA fun ac hA => wn <| wp_ret <| blkR <| thenR <| thenR <| blkR <| thenR <| r1 (vI .i64 (k : Int)) hA ?_
   clear hA
   exact ⟨retv (by rw [at_yes hn hy5 (by omega)]), hW.fr⟩
  have h8 := ne_of_beq_false h8
  refine wp_skip <| blkN <| thenN <| wp_region_lit <| st_p (vI .i64 (k : Int)) hA fun ac hA => st_q (vI .i64 ((k + 1 : Nat) : Int)) hA hW.cls (Rd.pureE (v0 := vI .i64 (IntKind.i64.wrap ((k : Int) + 1))) (fun _ => by kernel_rfl) (congrArg (vI .i64) ((w_i64 (x := (k : Int) + 1) (by omega) (by omega)).trans (by omega)))) fun ac hA => st_p (vI .i64 ((k + 1 : Nat) : Int)) hA fun ac hA => wn ?_
  exact ⟨L.length - (k + 1), by omega, k + 1, rfl, by omega, by intro x_ hx_; rw [tk_snoc hy5] at hx_; rcases List.mem_append.1 hx_ with hx_ | hx_; exact hn x_ hx_; (rw [List.mem_singleton.1 hx_]; omega), hA.sub (by and_intros <;> first | kernel_rfl | trivial), (hW.pick [0] (by decide) rfl).pickG [0, 1, 2, 3] rfl⟩
 have h4 := of_decide_eq_false h4
 refine wp_exit <| thenX <| thenX <| blkX <| thenN <| wr <| st_p (vI .i64 (-1)) hA ?_; clear hA ac; intro ac hA
 refine wn <| wp_ret <| r1 (vI .i64 (-1)) hA ?_
 clear hA
 exact ⟨retv (by rw [at_no (fun x_ hx_ => hn x_ (by rwa [List.take_of_length_le (by omega)]))]), hW.fr⟩

set_option maxRecDepth 100000 in
theorem e_kof4 (en : Int) (A_L : Option Addr) (c_L : Nat) (L : List One4) (A_Q : Option Addr) (c_Q : Nat) (Q : List Thg4) (g : Int) (w : World) (hr_L : RowAt w A_L 2 enOne4 L) (hc_L : L.length ≤ c_L) (hn_L : (nestR innerOne4 L).p w) (hk_L : ∀ x_ ∈ L, capOne4 x_) (hr_Q : RowAt w A_Q 3 enThg4 Q) (hc_Q : Q.length ≤ c_Q) (hn_Q : (nestR innerThg4 Q).p w) (hk_Q : ∀ x_ ∈ Q, capThg4 x_) (hL : L.length ≤ 100000) (hQ : Q.length ≤ 100000) (hLc : ∀ x ∈ L, x.cl.length ≤ 65536) (hQc : ∀ x ∈ Q, x.cl.length ≤ 65536) (hg : -9223372036854775808 ≤ g ∧ g ≤ 9223372036854775807) : Calls Tryz.prog 45 #[vA #[vI .u64 en, vS A_L L.length c_L, vS A_Q Q.length c_Q], vI .i64 g] w (Fresh 29 1 enU8 (trimC (ofK L g)) w) := by
 have _hu := hc_L; have _hv := hr_L; clear _hu _hv
 have _hu := hk_L; have _hv := hn_L; clear _hu _hv
 have _hu := hc_Q; have _hv := hr_Q; clear _hu _hv
 have _hu := hk_Q; have _hv := hn_Q; clear _hu _hv
 have _hu := hL; clear _hu
 have _hu := hQ; clear _hu
 have _hu := hLc; clear _hu
 have _hu := hQc; clear _hu
 have _hu := hg; clear _hu
 have hrg_ := at_rng g L
 refine enter_E 18 Tryz.func45 rfl rfl (by kernel_rfl) (L := [(0, vA #[vI .u64 en, vS A_L L.length c_L, vS A_Q Q.length c_Q]), (1, vI .i64 g)]) (by kernel_rfl) ?_
 intro ac hA
 have hW := Ws.start w No
 have hW := hW.arg hr_L
 have hW := hW.addG _ hn_L (nest_ltOne4 hn_L) (by simp)
 have hW := hW.arg hr_Q
 have hW := hW.addG _ hn_Q (nest_ltThg4 hn_Q) (by simp)
 refine wr <| st_s hA (Runs.cells (fun b => pA b 0) #[vI .u64 en, vS A_L L.length c_L, vS A_Q Q.length c_Q] 61 (fun _ => by kernel_rfl) hW ?_); clear hA ac hW; intro b1 w2 hW hb1 hfw2 ac hA
 refine st_p (vS none 0 0) hA ?_; clear hA ac; intro ac hA
 refine wn <| wp_seq <| wr <| st_q (vA #[vI .u64 en, vS A_L L.length c_L, vS A_Q Q.length c_Q]) hA hW.cls (rl b1 0 0) fun ac hA => st_p (vI .i64 g) hA fun ac hA => st_s hA (Runs.callN (v := vI .i64 (atK L (g))) (fun _ => by kernel_rfl) hW (e_kat (en) A_L c_L L A_Q c_Q Q (g) w2 ((hW).getG 3 rfl) (by first | assumption | omega | (simp; omega) | simp) ((hW).getG 2 rfl) hk_L ((hW).getG 1 rfl) (by first | assumption | omega | (simp; omega) | simp) ((hW).getG 0 rfl) hk_Q (by first | omega | assumption | exact Nat.le_trans (hLc _ (List.mem_of_getElem? (by assumption))) (by omega)) (by first | omega | assumption | exact Nat.le_trans (hLc _ (List.mem_of_getElem? (by assumption))) (by omega)) (by first | omega | assumption | exact Nat.le_trans (hLc _ (List.mem_of_getElem? (by assumption))) (by omega)) (by first | omega | assumption | exact Nat.le_trans (hLc _ (List.mem_of_getElem? (by assumption))) (by omega)) (by first | omega | assumption | exact Nat.le_trans (hLc _ (List.mem_of_getElem? (by assumption))) (by omega))) ?_); clear hA ac hW; intro w3 hW hfw3 ac hA
 refine st_p (vI .i64 (atK L (g))) hA ?_; clear hA ac; intro ac hA
 refine wn <| wr <| st_p (vI .i64 (atK L (g))) hA fun ac hA => st_p (vB (decide ((atK L (g) : Int) ≥ (0 : Int)))) hA fun ac hA => wn <| wp_cond_split (t := decide ((atK L (g) : Int) ≥ (0 : Int))) (hA.eval (by kernel_rfl)) (fun h4 => ?_) (fun h4 => ?_)
 ·
  have h4 := of_decide_eq_true h4
  refine wr <| st_p (pA b1 1) hA fun ac hA => st_q (vS A_L L.length c_L) hA hW.cls (rl b1 1 0) fun ac hA => st_p (vI .i64 (atK L (g))) hA fun ac hA => ?_
  obtain ⟨y5, hy5⟩ : ∃ y, L[Int.toNat (atK L (g))]? = some y := ⟨_, List.getElem?_eq_getElem (by first | omega | (simp; done) | (simp; omega))⟩
  rcases y5 with ⟨y5_w, y5_cl, y5_cl_A, y5_cl_c⟩
  obtain ⟨b6, o7, rfl, hbb6⟩ := row_some ((hW).getG 3 rfl) hy5
  refine st_q (vP (some ⟨b6, o7 + (Int.toNat (atK L (g))) * 2, none⟩)) hA hW.cls (Rd.indexAddrI (e := 104) (sz := 2) (b := b6) (off := o7) (n := L.length) (c := c_L) (k := atK L (g)) (by kernel_rfl) (by kernel_rfl) (by omega) (by first | omega | (simp; done) | (simp; omega)) (fun _ => by kernel_rfl) (fun _ => by kernel_rfl)) fun ac hA => st_p (vP (some ⟨b6, o7 + (Int.toNat (atK L (g))) * 2 + 1, none⟩)) hA fun ac hA => ?_
  have hW := hW.nestAt 2 rfl (List.mem_of_getElem? hy5)
  have hc_y5_cl : y5_cl.length ≤ y5_cl_c := hk_L _ (List.mem_of_getElem? hy5)
  replace hW : Ws w No [Cel b1 #[vI .u64 en, vS (some ⟨b6, o7, none⟩) L.length c_L, vS A_Q Q.length c_Q] 61] [roR y5_cl_A 1 enU8 y5_cl, nestR innerThg4 Q, roR A_Q 3 enThg4 Q, nestR innerOne4 L, roR (some ⟨b6, o7, none⟩) 2 enOne4 L] w3 := hW
  refine st_q (vS y5_cl_A y5_cl.length y5_cl_c) hA hW.cls (Rd.loadRow (b := b6) (i := o7 + (Int.toNat (atK L (g))) * 2 + 1) (xs := [vS y5_cl_A y5_cl.length y5_cl_c]) (by kernel_rfl) (fun _ hw => row_ld ((hw.1).getG 4 rfl) hy5 (Fr.refl No _) (fun h => h) 1 1 (by kernel_rfl)) (by kernel_rfl)) ?_; clear hA ac; intro ac hA
  refine st_s hA (Runs.callRow (E := 29) (sz := 1) (en := enU8) (l := (trimC y5_cl)) (fun _ => by kernel_rfl) hW (e_r4trim y5_cl_A y5_cl_c y5_cl w3 ((hW).getG 0 rfl) (by first | assumption | omega | (simp; omega) | simp) (by first | omega | assumption | exact Nat.le_trans (hLc _ (List.mem_of_getElem? (by assumption))) (by omega))) ?_); clear hA ac hW; intro A9 c10 w8 hW hcc10 hfw8 ac hA
  refine st_p (vS A9 (trimC y5_cl).length c10) hA ?_; clear hA ac; intro ac hA
  refine wn <| wp_ret <| thenR <| r1 (vS A9 (trimC y5_cl).length c10) hA ?_
  clear hA
  rw [show trimC (ofK L g) = trimC y5_cl from by rw [of_at (by omega) hy5]]
  exact ⟨_, rfl, hW.fresh 0 rfl (fun _ h => h), hW.fr⟩
 have h4 := of_decide_eq_false h4
 refine wp_skip <| thenN <| wr <| st_p (vS none 0 0) hA ?_; clear hA ac; intro ac hA
 refine wn <| wp_ret <| r1 (vS none 0 0) hA ?_
 clear hA
 rw [show trimC (ofK L g) = [] from by unfold ofK; rw [if_neg (by omega)]; rfl]
 have hW := hW.addNil 29 1 enU8
 exact ⟨_, rfl, hW.fresh 0 rfl (fun _ h => h), hW.fr⟩

end Go.Proofs.YtjegpelofdopmaaGreatDoor.L
