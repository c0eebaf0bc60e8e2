/- Contracts, walked by program over the engine's laws. -/
import Derived.Test.YtfkbjfbbigbacaaGreatDoorProg
import Derived.Test.YtfkbjfbbigbacaaGreatDoorT11
namespace Go.Proofs.YtfkbjfbbigbacaaGreatDoor.L
open Go.RowKit
open Go.Value renaming int → vI, slice → vS, bool → vB, pointer → vP, func → vF, agg → vA, map → vM, tuple → vT

def mkR (E : List Event) (i j : Int) : Race := ⟨i, j, (evAt E j).addr, Pair.told (Pair.of (evAt E i).site (evAt E j).site)⟩
/-- The races of those below a number. -/
def raceP (E : List Event) (n : Nat) : List Race := (List.range n).flatMap fun j : Nat => (withE E (j : Int)).map fun i => mkR E i (j : Int)
def raceL (E : List Event) : List Race := raceP E E.length
theorem raceP_snoc (E : List Event) (k : Nat) : raceP E (k + 1) = raceP E k ++ (withE E (k : Int)).map fun i => mkR E i (k : Int) := by unfold raceP; rw [List.range_succ, List.flatMap_append]; simp
theorem raceP_len (E : List Event) : ∀ k : Nat, (raceP E k).length ≤ k * E.length
  | 0 => by simp [raceP]
  | k + 1 => by
    have := raceP_len E k; have h := withE_len E (k : Int)
    rw [raceP_snoc, List.length_append, Nat.add_mul, List.length_map]; omega
theorem raceL_len (E : List Event) : (raceL E).length ≤ E.length * E.length := raceP_len E E.length
theorem raceP_pre (E : List Event) {k n : Nat} (h : k ≤ n) : raceP E k <+: raceP E n := by
  obtain ⟨d, rfl⟩ : ∃ d, n = k + d := ⟨n - k, by omega⟩
  clear h
  induction d with
  | zero => exact List.prefix_refl _
  | succ d ih => exact ih.trans (by rw [← Nat.add_assoc, raceP_snoc]; exact List.prefix_append _ _)
theorem race_at {E : List Event} {k q : Nat} {i : Int} (hk : k < E.length) (h : (withE E (k : Int))[q]? = some i) : (raceL E)[(raceP E k).length + q]? = some (mkR E i (k : Int)) := by
  have hl := (List.getElem?_eq_some_iff.1 h).1
  obtain ⟨r, hr⟩ := raceP_pre E (show k + 1 ≤ E.length from hk)
  unfold raceL
  rw [← hr, raceP_snoc, List.append_assoc, List.getElem?_append_right (by omega), Nat.add_sub_cancel_left, List.getElem?_append_left (by rw [List.length_map]; exact hl), List.getElem?_map, h]; rfl
theorem race_le (E : List Event) {k : Nat} (h : k < E.length) : (raceP E k).length + (withE E (k : Int)).length ≤ (raceL E).length := by
  have := (raceP_pre E (show k + 1 ≤ E.length from h)).length_le
  rw [raceP_snoc, List.length_append, List.length_map] at this; exact this
theorem race_big {E : List Event} (h : E.length ≤ 4096) : (raceL E).length ≤ 16777216 := Nat.le_trans (raceL_len E) (Nat.mul_le_mul h h)
theorem race_lil {E : List Event} (h : E.length ≤ 100) : (raceL E).length ≤ 10000 := Nat.le_trans (raceL_len E) (Nat.mul_le_mul h h)
set_option maxRecDepth 100000 in
theorem it_races (bl : Nat) (m : Nat) (Ae : Option Addr) (ce : Nat) (E : List Event) (Ak : Option Addr) (ck : Nat) (C : List SV) (bg : Nat) (G : List (Int × SV)) (bt : Nat) (T : List (Thing × SV)) (hok : OrdOk E C G T) : Iter Tryz.prog 89 #[pA bl 0] (fun x_ : Race × Nat => #[vI .i64 ((x_.2 : Nat) : Int), x_.1.v]) (· = (raceL E).zipIdx) [Cel bl #[pA m 0] 96, OrdR m Ae ce E Ak ck C bg G bt T] := by
 intro l_ J_ Jx_ r0 w hOs_ hdis_ hR_ hJ0_ hp_ hlt_
 have hW := iterW hOs_ hdis_ hp_ hlt_; clear hOs_ hdis_ hp_ hlt_
 have _hu := hok; clear _hu
 refine enter_F 69 Tryz.func89 rfl rfl (by kernel_rfl) (L := [(0, vF (.yield l_) #[] #[]), (1, pA bl 0)]) (by kernel_rfl) ?_
 intro ac hA
 refine wpIn_seq <| wpIn_region_lit <| st_rdF (v := vI .i64 0) hA (by kernel_rfl) (by kernel_rfl) (by kernel_rfl) (by kernel_rfl) hW.cls (Rd.pure fun _ => by kernel_rfl) ?_; clear hA ac; intro ac hA
 refine wpListIn_nil <| thenN <| wpIn_seq ?_
 have hlen_ := hok.len
 refine wpIn_region_lit <| st_rdF (v := pA bl 0) hA (by kernel_rfl) (by kernel_rfl) (by kernel_rfl) (by kernel_rfl) hW.cls (Rd.pure fun _ => by kernel_rfl) ?_; clear hA ac; intro ac hA
 refine st_rdF (v := pA m 0) hA (by kernel_rfl) (by kernel_rfl) (by kernel_rfl) (by kernel_rfl) hW.cls (Rd.load (b := bl) (i := 0) (by kernel_rfl) (fun _ hw => show _ = _ from (hw.1).getG 0 rfl) (by kernel_rfl)) ?_; clear hA ac; intro ac hA
 refine stF hA (by kernel_rfl) (by kernel_rfl) (by kernel_rfl) (by kernel_rfl) (RunsF.of (Runs.callN (v := vI .i64 (E.length : Int)) (fun _ => by kernel_rfl) hW (e_olen m Ae ce E Ak ck C bg G bt T w ((hW).getG 1 rfl) ((hW).glt _ (List.mem_of_getElem? (i := 1) rfl)) (by first | omega | assumption | exact ⟨by omega, by omega⟩)) ?_)); clear hA ac hW; intro w1 hW hfw1 ac hA
 refine st_rdF (v := vI .i64 0) hA (by kernel_rfl) (by kernel_rfl) (by kernel_rfl) (by kernel_rfl) hW.cls (Rd.pure fun _ => by kernel_rfl) ?_; clear hA ac; intro ac hA
 refine wpListIn_nil <| thenN <| wpIn_block <| wpIn_loop_m (fun m_ ac_ wl_ => ∃ k : Nat, ∃ t : Nat, ∃ r_ : Res, m_ = E.length - k ∧ (k ≤ E.length) ∧ (t = (raceP E k).length) ∧ (J_ ((raceL E).zipIdx.take t) r_) ∧ Fm 69 [] [(0, vF (.yield l_) #[] #[]), (1, pA bl 0), (3, vI .i64 (t : Int)), (16, vI .i64 (E.length : Int)), (17, vI .i64 (k : Int))] ac_ ∧ Ws w (· ∈ r0.fp) [r_] [Cel bl #[pA m 0] 96, OrdR m Ae ce E Ak ck C bg G bt T] wl_) _ ⟨0, 0, r0, rfl, by omega, by rfl, by exact hJ0_, hA.sub (by and_intros <;> first | kernel_rfl | trivial), (hW.pick [0] (by decide) rfl).pickG [0, 1] rfl⟩ ?_
 clear hA ac hW; rintro m_ ac w2 ⟨k, t, r_, rfl, hk, ht, hJ, hA, hW⟩
 have hbg_ := race_big hlen_
 refine wpIn_seq <| wpIn_region_lit <| st_rdF (v := vB (decide ((k : Int) < (E.length : Int)))) hA (by kernel_rfl) (by kernel_rfl) (by kernel_rfl) (by kernel_rfl) hW.cls (Rd.pure fun _ => by kernel_rfl) ?_; clear hA ac; intro ac hA
 refine wpListIn_nil <| thenN <| wpIn_seq <| wpIn_cond_split (t := decide ((k : Int) < (E.length : Int))) (hA.eval (by kernel_rfl)) (fun h3 => ?_) (fun h3 => ?_)
 ·
  have h3 := of_decide_eq_true h3
  refine wpIn_skip <| thenN <| wpIn_seq <| wpIn_block <| wpIn_seq <| wpIn_region_lit <| st_rdF (v := vI .i64 (k : Int)) hA (by kernel_rfl) (by kernel_rfl) (by kernel_rfl) (by kernel_rfl) hW.cls (Rd.pure fun _ => by kernel_rfl) ?_; clear hA ac; intro ac hA
  refine st_rdF (v := vI .i64 (k : Int)) hA (by kernel_rfl) (by kernel_rfl) (by kernel_rfl) (by kernel_rfl) hW.cls (Rd.pure fun _ => by kernel_rfl) ?_; clear hA ac; intro ac hA
  refine wpListIn_nil <| thenN <| wpIn_seq <| wpIn_region_lit <| st_rdF (v := pA bl 0) hA (by kernel_rfl) (by kernel_rfl) (by kernel_rfl) (by kernel_rfl) hW.cls (Rd.pure fun _ => by kernel_rfl) ?_; clear hA ac; intro ac hA
  refine st_rdF (v := pA m 0) hA (by kernel_rfl) (by kernel_rfl) (by kernel_rfl) (by kernel_rfl) hW.cls (Rd.load (b := bl) (i := 0) (by kernel_rfl) (fun _ hw => show _ = _ from (hw.1).getG 0 rfl) (by kernel_rfl)) ?_; clear hA ac; intro ac hA
  refine st_rdF (v := vI .i64 (k : Int)) hA (by kernel_rfl) (by kernel_rfl) (by kernel_rfl) (by kernel_rfl) hW.cls (Rd.pure fun _ => by kernel_rfl) ?_; clear hA ac; intro ac hA
  refine stF hA (by kernel_rfl) (by kernel_rfl) (by kernel_rfl) (by kernel_rfl) (RunsF.of (Runs.callN (v := vT #[(evAt E (k : Int)).v, vB (decide (0 ≤ (k : Int) ∧ (k : Int) < (E.length : Int)))]) (fun _ => by kernel_rfl) hW (e_oevent m Ae ce E Ak ck C bg G bt T (k : Int) w2 ((hW).getG 1 rfl) ((hW).glt _ (List.mem_of_getElem? (i := 1) rfl)) (by first | omega | assumption | exact ⟨by omega, by omega⟩) (by first | omega | assumption | exact ⟨by omega, by omega⟩)) ?_)); clear hA ac hW; intro w4 hW hfw4 ac hA
  refine st_rdF (v := vT #[(evAt E (k : Int)).v, vB (decide (0 ≤ (k : Int) ∧ (k : Int) < (E.length : Int)))]) hA (by kernel_rfl) (by kernel_rfl) (by kernel_rfl) (by kernel_rfl) hW.cls (Rd.pure fun _ => by kernel_rfl) ?_; clear hA ac; intro ac hA
  refine st_rdF (v := (evAt E (k : Int)).v) hA (by kernel_rfl) (by kernel_rfl) (by kernel_rfl) (by kernel_rfl) hW.cls (Rd.pure fun _ => by kernel_rfl) ?_; clear hA ac; intro ac hA
  refine st_rdF (v := vB (decide (0 ≤ (k : Int) ∧ (k : Int) < (E.length : Int)))) hA (by kernel_rfl) (by kernel_rfl) (by kernel_rfl) (by kernel_rfl) hW.cls (Rd.pure fun _ => by kernel_rfl) ?_; clear hA ac; intro ac hA
  refine stF hA (by kernel_rfl) (by kernel_rfl) (by kernel_rfl) (by kernel_rfl) (RunsF.of (Runs.cells (fun b => pA b 0) #[vI .i64 0, vI .i64 0, vI .i64 0, vI .i64 0, vI .u32 0, vI .i64 0, vI .i64 0, vI .i64 0, vI .i64 0] 51 (fun _ => by kernel_rfl) hW ?_)); clear hA ac hW; intro b5 w6 hW hb5 hfw6 ac hA
  refine stF hA (by kernel_rfl) (by kernel_rfl) (by kernel_rfl) (by kernel_rfl) (RunsF.of (Runs.store (v := (evAt E (k : Int)).v) (b := b5) (j := 0) (n := 9) (cs' := #[vI .i64 (evAt E (k : Int)).g, vI .i64 (evAt E (k : Int)).kind, vI .i64 (evAt E (k : Int)).site.f, vI .i64 (evAt E (k : Int)).site.pc, vI .u32 (evAt E (k : Int)).addr, vI .i64 (evAt E (k : Int)).child, vI .i64 (evAt E (k : Int)).obj, vI .i64 (evAt E (k : Int)).n, vI .i64 (evAt E (k : Int)).trap]) (H' := [Cel b5 #[vI .i64 (evAt E (k : Int)).g, vI .i64 (evAt E (k : Int)).kind, vI .i64 (evAt E (k : Int)).site.f, vI .i64 (evAt E (k : Int)).site.pc, vI .u32 (evAt E (k : Int)).addr, vI .i64 (evAt E (k : Int)).child, vI .i64 (evAt E (k : Int)).obj, vI .i64 (evAt E (k : Int)).n, vI .i64 (evAt E (k : Int)).trap] 51, r_]) (by kernel_rfl) (by kernel_rfl) (by kernel_rfl) (by kernel_rfl) (by kernel_rfl) hW 0 (by rfl) (Nat.le_of_ble_eq_true (by kernel_rfl)) (by kernel_rfl) (by rfl) ?_)); clear hA ac hW; intro w7 hW ac hA
  refine st_rdF (v := vB (decide (0 ≤ (k : Int) ∧ (k : Int) < (E.length : Int)))) hA (by kernel_rfl) (by kernel_rfl) (by kernel_rfl) (by kernel_rfl) hW.cls (Rd.pure fun _ => by kernel_rfl) ?_; clear hA ac; intro ac hA
  refine wpListIn_nil <| thenN <| wpIn_seq ?_
  have hwl_ := withE_len E (k : Int); have hrl_ := race_le E (show k < E.length from by omega)
  refine wpIn_region_lit <| st_rdF (v := vA #[pA m 0]) hA (by kernel_rfl) (by kernel_rfl) (by kernel_rfl) (by kernel_rfl) hW.cls (Rd.load (b := bl) (i := 0) (by kernel_rfl) (fun _ hw => show _ = _ from (hw.1).getG 0 rfl) (by kernel_rfl)) ?_; clear hA ac; intro ac hA
  refine st_rdF (v := vI .i64 (k : Int)) hA (by kernel_rfl) (by kernel_rfl) (by kernel_rfl) (by kernel_rfl) hW.cls (Rd.pure fun _ => by kernel_rfl) ?_; clear hA ac; intro ac hA
  refine stF hA (by kernel_rfl) (by kernel_rfl) (by kernel_rfl) (by kernel_rfl) (RunsF.of (Runs.callRow (E := 3) (sz := 1) (en := enI64) (l := (withE E (k : Int))) (fun _ => by kernel_rfl) hW (e_rwith m Ae ce E Ak ck C bg G bt T (k : Int) w7 ((hW).getG 1 rfl) ((hW).glt _ (List.mem_of_getElem? (i := 1) rfl)) (by first | omega | assumption | exact ⟨by omega, by omega⟩) (by first | omega | assumption | exact ⟨by omega, by omega⟩)) ?_)); clear hA ac hW; intro A9 c10 w8 hW hcc10 hfw8 ac hA
  refine st_rdF (v := vI .i64 (((withE E (k : Int)).length : Nat) : Int)) hA (by kernel_rfl) (by kernel_rfl) (by kernel_rfl) (by kernel_rfl) hW.cls (Rd.pure fun _ => by kernel_rfl) ?_; clear hA ac; intro ac hA
  refine st_rdF (v := vI .i64 0) hA (by kernel_rfl) (by kernel_rfl) (by kernel_rfl) (by kernel_rfl) hW.cls (Rd.pure fun _ => by kernel_rfl) ?_; clear hA ac; intro ac hA
  refine wpListIn_nil <| thenN <| wpIn_block <| wpIn_loop_m (fun m_ ac_ wl_ => ∃ q : Nat, ∃ u : Nat, ∃ r_ : Res, m_ = (withE E (k : Int)).length - q ∧ (q ≤ (withE E (k : Int)).length) ∧ (u = t + q) ∧ (J_ ((raceL E).zipIdx.take u) r_) ∧ Fm 69 [] [(0, vF (.yield l_) #[] #[]), (1, pA bl 0), (3, vI .i64 (u : Int)), (4, vI .i64 (k : Int)), (5, pA b5 0), (16, vI .i64 (E.length : Int)), (17, vI .i64 (k : Int)), (29, vS A9 (withE E (k : Int)).length c10), (30, vI .i64 (((withE E (k : Int)).length : Nat) : Int)), (31, vI .i64 (q : Int))] ac_ ∧ Ws w (· ∈ r0.fp) [rowR 3 1 enI64 (vS A9 (withE E (k : Int)).length c10) (withE E (k : Int)), Cel b5 #[vI .i64 (evAt E (k : Int)).g, vI .i64 (evAt E (k : Int)).kind, vI .i64 (evAt E (k : Int)).site.f, vI .i64 (evAt E (k : Int)).site.pc, vI .u32 (evAt E (k : Int)).addr, vI .i64 (evAt E (k : Int)).child, vI .i64 (evAt E (k : Int)).obj, vI .i64 (evAt E (k : Int)).n, vI .i64 (evAt E (k : Int)).trap] 51, r_] [Cel bl #[pA m 0] 96, OrdR m Ae ce E Ak ck C bg G bt T] wl_) _ ⟨0, t, r_, rfl, by omega, by omega, by exact hJ, hA.sub (by and_intros <;> first | kernel_rfl | trivial), (hW.pick [0, 1, 2] (by decide) rfl).pickG [0, 1] rfl⟩ ?_
  clear hA ac hW; rintro m_ ac w12 ⟨q, u, r_, rfl, hq, hu, hJ2, hA, hW⟩
  refine wpIn_seq <| wpIn_region_lit <| st_rdF (v := vB (decide ((q : Int) < ((((withE E (k : Int)).length : Nat) : Int) : Int)))) hA (by kernel_rfl) (by kernel_rfl) (by kernel_rfl) (by kernel_rfl) hW.cls (Rd.pure fun _ => by kernel_rfl) ?_; clear hA ac; intro ac hA
  refine wpListIn_nil <| thenN <| wpIn_seq <| wpIn_cond_split (t := decide ((q : Int) < ((((withE E (k : Int)).length : Nat) : Int) : Int))) (hA.eval (by kernel_rfl)) (fun h13 => ?_) (fun h13 => ?_)
  ·
   have h13 := of_decide_eq_true h13
   refine wpIn_skip <| thenN <| wpIn_seq <| wpIn_block <| wpIn_seq <| wpIn_region_lit ?_
   obtain ⟨y14, hy14⟩ : ∃ y, (withE E (k : Int))[q]? = some y := ⟨_, List.getElem?_eq_getElem (by first | omega | (simp; done) | (simp; omega))⟩
   obtain ⟨b15, o16, rfl, hbb15⟩ := row_some (rowR_at ((hW).get 0 rfl) elt_I64.len) hy14
   refine st_rdF (v := vP (some ⟨b15, o16 + q * 1, none⟩)) hA (by kernel_rfl) (by kernel_rfl) (by kernel_rfl) (by kernel_rfl) hW.cls (Rd.indexAddr (e := 3) (sz := 1) (b := b15) (off := o16) (n := (withE E (k : Int)).length) (c := c10) (k := q) (by kernel_rfl) (by kernel_rfl) (by first | omega | (simp; done) | (simp; omega)) (fun _ => by kernel_rfl) (fun _ => by kernel_rfl)) ?_; clear hA ac; intro ac hA
   refine st_rdF (v := vI .i64 y14) hA (by kernel_rfl) (by kernel_rfl) (by kernel_rfl) (by kernel_rfl) hW.cls (Rd.loadRow (b := b15) (i := o16 + q * 1) (xs := [vI .i64 y14]) (by kernel_rfl) (fun _ hw => row_ld (rowR_at ((hw.1).get 0 rfl) elt_I64.len) hy14 (Fr.refl No _) (fun h => h) 0 1 (by kernel_rfl)) (by kernel_rfl)) ?_; clear hA ac; intro ac hA
   refine st_rdF (v := vI .i64 y14) hA (by kernel_rfl) (by kernel_rfl) (by kernel_rfl) (by kernel_rfl) hW.cls (Rd.pure fun _ => by kernel_rfl) ?_; clear hA ac; intro ac hA
   refine wpListIn_nil <| thenN <| wpIn_seq ?_
   have hry_ : (raceL E)[u]? = some (mkR E y14 (k : Int)) := by rw [hu, ht]; exact race_at (by omega) hy14
   have hym_ := withE_mem (List.mem_of_getElem? hy14)
   refine wpIn_region_lit <| st_rdF (v := pA bl 0) hA (by kernel_rfl) (by kernel_rfl) (by kernel_rfl) (by kernel_rfl) hW.cls (Rd.pure fun _ => by kernel_rfl) ?_; clear hA ac; intro ac hA
   refine st_rdF (v := pA m 0) hA (by kernel_rfl) (by kernel_rfl) (by kernel_rfl) (by kernel_rfl) hW.cls (Rd.load (b := bl) (i := 0) (by kernel_rfl) (fun _ hw => show _ = _ from (hw.1).getG 0 rfl) (by kernel_rfl)) ?_; clear hA ac; intro ac hA
   refine st_rdF (v := vI .i64 y14) hA (by kernel_rfl) (by kernel_rfl) (by kernel_rfl) (by kernel_rfl) hW.cls (Rd.pure fun _ => by kernel_rfl) ?_; clear hA ac; intro ac hA
   refine stF hA (by kernel_rfl) (by kernel_rfl) (by kernel_rfl) (by kernel_rfl) (RunsF.of (Runs.callN (v := vT #[(evAt E (y14)).v, vB (decide (0 ≤ (y14) ∧ (y14) < (E.length : Int)))]) (fun _ => by kernel_rfl) hW (e_oevent m Ae ce E Ak ck C bg G bt T (y14) w12 ((hW).getG 1 rfl) ((hW).glt _ (List.mem_of_getElem? (i := 1) rfl)) (by first | omega | assumption | exact ⟨by omega, by omega⟩) (by first | omega | assumption | exact ⟨by omega, by omega⟩)) ?_)); clear hA ac hW; intro w17 hW hfw17 ac hA
   refine st_rdF (v := vT #[(evAt E (y14)).v, vB (decide (0 ≤ (y14) ∧ (y14) < (E.length : Int)))]) hA (by kernel_rfl) (by kernel_rfl) (by kernel_rfl) (by kernel_rfl) hW.cls (Rd.pure fun _ => by kernel_rfl) ?_; clear hA ac; intro ac hA
   refine st_rdF (v := (evAt E (y14)).v) hA (by kernel_rfl) (by kernel_rfl) (by kernel_rfl) (by kernel_rfl) hW.cls (Rd.pure fun _ => by kernel_rfl) ?_; clear hA ac; intro ac hA
   refine st_rdF (v := vB (decide (0 ≤ (y14) ∧ (y14) < (E.length : Int)))) hA (by kernel_rfl) (by kernel_rfl) (by kernel_rfl) (by kernel_rfl) hW.cls (Rd.pure fun _ => by kernel_rfl) ?_; clear hA ac; intro ac hA
   refine stF hA (by kernel_rfl) (by kernel_rfl) (by kernel_rfl) (by kernel_rfl) (RunsF.of (Runs.cells (fun b => pA b 0) #[vI .i64 0, vI .i64 0, vI .i64 0, vI .i64 0, vI .u32 0, vI .i64 0, vI .i64 0, vI .i64 0, vI .i64 0] 51 (fun _ => by kernel_rfl) hW ?_)); clear hA ac hW; intro b18 w19 hW hb18 hfw19 ac hA
   refine stF hA (by kernel_rfl) (by kernel_rfl) (by kernel_rfl) (by kernel_rfl) (RunsF.of (Runs.store (v := (evAt E (y14)).v) (b := b18) (j := 0) (n := 9) (cs' := #[vI .i64 (evAt E (y14)).g, vI .i64 (evAt E (y14)).kind, vI .i64 (evAt E (y14)).site.f, vI .i64 (evAt E (y14)).site.pc, vI .u32 (evAt E (y14)).addr, vI .i64 (evAt E (y14)).child, vI .i64 (evAt E (y14)).obj, vI .i64 (evAt E (y14)).n, vI .i64 (evAt E (y14)).trap]) (H' := [Cel b18 #[vI .i64 (evAt E (y14)).g, vI .i64 (evAt E (y14)).kind, vI .i64 (evAt E (y14)).site.f, vI .i64 (evAt E (y14)).site.pc, vI .u32 (evAt E (y14)).addr, vI .i64 (evAt E (y14)).child, vI .i64 (evAt E (y14)).obj, vI .i64 (evAt E (y14)).n, vI .i64 (evAt E (y14)).trap] 51, rowR 3 1 enI64 (vS (some ⟨b15, o16, none⟩) (withE E (k : Int)).length c10) (withE E (k : Int)), Cel b5 #[vI .i64 (evAt E (k : Int)).g, vI .i64 (evAt E (k : Int)).kind, vI .i64 (evAt E (k : Int)).site.f, vI .i64 (evAt E (k : Int)).site.pc, vI .u32 (evAt E (k : Int)).addr, vI .i64 (evAt E (k : Int)).child, vI .i64 (evAt E (k : Int)).obj, vI .i64 (evAt E (k : Int)).n, vI .i64 (evAt E (k : Int)).trap] 51, r_]) (by kernel_rfl) (by kernel_rfl) (by kernel_rfl) (by kernel_rfl) (by kernel_rfl) hW 0 (by rfl) (Nat.le_of_ble_eq_true (by kernel_rfl)) (by kernel_rfl) (by rfl) ?_)); clear hA ac hW; intro w20 hW ac hA
   refine st_rdF (v := vB (decide (0 ≤ (y14) ∧ (y14) < (E.length : Int)))) hA (by kernel_rfl) (by kernel_rfl) (by kernel_rfl) (by kernel_rfl) hW.cls (Rd.pure fun _ => by kernel_rfl) ?_; clear hA ac; intro ac hA
   refine wpListIn_nil <| thenN <| wpIn_seq <| wpIn_region_lit <| st_rdF (v := vI .i64 y14) hA (by kernel_rfl) (by kernel_rfl) (by kernel_rfl) (by kernel_rfl) hW.cls (Rd.pure fun _ => by kernel_rfl) ?_; clear hA ac; intro ac hA
   refine st_rdF (v := vI .i64 (k : Int)) hA (by kernel_rfl) (by kernel_rfl) (by kernel_rfl) (by kernel_rfl) hW.cls (Rd.pure fun _ => by kernel_rfl) ?_; clear hA ac; intro ac hA
   refine st_rdF (v := vA #[vI .i64 y14, vI .i64 (k : Int)]) hA (by kernel_rfl) (by kernel_rfl) (by kernel_rfl) (by kernel_rfl) hW.cls (Rd.pure fun _ => by kernel_rfl) ?_; clear hA ac; intro ac hA
   refine stF hA (by kernel_rfl) (by kernel_rfl) (by kernel_rfl) (by kernel_rfl) (RunsF.of (Runs.cells (fun b => pA b 0) #[vI .i64 0, vI .i64 0] 145 (fun _ => by kernel_rfl) hW ?_)); clear hA ac hW; intro b21 w22 hW hb21 hfw22 ac hA
   refine stF hA (by kernel_rfl) (by kernel_rfl) (by kernel_rfl) (by kernel_rfl) (RunsF.of (Runs.store (v := vA #[vI .i64 y14, vI .i64 (k : Int)]) (b := b21) (j := 0) (n := 2) (cs' := #[vI .i64 y14, vI .i64 (k : Int)]) (H' := [Cel b21 #[vI .i64 y14, vI .i64 (k : Int)] 145, Cel b18 #[vI .i64 (evAt E (y14)).g, vI .i64 (evAt E (y14)).kind, vI .i64 (evAt E (y14)).site.f, vI .i64 (evAt E (y14)).site.pc, vI .u32 (evAt E (y14)).addr, vI .i64 (evAt E (y14)).child, vI .i64 (evAt E (y14)).obj, vI .i64 (evAt E (y14)).n, vI .i64 (evAt E (y14)).trap] 51, rowR 3 1 enI64 (vS (some ⟨b15, o16, none⟩) (withE E (k : Int)).length c10) (withE E (k : Int)), Cel b5 #[vI .i64 (evAt E (k : Int)).g, vI .i64 (evAt E (k : Int)).kind, vI .i64 (evAt E (k : Int)).site.f, vI .i64 (evAt E (k : Int)).site.pc, vI .u32 (evAt E (k : Int)).addr, vI .i64 (evAt E (k : Int)).child, vI .i64 (evAt E (k : Int)).obj, vI .i64 (evAt E (k : Int)).n, vI .i64 (evAt E (k : Int)).trap] 51, r_]) (by kernel_rfl) (by kernel_rfl) (by kernel_rfl) (by kernel_rfl) (by kernel_rfl) hW 0 (by rfl) (Nat.le_of_ble_eq_true (by kernel_rfl)) (by kernel_rfl) (by rfl) ?_)); clear hA ac hW; intro w23 hW ac hA
   refine wpListIn_nil <| thenN <| wpIn_seq <| wpIn_region_lit <| st_rdF (v := pA b18 2) hA (by kernel_rfl) (by kernel_rfl) (by kernel_rfl) (by kernel_rfl) hW.cls (Rd.pure fun _ => by kernel_rfl) ?_; clear hA ac; intro ac hA
   refine st_rdF (v := vA #[vI .i64 (evAt E (y14)).site.f, vI .i64 (evAt E (y14)).site.pc]) hA (by kernel_rfl) (by kernel_rfl) (by kernel_rfl) (by kernel_rfl) hW.cls (rl b18 2 1) ?_; clear hA ac; intro ac hA
   refine st_rdF (v := pA b5 2) hA (by kernel_rfl) (by kernel_rfl) (by kernel_rfl) (by kernel_rfl) hW.cls (Rd.pure fun _ => by kernel_rfl) ?_; clear hA ac; intro ac hA
   refine st_rdF (v := vA #[vI .i64 (evAt E (k : Int)).site.f, vI .i64 (evAt E (k : Int)).site.pc]) hA (by kernel_rfl) (by kernel_rfl) (by kernel_rfl) (by kernel_rfl) hW.cls (rl b5 2 3) ?_; clear hA ac; intro ac hA
   refine stF hA (by kernel_rfl) (by kernel_rfl) (by kernel_rfl) (by kernel_rfl) (RunsF.of (Runs.callN (v := vT #[(Pair.told (Pair.of (evAt E (y14)).site (evAt E (k : Int)).site)).v, vI .i64 (argErr (Pair.ok (Pair.of (evAt E (y14)).site (evAt E (k : Int)).site)))]) (fun _ => by kernel_rfl) hW (Of_any (evAt E (y14)).site (evAt E (k : Int)).site w23) ?_)); clear hA ac hW; intro w24 hW hfw24 ac hA
   refine st_rdF (v := vT #[(Pair.told (Pair.of (evAt E (y14)).site (evAt E (k : Int)).site)).v, vI .i64 (argErr (Pair.ok (Pair.of (evAt E (y14)).site (evAt E (k : Int)).site)))]) hA (by kernel_rfl) (by kernel_rfl) (by kernel_rfl) (by kernel_rfl) hW.cls (Rd.pure fun _ => by kernel_rfl) ?_; clear hA ac; intro ac hA
   refine st_rdF (v := (Pair.told (Pair.of (evAt E (y14)).site (evAt E (k : Int)).site)).v) hA (by kernel_rfl) (by kernel_rfl) (by kernel_rfl) (by kernel_rfl) hW.cls (Rd.pure fun _ => by kernel_rfl) ?_; clear hA ac; intro ac hA
   refine st_rdF (v := vI .i64 (argErr (Pair.ok (Pair.of (evAt E (y14)).site (evAt E (k : Int)).site)))) hA (by kernel_rfl) (by kernel_rfl) (by kernel_rfl) (by kernel_rfl) hW.cls (Rd.pure fun _ => by kernel_rfl) ?_; clear hA ac; intro ac hA
   refine stF hA (by kernel_rfl) (by kernel_rfl) (by kernel_rfl) (by kernel_rfl) (RunsF.of (Runs.cells (fun b => pA b 0) #[vI .i64 0, vI .i64 0, vI .i64 0, vI .i64 0] 45 (fun _ => by kernel_rfl) hW ?_)); clear hA ac hW; intro b25 w26 hW hb25 hfw26 ac hA
   refine stF hA (by kernel_rfl) (by kernel_rfl) (by kernel_rfl) (by kernel_rfl) (RunsF.of (Runs.store (v := (Pair.told (Pair.of (evAt E (y14)).site (evAt E (k : Int)).site)).v) (b := b25) (j := 0) (n := 4) (cs' := #[vI .i64 (Pair.told (Pair.of (evAt E (y14)).site (evAt E (k : Int)).site)).a.f, vI .i64 (Pair.told (Pair.of (evAt E (y14)).site (evAt E (k : Int)).site)).a.pc, vI .i64 (Pair.told (Pair.of (evAt E (y14)).site (evAt E (k : Int)).site)).b.f, vI .i64 (Pair.told (Pair.of (evAt E (y14)).site (evAt E (k : Int)).site)).b.pc]) (H' := [Cel b25 #[vI .i64 (Pair.told (Pair.of (evAt E (y14)).site (evAt E (k : Int)).site)).a.f, vI .i64 (Pair.told (Pair.of (evAt E (y14)).site (evAt E (k : Int)).site)).a.pc, vI .i64 (Pair.told (Pair.of (evAt E (y14)).site (evAt E (k : Int)).site)).b.f, vI .i64 (Pair.told (Pair.of (evAt E (y14)).site (evAt E (k : Int)).site)).b.pc] 45, Cel b21 #[vI .i64 y14, vI .i64 (k : Int)] 145, Cel b18 #[vI .i64 (evAt E (y14)).g, vI .i64 (evAt E (y14)).kind, vI .i64 (evAt E (y14)).site.f, vI .i64 (evAt E (y14)).site.pc, vI .u32 (evAt E (y14)).addr, vI .i64 (evAt E (y14)).child, vI .i64 (evAt E (y14)).obj, vI .i64 (evAt E (y14)).n, vI .i64 (evAt E (y14)).trap] 51, rowR 3 1 enI64 (vS (some ⟨b15, o16, none⟩) (withE E (k : Int)).length c10) (withE E (k : Int)), Cel b5 #[vI .i64 (evAt E (k : Int)).g, vI .i64 (evAt E (k : Int)).kind, vI .i64 (evAt E (k : Int)).site.f, vI .i64 (evAt E (k : Int)).site.pc, vI .u32 (evAt E (k : Int)).addr, vI .i64 (evAt E (k : Int)).child, vI .i64 (evAt E (k : Int)).obj, vI .i64 (evAt E (k : Int)).n, vI .i64 (evAt E (k : Int)).trap] 51, r_]) (by kernel_rfl) (by kernel_rfl) (by kernel_rfl) (by kernel_rfl) (by kernel_rfl) hW 0 (by rfl) (Nat.le_of_ble_eq_true (by kernel_rfl)) (by kernel_rfl) (by rfl) ?_)); clear hA ac hW; intro w27 hW ac hA
   refine st_rdF (v := vI .i64 (argErr (Pair.ok (Pair.of (evAt E (y14)).site (evAt E (k : Int)).site)))) hA (by kernel_rfl) (by kernel_rfl) (by kernel_rfl) (by kernel_rfl) hW.cls (Rd.pure fun _ => by kernel_rfl) ?_; clear hA ac; intro ac hA
   refine wpListIn_nil <| thenN <| wpIn_seq <| wpIn_seq <| wpIn_region_lit <| st_rdF (v := vF (.yield l_) #[] #[]) hA (by kernel_rfl) (by kernel_rfl) (by kernel_rfl) (by kernel_rfl) hW.cls (Rd.pure fun _ => by kernel_rfl) ?_; clear hA ac; intro ac hA
   refine st_rdF (v := vI .i64 (u : Int)) hA (by kernel_rfl) (by kernel_rfl) (by kernel_rfl) (by kernel_rfl) hW.cls (Rd.pure fun _ => by kernel_rfl) ?_; clear hA ac; intro ac hA
   refine st_rdF (v := pA b21 0) hA (by kernel_rfl) (by kernel_rfl) (by kernel_rfl) (by kernel_rfl) hW.cls (Rd.pure fun _ => by kernel_rfl) ?_; clear hA ac; intro ac hA
   refine st_rdF (v := vI .i64 y14) hA (by kernel_rfl) (by kernel_rfl) (by kernel_rfl) (by kernel_rfl) hW.cls (rl b21 0 1) ?_; clear hA ac; intro ac hA
   refine st_rdF (v := pA b21 1) hA (by kernel_rfl) (by kernel_rfl) (by kernel_rfl) (by kernel_rfl) hW.cls (Rd.pure fun _ => by kernel_rfl) ?_; clear hA ac; intro ac hA
   refine st_rdF (v := vI .i64 (k : Int)) hA (by kernel_rfl) (by kernel_rfl) (by kernel_rfl) (by kernel_rfl) hW.cls (rl b21 1 1) ?_; clear hA ac; intro ac hA
   refine st_rdF (v := pA b5 4) hA (by kernel_rfl) (by kernel_rfl) (by kernel_rfl) (by kernel_rfl) hW.cls (Rd.pure fun _ => by kernel_rfl) ?_; clear hA ac; intro ac hA
   refine st_rdF (v := vI .u32 (evAt E (k : Int)).addr) hA (by kernel_rfl) (by kernel_rfl) (by kernel_rfl) (by kernel_rfl) hW.cls (rl b5 4 4) ?_; clear hA ac; intro ac hA
   refine st_rdF (v := vA #[vI .i64 (Pair.told (Pair.of (evAt E (y14)).site (evAt E (k : Int)).site)).a.f, vI .i64 (Pair.told (Pair.of (evAt E (y14)).site (evAt E (k : Int)).site)).a.pc, vI .i64 (Pair.told (Pair.of (evAt E (y14)).site (evAt E (k : Int)).site)).b.f, vI .i64 (Pair.told (Pair.of (evAt E (y14)).site (evAt E (k : Int)).site)).b.pc]) hA (by kernel_rfl) (by kernel_rfl) (by kernel_rfl) (by kernel_rfl) hW.cls (rl b25 0 0) ?_; clear hA ac; intro ac hA
   refine st_rdF (v := vA #[vI .i64 y14, vI .i64 (k : Int), vI .u32 (evAt E (k : Int)).addr, vI .i64 (Pair.told (Pair.of (evAt E (y14)).site (evAt E (k : Int)).site)).a.f, vI .i64 (Pair.told (Pair.of (evAt E (y14)).site (evAt E (k : Int)).site)).a.pc, vI .i64 (Pair.told (Pair.of (evAt E (y14)).site (evAt E (k : Int)).site)).b.f, vI .i64 (Pair.told (Pair.of (evAt E (y14)).site (evAt E (k : Int)).site)).b.pc]) hA (by kernel_rfl) (by kernel_rfl) (by kernel_rfl) (by kernel_rfl) hW.cls (Rd.pure fun _ => by kernel_rfl) ?_; clear hA ac; intro ac hA
   refine stF hA (by kernel_rfl) (by kernel_rfl) (by kernel_rfl) (by kernel_rfl) (RunsF.yield hR_ ((raceL E).zipIdx.take u) ((mkR E y14 (k : Int), u)) (fun _ => by kernel_rfl) hW 5 rfl (comes_at hry_) (hJ2) hW.fr (hW.may _ (List.mem_of_getElem? (i := 5) rfl)) ?_); clear hA ac hW; intro v28 r29 w30 hv28t hv28f hW ac hA
   refine st_rdF (v := vB (!v28)) hA (by kernel_rfl) (by kernel_rfl) (by kernel_rfl) (by kernel_rfl) hW.cls (Rd.pure fun _ => by kernel_rfl) ?_; clear hA ac; intro ac hA
   refine wpListIn_nil <| thenN <| wpIn_cond_split (t := !v28) (hA.eval (by kernel_rfl)) (fun h31 => ?_) (fun h31 => ?_)
   ·
    have h31 := not_t h31
    refine wpIn_ret <| thenR <| blkR <| thenR <| thenR <| blkR <| blkR <| thenR <| thenR <| blkR <| retF (.inl rfl) hA <| leave0 (by rfl)  ?_
    clear hA
    exact ranDone hW 5 rfl (.inr ⟨_, hv28f h31⟩)
   have h31 := not_f h31
   refine wpIn_skip <| thenN <| wpIn_region_lit <| st_rdF (v := vI .i64 (u : Int)) hA (by kernel_rfl) (by kernel_rfl) (by kernel_rfl) (by kernel_rfl) hW.cls (Rd.pure fun _ => by kernel_rfl) ?_; clear hA ac; intro ac hA
   refine st_rdF (v := vI .i64 ((u + 1 : Nat) : Int)) hA (by kernel_rfl) (by kernel_rfl) (by kernel_rfl) (by kernel_rfl) hW.cls (Rd.pureE (v0 := vI .i64 (IntKind.i64.wrap ((u : Int) + 1))) (fun _ => by kernel_rfl) (congrArg (vI .i64) ((w_i64 (x := (u : Int) + 1) (by omega) (by omega)).trans (by omega)))) ?_; clear hA ac; intro ac hA
   refine st_rdF (v := vI .i64 ((u + 1 : Nat) : Int)) hA (by kernel_rfl) (by kernel_rfl) (by kernel_rfl) (by kernel_rfl) hW.cls (Rd.pure fun _ => by kernel_rfl) ?_; clear hA ac; intro ac hA
   refine wpListIn_nil <| blkN <| thenN <| wpIn_region_lit <| st_rdF (v := vI .i64 ((q + 1 : Nat) : Int)) hA (by kernel_rfl) (by kernel_rfl) (by kernel_rfl) (by kernel_rfl) hW.cls (Rd.pureE (v0 := vI .i64 (IntKind.i64.wrap ((q : Int) + 1))) (fun _ => by kernel_rfl) (congrArg (vI .i64) ((w_i64 (x := (q : Int) + 1) (by omega) (by omega)).trans (by omega)))) ?_; clear hA ac; intro ac hA
   refine st_rdF (v := vI .i64 ((q + 1 : Nat) : Int)) hA (by kernel_rfl) (by kernel_rfl) (by kernel_rfl) (by kernel_rfl) hW.cls (Rd.pure fun _ => by kernel_rfl) ?_; clear hA ac; intro ac hA
   refine wpListIn_nil <| thenN ?_
   have hJn := hv28t h31; rw [zip_snoc hry_] at hJn
   exact ⟨(withE E (k : Int)).length - (q + 1), by omega, q + 1, u + 1, r29, rfl, by omega, by omega, by exact hJn, hA.sub (by and_intros <;> first | kernel_rfl | trivial), (hW.pick [3, 4, 5] (by decide) rfl).pickG [0, 1] rfl⟩
  have h13 := of_decide_eq_false h13
  refine wpIn_exit <| thenX <| thenX <| blkX <| blkN <| thenN <| wpIn_region_lit <| st_rdF (v := vI .i64 ((k + 1 : Nat) : Int)) hA (by kernel_rfl) (by kernel_rfl) (by kernel_rfl) (by kernel_rfl) hW.cls (Rd.pureE (v0 := vI .i64 (IntKind.i64.wrap ((k : Int) + 1))) (fun _ => by kernel_rfl) (congrArg (vI .i64) ((w_i64 (x := (k : Int) + 1) (by omega) (by omega)).trans (by omega)))) ?_; clear hA ac; intro ac hA
  refine st_rdF (v := vI .i64 ((k + 1 : Nat) : Int)) hA (by kernel_rfl) (by kernel_rfl) (by kernel_rfl) (by kernel_rfl) hW.cls (Rd.pure fun _ => by kernel_rfl) ?_; clear hA ac; intro ac hA
  refine wpListIn_nil <| thenN ?_
  exact ⟨E.length - (k + 1), by omega, k + 1, u, r_, rfl, by omega, by rw [raceP_snoc, List.length_append, List.length_map]; omega, by exact hJ2, hA.sub (by and_intros <;> first | kernel_rfl | trivial), (hW.pick [2] (by decide) rfl).pickG [0, 1] rfl⟩
 have h3 := of_decide_eq_false h3
 refine wpIn_exit <| thenX <| thenX <| blkX <| retF (.inr rfl) hA <| leave0 (by rfl)  ?_
 clear hA
 rw [show t = (raceL E).length from by rw [ht, show k = E.length from by omega]; rfl, zip_all (Nat.le_refl _)] at hJ; exact ranDone hW 0 rfl (.inl ⟨_, rfl, hJ⟩)

set_option maxRecDepth 100000 in
theorem e_races (m : Nat) (Ae : Option Addr) (ce : Nat) (E : List Event) (Ak : Option Addr) (ck : Nat) (C : List SV) (bg : Nat) (G : List (Int × SV)) (bt : Nat) (T : List (Thing × SV)) (w : World) (ho_o : (OrdR m Ae ce E Ak ck C bg G bt T).p w) (hl_o : ∀ x_ ∈ (OrdR m Ae ce E Ak ck C bg G bt T).fp, x_ < w.heap.size) (hok : OrdOk E C G T) : Calls Tryz.prog 62 #[vA #[pA m 0]] w (fun e w' => ∃ (lb : Array Value) (g : Res), e = .returned (vF (.func 89) #[] lb) ∧ Iter Tryz.prog 89 lb (fun x_ : Race × Nat => #[vI .i64 ((x_.2 : Nat) : Int), x_.1.v]) (· = (raceL E).zipIdx) [g] ∧ g.from_ [OrdR m Ae ce E Ak ck C bg G bt T] w w' ∧ Fr No w w') := by
 have _hu := ho_o; have _hv := hl_o; clear _hu _hv
 have _hu := hok; clear _hu
 refine enter_E 4 Tryz.func62 rfl rfl (by kernel_rfl) (L := [(0, vA #[pA m 0])]) (by kernel_rfl) ?_
 intro ac hA
 have hW := Ws.start w No
 have hW := hW.addG (OrdR m Ae ce E Ak ck C bg G bt T) ho_o hl_o (by simp)
 clear ho_o hl_o
 refine wr <| st_s hA (Runs.cells (fun b => pA b 0) #[pA m 0] 96 (fun _ => by kernel_rfl) hW ?_); clear hA ac hW; intro b1 w2 hW hb1 hfw2 ac hA
 refine st_p (Value.nilFunc) hA ?_; clear hA ac; intro ac hA
 refine wn <| wr <| st_p (vF (.func 89) #[] #[pA b1 0]) hA fun ac hA => st_p (vF (.func 89) #[] #[pA b1 0]) hA fun ac hA => wn <| wp_ret <| r1 (vF (.func 89) #[] #[pA b1 0]) hA ?_
 clear hA
 exact ⟨_, _, rfl, iter_many (it_races b1 m Ae ce E Ak ck C bg G bt T hok), from_many (froms_cons (hW.outOwn 0 rfl (fun _ h => h)) (froms_cons (hW.outArg 0 rfl (.head _)) froms_nil)), hW.fr⟩

set_option maxRecDepth 100000 in
theorem e_rall_ (m : Nat) (Ae : Option Addr) (ce : Nat) (E : List Event) (Ak : Option Addr) (ck : Nat) (C : List SV) (bg : Nat) (G : List (Int × SV)) (bt : Nat) (T : List (Thing × SV)) (w : World) (ho_o : (OrdR m Ae ce E Ak ck C bg G bt T).p w) (hl_o : ∀ x_ ∈ (OrdR m Ae ce E Ak ck C bg G bt T).fp, x_ < w.heap.size) (hok : OrdOk E C G T) (hE100 : E.length ≤ 100) : Calls Tryz.prog 35 #[pA m 0] w (Fresh 47 7 enRace (raceL E) w) := by
 have _hu := ho_o; have _hv := hl_o; clear _hu _hv
 have _hu := hok; clear _hu
 have _hu := hE100; clear _hu
 have hbg_ := race_lil hE100
 refine enter_F 15 Tryz.func35 rfl rfl (by kernel_rfl) (L := [(0, pA m 0)]) (by kernel_rfl) ?_
 intro ac hA
 have hW := Ws.start w No
 have hW := hW.addG (OrdR m Ae ce E Ak ck C bg G bt T) ho_o hl_o (by simp)
 clear ho_o hl_o
 refine wpIn_seq <| wpIn_region_lit <| stF hA (by kernel_rfl) (by kernel_rfl) (by kernel_rfl) (by kernel_rfl) (RunsF.of (Runs.cells (fun b => pA b 0) #[vS none 0 0] 35 (fun _ => by kernel_rfl) hW ?_)); clear hA ac hW; intro b1 w2 hW hb1 hfw2 ac hA
 refine wpListIn_nil <| thenN <| wpIn_seq <| wpIn_seq <| wpIn_region_lit <| st_rdF (v := pA m 0) hA (by kernel_rfl) (by kernel_rfl) (by kernel_rfl) (by kernel_rfl) hW.cls (Rd.pure fun _ => by kernel_rfl) ?_; clear hA ac; intro ac hA
 refine st_rdF (v := vA #[pA m 0]) hA (by kernel_rfl) (by kernel_rfl) (by kernel_rfl) (by kernel_rfl) hW.cls (Rd.pure fun _ => by kernel_rfl) ?_; clear hA ac; intro ac hA
 refine stF hA (by kernel_rfl) (by kernel_rfl) (by kernel_rfl) (by kernel_rfl) (RunsF.of (Runs.call (fun _ => by kernel_rfl) (e_races m Ae ce E Ak ck C bg G bt T w2 ((hW).getG 0 rfl) ((hW).glt _ (List.mem_of_getElem? (i := 0) rfl)) (by first | omega | assumption)) ?_))
 rintro _ w3 ⟨lb4, g5, rfl, hIg5, hfg5, hfw3⟩; refine ⟨_, rfl, ?_⟩; have hW0 := hW; have hW := hW0.call hfw3; have hW := hW0.addFromAt hW hfg5 (in_cons (in_at 0 rfl) in_nil); clear hW0 hA ac; intro ac hA
 refine wpListIn_nil <| thenN <| wpIn_block ?_
 have hW := hW.addNil 47 7 enRace
 refine wp_range (encs := (fun x_ : Race × Nat => #[vI .i64 ((x_.2 : Nat) : Int), x_.1.v])) (Sx := (· = (raceL E).zipIdx)) hA (by kernel_rfl) (by kernel_rfl) (enters_of Tryz.func89 (by kernel_rfl) rfl) (by kernel_rfl) (fun _ => rfl) hIg5 (List.forall_mem_singleton.2 (List.mem_of_getElem? (i := 0) rfl)) (fun pre_ H_ => ∃ k : Nat, ∃ d : List Race, ∃ A : Option Addr, ∃ c : Nat, pre_ = (raceL E).zipIdx.take k ∧ k ≤ (raceL E).length ∧ (d = (raceL E).take k) ∧ (d.length ≤ c) ∧ H_ = [Cel b1 #[vS A d.length c] 35, rowR 47 7 enRace (vS A d.length c) d]) (fun _ _ _ => False) (H := [Cel b1 #[vS none 0 0] 35, rowR 47 7 enRace (vS none 0 0) ([] : List Race)]) (K := []) (hW.pick [1, 0] (by decide) rfl) ⟨0, [], none, 0, rfl, Nat.zero_le _, by rfl, by simp, rfl⟩ ?_ ?_ ?_
 ·
  clear hA ac hW; intro l_6 rd_6 bs_6 pre_ x_ Hk_ w7 T_6 ac hrd_6 hbs_6 hbr_6 hok_ hJ_ hA hW hB_6 hT_6
  obtain ⟨k, d, A, c, rfl, hk_, hd, hdc, rfl⟩ := hJ_
  obtain ⟨y8, rfl, hy8, hlty8, hsny8⟩ := comes_zip hok_ hk_
  replace hA : Fm 15 [] [(0, pA m 0), (2, pA b1 0), (5, pA m 0), (6, vA #[pA m 0]), (7, vF (.func 89) #[] lb4), (8, vI .i64 (k : Int)), (9, y8.v)] ac := hA.sub (by and_intros <;> first | kernel_rfl | trivial)
  have hdl_ : d.length ≤ 10000 := by rw [hd, List.length_take]; omega
  refine wpIn_region_lit <| stF hA (by kernel_rfl) (by kernel_rfl) (by kernel_rfl) (by kernel_rfl) (RunsF.of (Runs.cells (fun b => pA b 0) #[vI .i64 0, vI .i64 0, vI .u32 0, vI .i64 0, vI .i64 0, vI .i64 0, vI .i64 0] 47 (fun _ => by kernel_rfl) hW ?_)); clear hA ac hW; intro b9 w10 hW hb9 hfw10 ac hA
  refine stF hA (by kernel_rfl) (by kernel_rfl) (by kernel_rfl) (by kernel_rfl) (RunsF.of (Runs.store (v := y8.v) (b := b9) (j := 0) (n := 7) (cs' := #[vI .i64 y8.i, vI .i64 y8.j, vI .u32 y8.addr, vI .i64 y8.p.a.f, vI .i64 y8.p.a.pc, vI .i64 y8.p.b.f, vI .i64 y8.p.b.pc]) (H' := [Cel b9 #[vI .i64 y8.i, vI .i64 y8.j, vI .u32 y8.addr, vI .i64 y8.p.a.f, vI .i64 y8.p.a.pc, vI .i64 y8.p.b.f, vI .i64 y8.p.b.pc] 47, rd_6, Cel b1 #[vS A d.length c] 35, rowR 47 7 enRace (vS A d.length c) d]) (by kernel_rfl) (by kernel_rfl) (by kernel_rfl) (by kernel_rfl) (by kernel_rfl) hW 0 (by rfl) (Nat.le_of_ble_eq_true (by kernel_rfl)) (by kernel_rfl) (by rfl) ?_)); clear hA ac hW; intro w11 hW ac hA
  refine wpListIn_nil <| thenN <| begun (bs := bs_6) (H' := [Cel b9 #[vI .i64 y8.i, vI .i64 y8.j, vI .u32 y8.addr, vI .i64 y8.p.a.f, vI .i64 y8.p.a.pc, vI .i64 y8.p.b.f, vI .i64 y8.p.b.pc] 47, bs_6, Cel b1 #[vS A d.length c] 35, rowR 47 7 enRace (vS A d.length c) d]) hW 1 rfl (fun b hb => by rw [hbs_6] at hb; rw [hrd_6]; exact hb) rfl ?_; clear hW; intro w12 hW
  refine wpIn_block <| wpIn_region_lit <| st_rdF (v := vS A d.length c) hA (by kernel_rfl) (by kernel_rfl) (by kernel_rfl) (by kernel_rfl) hW.cls (rl b1 0 2) ?_; clear hA ac; intro ac hA
  refine st_rdF (v := vA #[vI .i64 y8.i, vI .i64 y8.j, vI .u32 y8.addr, vI .i64 y8.p.a.f, vI .i64 y8.p.a.pc, vI .i64 y8.p.b.f, vI .i64 y8.p.b.pc]) hA (by kernel_rfl) (by kernel_rfl) (by kernel_rfl) (by kernel_rfl) hW.cls (rl b9 0 0) ?_; clear hA ac; intro ac hA
  refine stF hA (by kernel_rfl) (by kernel_rfl) (by kernel_rfl) (by kernel_rfl) (RunsF.of (Runs.cells (fun b => vS (some ⟨b, 0, none⟩) 1 1) #[vI .i64 y8.i, vI .i64 y8.j, vI .u32 y8.addr, vI .i64 y8.p.a.f, vI .i64 y8.p.a.pc, vI .i64 y8.p.b.f, vI .i64 y8.p.b.pc] 47 (fun _ => by kernel_rfl) hW ?_)); clear hA ac hW; intro b13 w14 hW hb13 hfw14 ac hA
  refine stF hA (by kernel_rfl) (by kernel_rfl) (by kernel_rfl) (by kernel_rfl) (RunsF.of (Runs.appOwn (B := (some ⟨b13, 0, none⟩)) (k := 1) (E := 47) (sz := 7) (en := enRace) (l := d) (m := ([y8] : List Race)) (i := 4) (by kernel_rfl) (by kernel_rfl) elt_Race (by kernel_rfl) hW rfl (rowAt_cel ((hW).cel 0 rfl) ([y8] : List Race) (by rfl) elt_Race.len) (by first | omega | (simp; done) | (simp; omega)) (by first | omega | (simp; done) | (simp; omega)) ?_)); clear hA ac hW; intro A15 c16 w17 hW hcc16 ac hA
  refine stF hA (by kernel_rfl) (by kernel_rfl) (by kernel_rfl) (by kernel_rfl) (RunsF.of (Runs.store (v := vS A15 (d ++ ([y8] : List Race)).length c16) (b := b1) (j := 0) (n := 1) (cs' := #[vS A15 (d ++ ([y8] : List Race)).length c16]) (H' := [Cel b13 #[vI .i64 y8.i, vI .i64 y8.j, vI .u32 y8.addr, vI .i64 y8.p.a.f, vI .i64 y8.p.a.pc, vI .i64 y8.p.b.f, vI .i64 y8.p.b.pc] 47, Cel b9 #[vI .i64 y8.i, vI .i64 y8.j, vI .u32 y8.addr, vI .i64 y8.p.a.f, vI .i64 y8.p.a.pc, vI .i64 y8.p.b.f, vI .i64 y8.p.b.pc] 47, bs_6, Cel b1 #[vS A15 (d ++ ([y8] : List Race)).length c16] 35, rowR 47 7 enRace (vS A15 (d ++ ([y8] : List Race)).length c16) (d ++ ([y8] : List Race))]) (by kernel_rfl) (by kernel_rfl) (by kernel_rfl) (by kernel_rfl) (by kernel_rfl) hW 3 (by rfl) (Nat.le_of_ble_eq_true (by kernel_rfl)) (by kernel_rfl) (by rfl) ?_)); clear hA ac hW; intro w18 hW ac hA
  refine wpListIn_nil <| blkN ?_
  exact ⟨_, ⟨k + 1, d ++ ([y8] : List Race), A15, c16, hsny8, hlty8, by rw [tk_snoc hy8, ← hd], by exact hcc16, rfl⟩, (hW.pick [2, 3, 4] (by decide) rfl).pickG [0, 1] rfl⟩
 ·
  clear hA ac hW; intro D19 xs_ Hk_ w20 ac hS_ hJ_ hA hW
  obtain ⟨k, d, A, c, hpre_, hk_, hd, hdc, rfl⟩ := hJ_
  have hke : k = (raceL E).length := by have := congrArg List.length (hS_.symm.trans hpre_); simp at this; omega
  clear hpre_ hS_
  replace hW : Ws w No [Cel b1 #[vS A d.length c] 35, rowR 47 7 enRace (vS A d.length c) d, DefR D19] [g5, OrdR m Ae ce E Ak ck C bg G bt T] w20 := hW
  refine blkN <| thenN <| wpIn_seq <| wpIn_region_lit <| st_rdF (v := vS A d.length c) hA (by kernel_rfl) (by kernel_rfl) (by kernel_rfl) (by kernel_rfl) hW.cls (rl b1 0 0) ?_; clear hA ac; intro ac hA
  refine stF hA (by kernel_rfl) (by kernel_rfl) (by kernel_rfl) (by kernel_rfl) (RunsF.of (Runs.store (v := vS A d.length c) (b := b1) (j := 0) (n := 1) (cs' := #[vS A d.length c]) (H' := [Cel b1 #[vS A d.length c] 35, rowR 47 7 enRace (vS A d.length c) d, DefR D19]) (by kernel_rfl) (by kernel_rfl) (by kernel_rfl) (by kernel_rfl) (by kernel_rfl) hW 0 (by rfl) (Nat.le_of_ble_eq_true (by kernel_rfl)) (by kernel_rfl) (by rfl) ?_)); clear hA ac hW; intro w21 hW ac hA
  refine wpListIn_nil <| thenN <| wpIn_ret <| retF (.inl rfl) hA <| leaveD (H' := [Cel b1 #[vS A d.length c] 35, rowR 47 7 enRace (vS A d.length c) d]) hW 2 rfl rfl ?_; clear hW; intro w22 hW
  refine leave1 (v := vS A d.length c) (by rfl) (GotF.cell (b := b1) (i := 0) hA (by kernel_rfl) (by kernel_rfl) (hW.cel 0 rfl) (by kernel_rfl)) ?_
  clear hA
  rw [List.take_of_length_le (by omega)] at hd; subst hd; exact ⟨_, rfl, hW.fresh 1 rfl (fun _ h => h), hW.fr⟩
 ·
  clear hA ac hW; intro D23 c_ pre_ Hk_ w24 ac hJ_ hA hW
  exact hJ_.elim

set_option maxRecDepth 100000 in
theorem it_all_Race (b : Nat) (A : Option Addr) (c : Nat) (l : List Race) (hc : l.length ≤ c) (hl : l.length ≤ 1000000) : Iter Tryz.prog 63 #[pA b 0] (fun x_ : Race × Nat => #[vI .i64 ((x_.2 : Nat) : Int), x_.1.v]) (· = l.zipIdx) [Cel b #[vS A l.length c] 35, roR A 7 enRace l] := by
 intro l_ J_ Jx_ r0 w hOs_ hdis_ hR_ hJ0_ hp_ hlt_
 have hW := iterW hOs_ hdis_ hp_ hlt_; clear hOs_ hdis_ hp_ hlt_
 have _hu := hc; clear _hu
 have _hu := hl; clear _hu
 refine enter_F 18 Tryz.func63 rfl rfl (by kernel_rfl) (L := [(0, vF (.yield l_) #[] #[]), (1, pA b 0)]) (by kernel_rfl) ?_
 intro ac hA
 refine wpIn_seq <| wpIn_region_lit <| st_rdF (v := vS A l.length c) hA (by kernel_rfl) (by kernel_rfl) (by kernel_rfl) (by kernel_rfl) hW.cls (Rd.load (b := b) (i := 0) (by kernel_rfl) (fun _ hw => show _ = _ from (hw.1).getG 0 rfl) (by kernel_rfl)) ?_; clear hA ac; intro ac hA
 refine st_rdF (v := vI .i64 (l.length : Int)) hA (by kernel_rfl) (by kernel_rfl) (by kernel_rfl) (by kernel_rfl) hW.cls (Rd.pure fun _ => by kernel_rfl) ?_; clear hA ac; intro ac hA
 refine st_rdF (v := vI .i64 0) hA (by kernel_rfl) (by kernel_rfl) (by kernel_rfl) (by kernel_rfl) hW.cls (Rd.pure fun _ => by kernel_rfl) ?_; clear hA ac; intro ac hA
 refine wpListIn_nil <| thenN <| wpIn_block <| wpIn_loop_m (fun m_ ac_ wl_ => ∃ k : Nat, ∃ r_ : Res, m_ = l.length - k ∧ (k ≤ l.length) ∧ (J_ (l.zipIdx.take k) r_) ∧ Fm 18 [] [(0, vF (.yield l_) #[] #[]), (1, pA b 0), (5, vS A l.length c), (6, vI .i64 (l.length : Int)), (7, vI .i64 (k : Int))] ac_ ∧ Ws w (· ∈ r0.fp) [r_] [Cel b #[vS A l.length c] 35, roR A 7 enRace l] wl_) _ ⟨0, r0, rfl, by omega, by exact hJ0_, hA.sub (by and_intros <;> first | kernel_rfl | trivial), (hW.pick [0] (by decide) rfl).pickG [0, 1] rfl⟩ ?_
 clear hA ac hW; rintro m_ ac w1 ⟨k, r_, rfl, hk, hJ, hA, hW⟩
 refine wpIn_seq <| wpIn_region_lit <| st_rdF (v := vB (decide ((k : Int) < (l.length : Int)))) hA (by kernel_rfl) (by kernel_rfl) (by kernel_rfl) (by kernel_rfl) hW.cls (Rd.pure fun _ => by kernel_rfl) ?_; clear hA ac; intro ac hA
 refine wpListIn_nil <| thenN <| wpIn_seq <| wpIn_cond_split (t := decide ((k : Int) < (l.length : Int))) (hA.eval (by kernel_rfl)) (fun h2 => ?_) (fun h2 => ?_)
 ·
  have h2 := of_decide_eq_true h2
  refine wpIn_skip <| thenN <| wpIn_seq <| wpIn_block <| wpIn_seq <| wpIn_region_lit <| st_rdF (v := vI .i64 (k : Int)) hA (by kernel_rfl) (by kernel_rfl) (by kernel_rfl) (by kernel_rfl) hW.cls (Rd.pure fun _ => by kernel_rfl) ?_; clear hA ac; intro ac hA
  obtain ⟨y3, hy3⟩ : ∃ y, l[k]? = some y := ⟨_, List.getElem?_eq_getElem (by first | omega | (simp; done) | (simp; omega))⟩
  obtain ⟨b4, o5, rfl, hbb4⟩ := row_some ((hW).getG 1 rfl) hy3
  refine st_rdF (v := vP (some ⟨b4, o5 + k * 7, none⟩)) hA (by kernel_rfl) (by kernel_rfl) (by kernel_rfl) (by kernel_rfl) hW.cls (Rd.indexAddr (e := 47) (sz := 7) (b := b4) (off := o5) (n := l.length) (c := c) (k := k) (by kernel_rfl) (by kernel_rfl) (by first | omega | (simp; done) | (simp; omega)) (fun _ => by kernel_rfl) (fun _ => by kernel_rfl)) ?_; clear hA ac; intro ac hA
  refine st_rdF (v := vA #[vI .i64 y3.i, vI .i64 y3.j, vI .u32 y3.addr, vI .i64 y3.p.a.f, vI .i64 y3.p.a.pc, vI .i64 y3.p.b.f, vI .i64 y3.p.b.pc]) hA (by kernel_rfl) (by kernel_rfl) (by kernel_rfl) (by kernel_rfl) hW.cls (Rd.loadRow (b := b4) (i := o5 + k * 7) (xs := [vI .i64 y3.i, vI .i64 y3.j, vI .u32 y3.addr, vI .i64 y3.p.a.f, vI .i64 y3.p.a.pc, vI .i64 y3.p.b.f, vI .i64 y3.p.b.pc]) (by kernel_rfl) (fun _ hw => row_ld ((hw.1).getG 1 rfl) hy3 (Fr.refl No _) (fun h => h) 0 7 (by kernel_rfl)) (by kernel_rfl)) ?_; clear hA ac; intro ac hA
  refine stF hA (by kernel_rfl) (by kernel_rfl) (by kernel_rfl) (by kernel_rfl) (RunsF.of (Runs.cells (fun b => pA b 0) #[vI .i64 0, vI .i64 0, vI .u32 0, vI .i64 0, vI .i64 0, vI .i64 0, vI .i64 0] 47 (fun _ => by kernel_rfl) hW ?_)); clear hA ac hW; intro b6 w7 hW hb6 hfw7 ac hA
  refine st_rdF (v := vI .i64 (k : Int)) hA (by kernel_rfl) (by kernel_rfl) (by kernel_rfl) (by kernel_rfl) hW.cls (Rd.pure fun _ => by kernel_rfl) ?_; clear hA ac; intro ac hA
  refine stF hA (by kernel_rfl) (by kernel_rfl) (by kernel_rfl) (by kernel_rfl) (RunsF.of (Runs.store (v := vA #[vI .i64 y3.i, vI .i64 y3.j, vI .u32 y3.addr, vI .i64 y3.p.a.f, vI .i64 y3.p.a.pc, vI .i64 y3.p.b.f, vI .i64 y3.p.b.pc]) (b := b6) (j := 0) (n := 7) (cs' := #[vI .i64 y3.i, vI .i64 y3.j, vI .u32 y3.addr, vI .i64 y3.p.a.f, vI .i64 y3.p.a.pc, vI .i64 y3.p.b.f, vI .i64 y3.p.b.pc]) (H' := [Cel b6 #[vI .i64 y3.i, vI .i64 y3.j, vI .u32 y3.addr, vI .i64 y3.p.a.f, vI .i64 y3.p.a.pc, vI .i64 y3.p.b.f, vI .i64 y3.p.b.pc] 47, r_]) (by kernel_rfl) (by kernel_rfl) (by kernel_rfl) (by kernel_rfl) (by kernel_rfl) hW 0 (by rfl) (Nat.le_of_ble_eq_true (by kernel_rfl)) (by kernel_rfl) (by rfl) ?_)); clear hA ac hW; intro w8 hW ac hA
  refine wpListIn_nil <| thenN <| wpIn_seq <| wpIn_region_lit <| st_rdF (v := vF (.yield l_) #[] #[]) hA (by kernel_rfl) (by kernel_rfl) (by kernel_rfl) (by kernel_rfl) hW.cls (Rd.pure fun _ => by kernel_rfl) ?_; clear hA ac; intro ac hA
  refine st_rdF (v := vI .i64 (k : Int)) hA (by kernel_rfl) (by kernel_rfl) (by kernel_rfl) (by kernel_rfl) hW.cls (Rd.pure fun _ => by kernel_rfl) ?_; clear hA ac; intro ac hA
  refine st_rdF (v := vA #[vI .i64 y3.i, vI .i64 y3.j, vI .u32 y3.addr, vI .i64 y3.p.a.f, vI .i64 y3.p.a.pc, vI .i64 y3.p.b.f, vI .i64 y3.p.b.pc]) hA (by kernel_rfl) (by kernel_rfl) (by kernel_rfl) (by kernel_rfl) hW.cls (rl b6 0 0) ?_; clear hA ac; intro ac hA
  refine stF hA (by kernel_rfl) (by kernel_rfl) (by kernel_rfl) (by kernel_rfl) (RunsF.yield hR_ (l.zipIdx.take k) ((y3, k)) (fun _ => by kernel_rfl) hW 1 rfl (comes_at hy3) (hJ) hW.fr (hW.may _ (List.mem_of_getElem? (i := 1) rfl)) ?_); clear hA ac hW; intro v9 r10 w11 hv9t hv9f hW ac hA
  refine st_rdF (v := vB (!v9)) hA (by kernel_rfl) (by kernel_rfl) (by kernel_rfl) (by kernel_rfl) hW.cls (Rd.pure fun _ => by kernel_rfl) ?_; clear hA ac; intro ac hA
  refine wpListIn_nil <| thenN <| wpIn_cond_split (t := !v9) (hA.eval (by kernel_rfl)) (fun h12 => ?_) (fun h12 => ?_)
  ·
   have h12 := not_t h12
   refine wpIn_ret <| blkR <| thenR <| thenR <| blkR <| retF (.inl rfl) hA <| leave0 (by rfl)  ?_
   clear hA
   exact ranDone hW 1 rfl (.inr ⟨_, hv9f h12⟩)
  have h12 := not_f h12
  refine wpIn_skip <| blkN <| thenN <| wpIn_region_lit <| st_rdF (v := vI .i64 ((k + 1 : Nat) : Int)) hA (by kernel_rfl) (by kernel_rfl) (by kernel_rfl) (by kernel_rfl) hW.cls (Rd.pureE (v0 := vI .i64 (IntKind.i64.wrap ((k : Int) + 1))) (fun _ => by kernel_rfl) (congrArg (vI .i64) ((w_i64 (x := (k : Int) + 1) (by omega) (by omega)).trans (by omega)))) ?_; clear hA ac; intro ac hA
  refine st_rdF (v := vI .i64 ((k + 1 : Nat) : Int)) hA (by kernel_rfl) (by kernel_rfl) (by kernel_rfl) (by kernel_rfl) hW.cls (Rd.pure fun _ => by kernel_rfl) ?_; clear hA ac; intro ac hA
  refine wpListIn_nil <| thenN ?_
  have hJn := hv9t h12; rw [zip_snoc hy3] at hJn
  exact ⟨l.length - (k + 1), by omega, k + 1, r10, rfl, by omega, by exact hJn, hA.sub (by and_intros <;> first | kernel_rfl | trivial), (hW.pick [1] (by decide) rfl).pickG [0, 1] rfl⟩
 have h2 := of_decide_eq_false h2
 refine wpIn_exit <| thenX <| thenX <| blkX <| retF (.inr rfl) hA <| leave0 (by rfl)  ?_
 clear hA
 rw [zip_all (by omega)] at hJ; exact ranDone hW 0 rfl (.inl ⟨_, rfl, hJ⟩)

set_option maxRecDepth 100000 in
theorem e_all_Race (A_l : Option Addr) (c_l : Nat) (l : List Race) (w : World) (hr_l : RowAt w A_l 7 enRace l) (hc_l : l.length ≤ c_l) (hl : l.length ≤ 1000000) : Calls Tryz.prog 37 #[vS A_l l.length c_l] w (fun e w' => ∃ (lb : Array Value) (g : Res), e = .returned (vF (.func 63) #[] lb) ∧ Iter Tryz.prog 63 lb (fun x_ : Race × Nat => #[vI .i64 ((x_.2 : Nat) : Int), x_.1.v]) (· = l.zipIdx) [g] ∧ g.from_ [roR A_l 7 enRace l] w w' ∧ Fr No w w') := by
 have _hu := hc_l; have _hv := hr_l; clear _hu _hv
 have _hu := hl; clear _hu
 refine enter_E 4 Tryz.func37 rfl rfl (by kernel_rfl) (L := [(0, vS A_l l.length c_l)]) (by kernel_rfl) ?_
 intro ac hA
 have hW := Ws.start w No
 have hW := hW.arg hr_l
 refine wr <| st_s hA (Runs.cells (fun b => pA b 0) #[vS A_l l.length c_l] 35 (fun _ => by kernel_rfl) hW ?_); clear hA ac hW; intro b1 w2 hW hb1 hfw2 ac hA
 refine st_p (Value.nilFunc) hA ?_; clear hA ac; intro ac hA
 refine wn <| wr <| st_p (vF (.func 63) #[] #[pA b1 0]) hA fun ac hA => st_p (vF (.func 63) #[] #[pA b1 0]) hA fun ac hA => wn <| wp_ret <| r1 (vF (.func 63) #[] #[pA b1 0]) hA ?_
 clear hA
 exact ⟨_, _, rfl, iter_many (it_all_Race b1 _ _ l hc_l hl), from_many (froms_cons (hW.outOwn 0 rfl (fun _ h => h)) (froms_cons (hW.outArg 0 rfl (.head _)) froms_nil)), hW.fr⟩

set_option maxRecDepth 100000 in
theorem it_36 (b : Nat) (A : Option Addr) (c : Nat) (l : List Race) (hc : l.length ≤ c) (hl : l.length ≤ 1000000) : Iter Tryz.prog 36 #[pA b 0] (fun x_ : Race × Nat => #[vI .i64 ((x_.2 : Nat) : Int), x_.1.v]) (· = l.zipIdx) [Cel b #[vS A l.length c] 35, roR A 7 enRace l] := by
 intro l_ J_ Jx_ r0 w hOs_ hdis_ hR_ hJ0_ hp_ hlt_
 have hW := iterW hOs_ hdis_ hp_ hlt_; clear hOs_ hdis_ hp_ hlt_
 have _hu := hc; clear _hu
 have _hu := hl; clear _hu
 refine enter_F 14 Tryz.func36 rfl rfl (by kernel_rfl) (L := [(0, vF (.yield l_) #[] #[]), (1, pA b 0)]) (by kernel_rfl) ?_
 intro ac hA
 refine wpIn_seq <| wpIn_region_lit <| stF hA (by kernel_rfl) (by kernel_rfl) (by kernel_rfl) (by kernel_rfl) (RunsF.of (Runs.cells (fun b => pA b 0) #[vF (.yield l_) #[] #[]] 83 (fun _ => by kernel_rfl) hW ?_)); clear hA ac hW; intro b1 w2 hW hb1 hfw2 ac hA
 refine wpListIn_nil <| thenN <| wpIn_scope <| wpIn_seq <| wpIn_label <| thenN <| wpIn_seq <| wpIn_region_lit <| st_rdF (v := vS A l.length c) hA (by kernel_rfl) (by kernel_rfl) (by kernel_rfl) (by kernel_rfl) hW.cls (Rd.load (b := b) (i := 0) (by kernel_rfl) (fun _ hw => show _ = _ from (hw.1).getG 0 rfl) (by kernel_rfl)) ?_; clear hA ac; intro ac hA
 refine stF hA (by kernel_rfl) (by kernel_rfl) (by kernel_rfl) (by kernel_rfl) (RunsF.of (Runs.call (fun _ => by kernel_rfl) (e_all_Race A c l w2 ((hW).getG 1 rfl) (by first | assumption | omega | (simp; omega) | simp) (by first | omega | (simp; done))) ?_))
 rintro _ w3 ⟨lb4, g5, rfl, hIg5, hfg5, hfw3⟩; refine ⟨_, rfl, ?_⟩; have hW0 := hW; have hW := hW0.call hfw3; have hW := hW0.addFromAt hW hfg5 (in_cons (in_at 1 rfl) in_nil); clear hW0 hA ac; intro ac hA
 refine wpListIn_nil <| thenN <| wpIn_block ?_
 have hW := hW.share 0 rfl (H' := [r0]) rfl
 refine wp_range (encs := (fun x_ : Race × Nat => #[vI .i64 ((x_.2 : Nat) : Int), x_.1.v])) (Sx := (· = l.zipIdx)) hA (by kernel_rfl) (by kernel_rfl) (enters_of Tryz.func63 (by kernel_rfl) rfl) (by kernel_rfl) (fun _ => rfl) hIg5 (List.forall_mem_singleton.2 (List.mem_of_getElem? (i := 1) rfl)) (fun pre_ H_ => ∃ k : Nat, ∃ r_ : Res, pre_ = l.zipIdx.take k ∧ k ≤ l.length ∧ (J_ (l.zipIdx.take k) r_) ∧ H_ = [r_]) (fun c_ _ H_ => (c_ = .exit 0 ∧ ∃ q_ : List (Race × Nat), ∃ r_ : Res, (Jx_ q_ r_) ∧ H_ = [r_])) (H := [r0]) (K := []) (hW.pick [0] (by decide) rfl) ⟨0, r0, rfl, Nat.zero_le _, by exact hJ0_, rfl⟩ ?_ ?_ ?_
 ·
  clear hA ac hW; intro l_6 rd_6 bs_6 pre_ x_ Hk_ w7 T_6 ac hrd_6 hbs_6 hbr_6 hok_ hJ_ hA hW hB_6 hT_6
  obtain ⟨k, r_, rfl, hk_, hJ, rfl⟩ := hJ_
  obtain ⟨y8, rfl, hy8, hlty8, hsny8⟩ := comes_zip hok_ hk_
  replace hA : Fm 14 [] [(0, vF (.yield l_) #[] #[]), (1, pA b 0), (2, pA b1 0), (5, vS A l.length c), (6, vF (.func 63) #[] lb4), (7, vI .i64 (k : Int)), (8, y8.v)] ac := hA.sub (by and_intros <;> first | kernel_rfl | trivial)
  refine wpIn_seq <| wpIn_region_lit <| st_rdF (v := vI .i64 (k : Int)) hA (by kernel_rfl) (by kernel_rfl) (by kernel_rfl) (by kernel_rfl) hW.cls (Rd.pure fun _ => by kernel_rfl) ?_; clear hA ac; intro ac hA
  refine wpListIn_nil <| thenN <| wpIn_region_lit <| stF hA (by kernel_rfl) (by kernel_rfl) (by kernel_rfl) (by kernel_rfl) (RunsF.of (Runs.cells (fun b => pA b 0) #[vI .i64 0, vI .i64 0, vI .u32 0, vI .i64 0, vI .i64 0, vI .i64 0, vI .i64 0] 47 (fun _ => by kernel_rfl) hW ?_)); clear hA ac hW; intro b9 w10 hW hb9 hfw10 ac hA
  refine stF hA (by kernel_rfl) (by kernel_rfl) (by kernel_rfl) (by kernel_rfl) (RunsF.of (Runs.store (v := y8.v) (b := b9) (j := 0) (n := 7) (cs' := #[vI .i64 y8.i, vI .i64 y8.j, vI .u32 y8.addr, vI .i64 y8.p.a.f, vI .i64 y8.p.a.pc, vI .i64 y8.p.b.f, vI .i64 y8.p.b.pc]) (H' := [Cel b9 #[vI .i64 y8.i, vI .i64 y8.j, vI .u32 y8.addr, vI .i64 y8.p.a.f, vI .i64 y8.p.a.pc, vI .i64 y8.p.b.f, vI .i64 y8.p.b.pc] 47, rd_6, r_]) (by kernel_rfl) (by kernel_rfl) (by kernel_rfl) (by kernel_rfl) (by kernel_rfl) hW 0 (by rfl) (Nat.le_of_ble_eq_true (by kernel_rfl)) (by kernel_rfl) (by rfl) ?_)); clear hA ac hW; intro w11 hW ac hA
  refine wpListIn_nil <| thenN <| begun (bs := bs_6) (H' := [Cel b9 #[vI .i64 y8.i, vI .i64 y8.j, vI .u32 y8.addr, vI .i64 y8.p.a.f, vI .i64 y8.p.a.pc, vI .i64 y8.p.b.f, vI .i64 y8.p.b.pc] 47, bs_6, r_]) hW 1 rfl (fun b hb => by rw [hbs_6] at hb; rw [hrd_6]; exact hb) rfl ?_; clear hW; intro w12 hW
  refine wpIn_block <| wpIn_seq <| wpIn_region_lit <| st_rdF (v := vF (.yield l_) #[] #[]) hA (by kernel_rfl) (by kernel_rfl) (by kernel_rfl) (by kernel_rfl) hW.cls (Rd.load (b := b1) (i := 0) (by kernel_rfl) (fun _ hw => show _ = _ from (hw.1).getG 0 rfl) (by kernel_rfl)) ?_; clear hA ac; intro ac hA
  refine st_rdF (v := vI .i64 (k : Int)) hA (by kernel_rfl) (by kernel_rfl) (by kernel_rfl) (by kernel_rfl) hW.cls (Rd.pure fun _ => by kernel_rfl) ?_; clear hA ac; intro ac hA
  refine st_rdF (v := vA #[vI .i64 y8.i, vI .i64 y8.j, vI .u32 y8.addr, vI .i64 y8.p.a.f, vI .i64 y8.p.a.pc, vI .i64 y8.p.b.f, vI .i64 y8.p.b.pc]) hA (by kernel_rfl) (by kernel_rfl) (by kernel_rfl) (by kernel_rfl) hW.cls (rl b9 0 0) ?_; clear hA ac; intro ac hA
  refine stF hA (by kernel_rfl) (by kernel_rfl) (by kernel_rfl) (by kernel_rfl) (RunsF.yield hR_ (l.zipIdx.take k) ((y8, k)) (fun _ => by kernel_rfl) hW 2 rfl (comes_at hy8) (hJ) (chainFr hB_6 hT_6 hW.fr) (chainMay hB_6 hT_6 (hW.may _ (List.mem_of_getElem? (i := 2) rfl))) ?_); clear hA ac hW; intro v13 r14 w15 hv13t hv13f hW ac hA
  refine st_rdF (v := vB (!v13)) hA (by kernel_rfl) (by kernel_rfl) (by kernel_rfl) (by kernel_rfl) hW.cls (Rd.pure fun _ => by kernel_rfl) ?_; clear hA ac; intro ac hA
  refine wpListIn_nil <| thenN <| wpIn_cond_split (t := !v13) (hA.eval (by kernel_rfl)) (fun h16 => ?_) (fun h16 => ?_)
  ·
   have h16 := not_t h16
   refine wpIn_exit <| blkY (by kernel_rfl) ?_
   exact ⟨_, ⟨rfl, _, r14, by exact hv13f h16, rfl⟩, (hW.pick [1, 2] (by decide) rfl).pickG [0, 1, 2, 3] rfl⟩
  have h16 := not_f h16
  refine wpIn_skip <| blkN ?_
  have hJn := hv13t h16; rw [zip_snoc hy8] at hJn
  exact ⟨_, ⟨k + 1, r14, hsny8, hlty8, by exact hJn, rfl⟩, (hW.pick [1, 2] (by decide) rfl).pickG [0, 1, 2, 3] rfl⟩
 ·
  clear hA ac hW; intro D17 xs_ Hk_ w18 ac hS_ hJ_ hA hW
  obtain ⟨k, r_, hpre_, hk_, hJ, rfl⟩ := hJ_
  have hke : k = l.length := by have := congrArg List.length (hS_.symm.trans hpre_); simp at this; omega
  clear hpre_ hS_
  replace hW : Ws w (· ∈ r0.fp) [r_, DefR D17] [Cel b1 #[vF (.yield l_) #[] #[]] 83, g5, Cel b #[vS A l.length c] 35, roR A 7 enRace l] w18 := hW
  refine blkN <| nogN <| retF (.inr rfl) hA <| leaveD (H' := [r_]) hW 1 rfl rfl ?_; clear hW; intro w19 hW
  refine leave0 (by rfl)  ?_
  clear hA
  rw [zip_all (by omega)] at hJ; exact ranDone hW 0 rfl (.inl ⟨_, rfl, hJ⟩)
 ·
  clear hA ac hW; intro D20 c_ pre_ Hk_ w21 ac hJ_ hA hW
  rcases hJ_ with ⟨rfl, q_, r_, hJx, rfl⟩
  ·
   replace hW : Ws w (· ∈ r0.fp) [r_, DefR D20] [Cel b1 #[vF (.yield l_) #[] #[]] 83, g5, Cel b #[vS A l.length c] 35, roR A 7 enRace l] w21 := hW
   refine wpIn_exit <| blkX <| nogN <| retF (.inr rfl) hA <| leaveD (H' := [r_]) hW 1 rfl rfl ?_; clear hW; intro w22 hW
   refine leave0 (by rfl)  ?_
   clear hA
   exact ranDone hW 0 rfl (.inr ⟨_, hJx⟩)

set_option maxRecDepth 100000 in
theorem e_rAll (m : Nat) (Ae : Option Addr) (ce : Nat) (E : List Event) (Ak : Option Addr) (ck : Nat) (C : List SV) (bg : Nat) (G : List (Int × SV)) (bt : Nat) (T : List (Thing × SV)) (w : World) (ho_o : (OrdR m Ae ce E Ak ck C bg G bt T).p w) (hl_o : ∀ x_ ∈ (OrdR m Ae ce E Ak ck C bg G bt T).fp, x_ < w.heap.size) (hok : OrdOk E C G T) (hE100 : E.length ≤ 100) : Calls Tryz.prog 14 #[pA m 0] w (fun e w' => ∃ (lb : Array Value) (g : Res), e = .returned (vF (.func 36) #[] lb) ∧ Iter Tryz.prog 36 lb (fun x_ : Race × Nat => #[vI .i64 ((x_.2 : Nat) : Int), x_.1.v]) (· = (raceL E).zipIdx) [g] ∧ g.from_ [] w w' ∧ Fr No w w') := by
 have _hu := ho_o; have _hv := hl_o; clear _hu _hv
 have _hu := hok; clear _hu
 have _hu := hE100; clear _hu
 refine enter_E 7 Tryz.func14 rfl rfl (by kernel_rfl) (L := [(0, pA m 0)]) (by kernel_rfl) ?_
 intro ac hA
 have hW := Ws.start w No
 have hW := hW.addG (OrdR m Ae ce E Ak ck C bg G bt T) ho_o hl_o (by simp)
 clear ho_o hl_o
 refine wr <| st_p (Value.nilFunc) hA ?_; clear hA ac; intro ac hA
 refine wn <| wr <| st_p (pA m 0) hA ?_; clear hA ac; intro ac hA
 refine st_s hA (Runs.callRow (E := 47) (sz := 7) (en := enRace) (l := (raceL E)) (fun _ => by kernel_rfl) hW (e_rall_ m Ae ce E Ak ck C bg G bt T w ((hW).getG 0 rfl) ((hW).glt _ (List.mem_of_getElem? (i := 0) rfl)) (by first | omega | (simp; done)) (by first | omega | (simp; done))) ?_); clear hA ac hW; intro A2 c3 w1 hW hcc3 hfw1 ac hA
 refine st_s hA (Runs.cells (fun b => pA b 0) #[vS none 0 0] 35 (fun _ => by kernel_rfl) hW ?_); clear hA ac hW; intro b5 w6 hW hb5 hfw6 ac hA
 refine st_s hA (Runs.store (v := vS A2 (raceL E).length c3) (b := b5) (j := 0) (n := 1) (cs' := #[vS A2 (raceL E).length c3]) (H' := [Cel b5 #[vS A2 (raceL E).length c3] 35, rowR 47 7 enRace (vS A2 (raceL E).length c3) (raceL E)]) (by kernel_rfl) (by kernel_rfl) (by kernel_rfl) (by kernel_rfl) (by kernel_rfl) hW 0 (by rfl) (Nat.le_of_ble_eq_true (by kernel_rfl)) (by kernel_rfl) (by rfl) ?_); clear hA ac hW; intro w7 hW ac hA
 refine wn <| wr <| st_p (vF (.func 36) #[] #[pA b5 0]) hA fun ac hA => st_p (vF (.func 36) #[] #[pA b5 0]) hA fun ac hA => wn <| wp_ret <| r1 (vF (.func 36) #[] #[pA b5 0]) hA ?_
 clear hA
 exact ⟨_, _, rfl, iter_many (it_36 b5 _ _ (raceL E) (own_cap (hW.get 1 rfl)) (by have := race_lil hE100; omega)), from_many (froms_cons (hW.outOwn 0 rfl (fun _ h => h)) (froms_cons (hW.outRow 1 rfl elt_Race.len (fun _ h => h)) froms_nil)), hW.fr⟩

set_option maxRecDepth 100000 in
theorem e_rFree (m : Nat) (Ae : Option Addr) (ce : Nat) (E : List Event) (Ak : Option Addr) (ck : Nat) (C : List SV) (bg : Nat) (G : List (Int × SV)) (bt : Nat) (T : List (Thing × SV)) (w : World) (ho_o : (OrdR m Ae ce E Ak ck C bg G bt T).p w) (hl_o : ∀ x_ ∈ (OrdR m Ae ce E Ak ck C bg G bt T).fp, x_ < w.heap.size) (hok : OrdOk E C G T) (hE100 : E.length ≤ 100) : Calls Tryz.prog 15 #[pA m 0] w (fun e w' => e = .returned (vB (decide ((raceL E).length = 0))) ∧ Fr No w w') := by
 have _hu := ho_o; have _hv := hl_o; clear _hu _hv
 have _hu := hok; clear _hu
 have _hu := hE100; clear _hu
 have hbg_ := race_lil hE100
 refine enter_E 7 Tryz.func15 rfl rfl (by kernel_rfl) (L := [(0, pA m 0)]) (by kernel_rfl) ?_
 intro ac hA
 have hW := Ws.start w No
 have hW := hW.addG (OrdR m Ae ce E Ak ck C bg G bt T) ho_o hl_o (by simp)
 clear ho_o hl_o
 refine wr <| st_p (vB false) hA ?_; clear hA ac; intro ac hA
 refine wn <| wr <| st_p (pA m 0) hA ?_; clear hA ac; intro ac hA
 refine st_s hA (Runs.callRow (E := 47) (sz := 7) (en := enRace) (l := (raceL E)) (fun _ => by kernel_rfl) hW (e_rall_ m Ae ce E Ak ck C bg G bt T w ((hW).getG 0 rfl) ((hW).glt _ (List.mem_of_getElem? (i := 0) rfl)) (by first | omega | assumption) (by first | omega | assumption)) ?_); clear hA ac hW; intro A2 c3 w1 hW hcc3 hfw1 ac hA
 refine st_p (vI .i64 (((raceL E).length : Nat) : Int)) hA fun ac hA => st_p (vB (((((raceL E).length : Nat) : Int) : Int) == (0 : Int))) hA fun ac hA => st_p (vB (((((raceL E).length : Nat) : Int) : Int) == (0 : Int))) hA fun ac hA => wn <| wp_ret <| r1 (vB (((((raceL E).length : Nat) : Int) : Int) == (0 : Int))) hA ?_
 clear hA
 exact ⟨retv (congrArg vB (by rw [Bool.eq_iff_iff]; simp)), hW.fr⟩

set_option maxRecDepth 100000 in
theorem e_rWith (m : Nat) (Ae : Option Addr) (ce : Nat) (E : List Event) (Ak : Option Addr) (ck : Nat) (C : List SV) (bg : Nat) (G : List (Int × SV)) (bt : Nat) (T : List (Thing × SV)) (j : Int) (w : World) (ho_o : (OrdR m Ae ce E Ak ck C bg G bt T).p w) (hl_o : ∀ x_ ∈ (OrdR m Ae ce E Ak ck C bg G bt T).fp, x_ < w.heap.size) (hok : OrdOk E C G T) (hj : -9223372036854775808 ≤ j ∧ j ≤ 9223372036854775807) : Calls Tryz.prog 25 #[pA m 0, vI .i64 j] w (Fresh 3 1 enI64 (withE E j) w) := by
 have _hu := ho_o; have _hv := hl_o; clear _hu _hv
 have _hu := hok; clear _hu
 have _hu := hj; clear _hu
 refine enter_E 9 Tryz.func25 rfl rfl (by kernel_rfl) (L := [(0, pA m 0), (1, vI .i64 j)]) (by kernel_rfl) ?_
 intro ac hA
 have hW := Ws.start w No
 have hW := hW.addG (OrdR m Ae ce E Ak ck C bg G bt T) ho_o hl_o (by simp)
 clear ho_o hl_o
 refine wr <| st_p (vS none 0 0) hA ?_; clear hA ac; intro ac hA
 refine wn <| wr <| st_p (pA m 0) hA fun ac hA => st_p (vA #[pA m 0]) hA fun ac hA => st_p (vI .i64 j) hA fun ac hA => st_s hA (Runs.callRow (E := 3) (sz := 1) (en := enI64) (l := (withE E (j))) (fun _ => by kernel_rfl) hW (e_rwith m Ae ce E Ak ck C bg G bt T (j) w ((hW).getG 0 rfl) ((hW).glt _ (List.mem_of_getElem? (i := 0) rfl)) (by first | omega | assumption | exact ⟨by omega, by omega⟩) (by first | omega | assumption | exact ⟨by omega, by omega⟩)) ?_); clear hA ac hW; intro A2 c3 w1 hW hcc3 hfw1 ac hA
 refine st_p (vS A2 (withE E (j)).length c3) hA ?_; clear hA ac; intro ac hA
 refine wn <| wp_ret <| r1 (vS A2 (withE E (j)).length c3) hA ?_
 clear hA
 refine ⟨_, rfl, ?_, hW.fr⟩
 have hrow := hW.fresh 0 rfl (fun _ h => h)
 exact hrow

end Go.Proofs.YtfkbjfbbigbacaaGreatDoor.L
