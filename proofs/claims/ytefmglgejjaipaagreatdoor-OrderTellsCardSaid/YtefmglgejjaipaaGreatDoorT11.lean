/- Contracts, walked by program over the engine's laws. -/
import Derived.Test.YtefmglgejjaipaaGreatDoorProg
import Derived.Test.YtefmglgejjaipaaGreatDoorT10
namespace Go.Proofs.YtefmglgejjaipaaGreatDoor.L
open Go.RowKit
open Go.Value renaming int → vI, slice → vS, bool → vB, pointer → vP, func → vF, agg → vA, map → vM, tuple → vT

def enI64 (x : Int) : List Value := [.int .i64 x]
theorem elt_I64 : Elt Tryz.prog 3 1 enI64 := ⟨⟨vI .i64 0, 8, by kernel_rfl, rfl, by decide⟩, by decide, fun _ => rfl, fun x u hu => List.all_eq_true.1 (show (enI64 x).all (·.oneCell') = true from rfl) u hu⟩
/-- Which are before one, of so many. -/
def siftL (E : List Event) (n : Nat) (j : Int) : List Int := ((List.range n).filter fun i : Nat => befE E (i : Int) j).map fun i : Nat => (i : Int)
theorem sift_snoc (E : List Event) (k : Nat) (j : Int) : siftL E (k + 1) j = siftL E k j ++ if befE E (k : Int) j = true then [(k : Int)] else [] := by
  unfold siftL; rw [List.range_succ, List.filter_append, List.map_append]; congr 1
  by_cases h : befE E (k : Int) j = true
  · rw [if_pos h]; simp [h]
  · rw [if_neg h]; simp [h]
theorem bef_rng {E : List Event} {i j : Int} (h : befE E i j = true) : 0 ≤ i ∧ i < j ∧ j < (E.length : Int) := by
  unfold befE at h; rw [Bool.and_eq_true] at h; exact of_decide_eq_true h.1
theorem sift_len (E : List Event) (j : Int) : ∀ k : Nat, (siftL E k j).length ≤ min k E.length
  | 0 => by simp [siftL]
  | k + 1 => by
    have ih := sift_len E j k
    rw [sift_snoc, List.length_append]
    by_cases h : befE E (k : Int) j = true
    · have := bef_rng h; rw [if_pos h]; simp; omega
    · rw [if_neg h]; simp; omega
theorem sift_mem {E : List Event} {n : Nat} {j x : Int} (h : x ∈ siftL E n j) : 0 ≤ x ∧ x < (n : Int) ∧ befE E x j = true := by
  unfold siftL at h; obtain ⟨i, hi, rfl⟩ := List.mem_map.1 h; rw [List.mem_filter, List.mem_range] at hi; exact ⟨by omega, by omega, hi.2⟩
set_option maxRecDepth 100000 in
theorem e_ah1 (i : Int) (m : Nat) (Ae : Option Addr) (ce : Nat) (E : List Event) (Ak : Option Addr) (ck : Nat) (C : List SV) (bg : Nat) (G : List (Int × SV)) (bt : Nat) (T : List (Thing × SV)) (bo : Nat) (bj : Nat) (j : Int) (w : World) (ho_boo : (OrdR m Ae ce E Ak ck C bg G bt T).p w) (hl_boo : ∀ x_ ∈ (OrdR m Ae ce E Ak ck C bg G bt T).fp, x_ < w.heap.size) (ho_bo : w.heap[bo]? = some (.cells #[pA m 0] 25 (0, 0))) (ho_bj : w.heap[bj]? = some (.cells #[vI .i64 j] 3 (0, 0))) (hok : OrdOk E C G T) (hi : -9223372036854775808 ≤ i ∧ i ≤ 9223372036854775807) (hj : -9223372036854775808 ≤ j ∧ j ≤ 9223372036854775807) : Calls Tryz.prog 45 #[vI .i64 i, pA bo 0, pA bj 0] w (fun e w' => e = .returned (vB (befE E i j)) ∧ Fr No w w') := by
 have _hu := ho_bo; clear _hu
 have _hu := ho_bj; clear _hu
 have _hu := ho_boo; have _hv := hl_boo; clear _hu _hv
 have _hu := hok; clear _hu
 have _hu := hi; clear _hu
 have _hu := hj; clear _hu
 refine enter_E 9 Tryz.func45 rfl rfl (by kernel_rfl) (L := [(0, vI .i64 i), (1, pA bo 0), (2, pA bj 0)]) (by kernel_rfl) ?_
 intro ac hA
 have hW := Ws.start w No
 have hW := hW.celG ho_bo
 have hW := hW.celG ho_bj
 have hW := hW.addG (OrdR m Ae ce E Ak ck C bg G bt T) ho_boo hl_boo (by simp)
 clear ho_boo hl_boo
 refine wr <| st_p (vB false) hA ?_; clear hA ac; intro ac hA
 refine wn <| wr <| st_q (pA m 0) hA hW.cls (Rd.load (b := bo) (i := 0) (by kernel_rfl) (fun _ hw => show _ = _ from (hw.1).getG 2 rfl) (by kernel_rfl)) fun ac hA => st_p (vI .i64 i) hA fun ac hA => st_q (vI .i64 j) hA hW.cls (Rd.load (b := bj) (i := 0) (by kernel_rfl) (fun _ hw => show _ = _ from (hw.1).getG 1 rfl) (by kernel_rfl)) fun ac hA => st_s hA (Runs.callN (v := vB (befE E (i) (j))) (fun _ => by kernel_rfl) hW (e_obefore m Ae ce E Ak ck C bg G bt T (i) (j) w ((hW).getG 0 rfl) ((hW).glt _ (List.mem_of_getElem? (i := 0) rfl)) (by first | omega | assumption | exact ⟨by omega, by omega⟩) (by first | omega | assumption | exact ⟨by omega, by omega⟩) (by first | omega | assumption | exact ⟨by omega, by omega⟩)) ?_); clear hA ac hW; intro w1 hW hfw1 ac hA
 refine st_p (vB (befE E (i) (j))) hA ?_; clear hA ac; intro ac hA
 refine wn <| wp_ret <| r1 (vB (befE E (i) (j))) hA ?_
 clear hA
 exact ⟨retv (by rfl), hW.fr⟩

set_option maxRecDepth 100000 in
theorem e_sift (n : Int) (m : Nat) (Ae : Option Addr) (ce : Nat) (E : List Event) (Ak : Option Addr) (ck : Nat) (C : List SV) (bg : Nat) (G : List (Int × SV)) (bt : Nat) (T : List (Thing × SV)) (bo : Nat) (bj : Nat) (j : Int) (w : World) (ho_boo : (OrdR m Ae ce E Ak ck C bg G bt T).p w) (hl_boo : ∀ x_ ∈ (OrdR m Ae ce E Ak ck C bg G bt T).fp, x_ < w.heap.size) (ho_bo : w.heap[bo]? = some (.cells #[pA m 0] 25 (0, 0))) (ho_bj : w.heap[bj]? = some (.cells #[vI .i64 j] 3 (0, 0))) (hok : OrdOk E C G T) (hn : -9223372036854775808 ≤ n ∧ n ≤ 9223372036854775807) (hj : -9223372036854775808 ≤ j ∧ j ≤ 9223372036854775807) : Calls Tryz.prog 44 #[vI .i64 0, vI .i64 n, vF (.func 45) #[] #[pA bo 0, pA bj 0]] w (Fresh 3 1 enI64 (siftL E (Int.toNat n) j) w) := by
 have _hu := ho_bo; clear _hu
 have _hu := ho_bj; clear _hu
 have _hu := ho_boo; have _hv := hl_boo; clear _hu _hv
 have _hu := hok; clear _hu
 have _hu := hn; clear _hu
 have _hu := hj; clear _hu
 have hlc_ := hok.clen; have hll_ := hok.len
 refine enter_E 22 Tryz.func44 rfl rfl (by kernel_rfl) (L := [(0, vI .i64 0), (1, vI .i64 n), (2, vF (.func 45) #[] #[pA bo 0, pA bj 0])]) (by kernel_rfl) ?_
 intro ac hA
 have hW := Ws.start w No
 have hW := hW.celG ho_bo
 have hW := hW.celG ho_bj
 have hW := hW.addG (OrdR m Ae ce E Ak ck C bg G bt T) ho_boo hl_boo (by simp)
 clear ho_boo hl_boo
 refine wr <| st_p (vS none 0 0) hA ?_; clear hA ac; intro ac hA
 refine wn <| wp_seq <| wr <| st_p (vI .i64 0) hA fun ac hA => st_p (vI .i64 0) hA fun ac hA => wn <| wp_block ?_
 have hW := hW.addNil 3 1 enI64
 refine wp_loop_m (fun m_ ac_ wl_ => ∃ k : Nat, ∃ d : List Int, ∃ A : Option Addr, ∃ cc : Nat, m_ = n.toNat - k ∧ (d = siftL E k j) ∧ (k = 0 ∨ (k : Int) ≤ n) ∧ (d.length ≤ cc) ∧ Fm 22 [] [(1, vI .i64 n), (2, vF (.func 45) #[] #[pA bo 0, pA bj 0]), (6, vS A d.length cc), (7, vI .i64 (k : Int))] ac_ ∧ Ws w No [rowR 3 1 enI64 (vS A d.length cc) d] [OrdR m Ae ce E Ak ck C bg G bt T, Cel bj #[vI .i64 j] 3, Cel bo #[pA m 0] 25] wl_) _ ⟨0, [], none, 0, rfl, by rfl, by omega, by simp, hA.sub (by and_intros <;> first | kernel_rfl | trivial), (hW.pick [0] (by decide) rfl).pickG [0, 1, 2] rfl⟩ ?_
 clear hA ac hW; rintro m_ ac w1 ⟨k, d, A, cc, rfl, hd, hk, hcc, hA, hW⟩
 have hsl_ := sift_len E j k; rw [← hd] at hsl_
 refine wp_seq <| wr <| st_p (vI .i64 (k : Int)) hA fun ac hA => st_p (vI .i64 n) hA fun ac hA => st_p (vB (decide ((k : Int) < (n : Int)))) hA fun ac hA => wn <| wp_cond_split (t := decide ((k : Int) < (n : Int))) (hA.eval (by kernel_rfl)) (fun h2 => ?_) (fun h2 => ?_)
 ·
  have h2 := of_decide_eq_true h2
  first
  | (exfalso; clear hA hW; omega)
  | (
   refine wp_skip <| thenN <| wp_seq <| wp_block <| wr <| st_p (vF (.func 45) #[] #[pA bo 0, pA bj 0]) hA fun ac hA => st_p (vI .i64 (k : Int)) hA fun ac hA => st_s hA (Runs.callN (v := vB (befE E (k : Int) (j : Int))) (fun _ => by kernel_rfl) hW (e_ah1 (k : Int) m Ae ce E Ak ck C bg G bt T bo bj (j : Int) w1 ((hW).getG 0 rfl) ((hW).glt _ (List.mem_of_getElem? (i := 0) rfl)) (show _ = _ from (hW).getG 2 rfl) (show _ = _ from (hW).getG 1 rfl) (by first | omega | assumption | exact ⟨by omega, by omega⟩) (by first | omega | assumption | exact ⟨by omega, by omega⟩) (by first | omega | assumption | exact ⟨by omega, by omega⟩)) ?_); clear hA ac hW; intro w3 hW hfw3 ac hA
   refine wn <| wp_cond_split (t := befE E (k : Int) (j : Int)) (hA.eval (by kernel_rfl)) (fun h4 => ?_) (fun h4 => ?_)
   ·
    first
    | (exfalso; clear hA hW; omega)
    | (
     refine wp_region_lit <| st_p (vS A d.length cc) hA fun ac hA => st_p (vI .i64 (k : Int)) hA fun ac hA => st_s hA (Runs.cells (fun b => vS (some ⟨b, 0, none⟩) 1 1) #[vI .i64 (k : Int)] 3 (fun _ => by kernel_rfl) hW ?_); clear hA ac hW; intro b5 w6 hW hb5 hfw6 ac hA
     refine st_s hA (Runs.appOwn (B := (some ⟨b5, 0, none⟩)) (k := 1) (E := 3) (sz := 1) (en := enI64) (l := d) (m := ([(k : Int)] : List Int)) (i := 1) (by kernel_rfl) (by kernel_rfl) elt_I64 (by kernel_rfl) hW rfl (rowAt_cel ((hW).cel 0 rfl) ([(k : Int)] : List Int) (by rfl) elt_I64.len) (by first | omega | (simp; done) | (simp; omega)) (by first | omega | (simp; done) | (simp; omega)) ?_); clear hA ac hW; intro A7 c8 w9 hW hcc8 ac hA
     refine st_p (vS A7 (d ++ ([(k : Int)] : List Int)).length c8) hA ?_; clear hA ac; intro ac hA
     refine wpList_nil <| blkN <| thenN <| wp_region_lit <| st_p (vI .i64 (k : Int)) hA fun ac hA => st_q (vI .i64 ((k + 1 : Nat) : Int)) hA hW.cls (Rd.pureE (v0 := vI .i64 (IntKind.i64.wrap ((k : Int) + 1))) (fun _ => by kernel_rfl) (congrArg (vI .i64) ((w_i64 (x := (k : Int) + 1) (by omega) (by omega)).trans (by omega)))) fun ac hA => st_p (vI .i64 ((k + 1 : Nat) : Int)) hA fun ac hA => wn ?_
     exact ⟨n.toNat - (k + 1), by omega, k + 1, d ++ ([(k : Int)] : List Int), A7, c8, rfl, by rw [sift_snoc, if_pos h4, hd], by omega, by exact hcc8, hA.sub (by and_intros <;> first | kernel_rfl | trivial), (hW.pick [1] (by decide) rfl).pickG [0, 1, 2] rfl⟩)
   first
   | (exfalso; clear hA hW; omega)
   | (
    refine wp_skip <| blkN <| thenN <| wp_region_lit <| st_p (vI .i64 (k : Int)) hA fun ac hA => st_q (vI .i64 ((k + 1 : Nat) : Int)) hA hW.cls (Rd.pureE (v0 := vI .i64 (IntKind.i64.wrap ((k : Int) + 1))) (fun _ => by kernel_rfl) (congrArg (vI .i64) ((w_i64 (x := (k : Int) + 1) (by omega) (by omega)).trans (by omega)))) fun ac hA => st_p (vI .i64 ((k + 1 : Nat) : Int)) hA fun ac hA => wn ?_
    exact ⟨n.toNat - (k + 1), by omega, k + 1, d, A, cc, rfl, by rw [sift_snoc, if_neg (by rw [h4]; decide), hd, List.append_nil], by omega, by exact hcc, hA.sub (by and_intros <;> first | kernel_rfl | trivial), (hW.pick [0] (by decide) rfl).pickG [0, 1, 2] rfl⟩))
 have h2 := of_decide_eq_false h2
 first
 | (exfalso; clear hA hW; omega)
 | (
  refine wp_exit <| thenX <| thenX <| blkX <| thenN <| wr <| st_p (vS A d.length cc) hA fun ac hA => st_p (vS A d.length cc) hA fun ac hA => wn <| wp_ret <| r1 (vS A d.length cc) hA ?_
  clear hA
  have hq_ : siftL E n.toNat j = d := by rw [hd, show k = n.toNat from by omega]
  rw [hq_]; exact ⟨_, rfl, hW.fresh 0 rfl (fun _ h => h), hW.fr⟩)

set_option maxRecDepth 100000 in
theorem e_oahead (m : Nat) (Ae : Option Addr) (ce : Nat) (E : List Event) (Ak : Option Addr) (ck : Nat) (C : List SV) (bg : Nat) (G : List (Int × SV)) (bt : Nat) (T : List (Thing × SV)) (j : Int) (w : World) (ho_o : (OrdR m Ae ce E Ak ck C bg G bt T).p w) (hl_o : ∀ x_ ∈ (OrdR m Ae ce E Ak ck C bg G bt T).fp, x_ < w.heap.size) (hok : OrdOk E C G T) (hj : -9223372036854775808 ≤ j ∧ j ≤ 9223372036854775807) : Calls Tryz.prog 20 #[pA m 0, vI .i64 j] w (Fresh 3 1 enI64 (siftL E (Int.toNat j) j) w) := by
 have _hu := ho_o; have _hv := hl_o; clear _hu _hv
 have _hu := hok; clear _hu
 have _hu := hj; clear _hu
 refine enter_E 8 Tryz.func20 rfl rfl (by kernel_rfl) (L := [(0, pA m 0), (1, vI .i64 j)]) (by kernel_rfl) ?_
 intro ac hA
 have hW := Ws.start w No
 have hW := hW.addG (OrdR m Ae ce E Ak ck C bg G bt T) ho_o hl_o (by simp)
 clear ho_o hl_o
 refine wr <| st_s hA (Runs.cells (fun b => pA b 0) #[pA m 0] 25 (fun _ => by kernel_rfl) hW ?_); clear hA ac hW; intro b1 w2 hW hb1 hfw2 ac hA
 refine st_s hA (Runs.cells (fun b => pA b 0) #[vI .i64 j] 3 (fun _ => by kernel_rfl) hW ?_); clear hA ac hW; intro b3 w4 hW hb3 hfw4 ac hA
 refine st_p (vS none 0 0) hA ?_; clear hA ac; intro ac hA
 refine wn <| wr <| st_q (vI .i64 j) hA hW.cls (rl b3 0 0) fun ac hA => st_p (vF (.func 45) #[] #[pA b1 0, pA b3 0]) hA fun ac hA => st_s hA (Runs.callRow (E := 3) (sz := 1) (en := enI64) (l := (siftL E (Int.toNat (j)) (j : Int))) (fun _ => by kernel_rfl) hW (e_sift (j) m Ae ce E Ak ck C bg G bt T b1 b3 (j : Int) w4 ((hW).getG 0 rfl) ((hW).glt _ (List.mem_of_getElem? (i := 0) rfl)) ((hW).cel 1 rfl) ((hW).cel 0 rfl) (by first | omega | assumption | exact ⟨by omega, by omega⟩) (by first | omega | assumption | exact ⟨by omega, by omega⟩) (by first | omega | assumption | exact ⟨by omega, by omega⟩)) ?_); clear hA ac hW; intro A6 c7 w5 hW hcc7 hfw5 ac hA
 refine st_p (vS A6 (siftL E (Int.toNat (j)) (j : Int)).length c7) hA ?_; clear hA ac; intro ac hA
 refine wn <| wp_ret <| r1 (vS A6 (siftL E (Int.toNat (j)) (j : Int)).length c7) hA ?_
 clear hA
 refine ⟨_, rfl, ?_, hW.fr⟩
 have hrow := hW.fresh 0 rfl (fun _ h => h)
 exact hrow

end Go.Proofs.YtefmglgejjaipaaGreatDoor.L
