/- Contracts, walked by program over the engine's laws. -/
import Derived.Test.YtcgcippmbeileaaProg
import Derived.Test.YtcgcippmbeileaaT7
namespace Go.Proofs.Ytcgcippmbeileaa.L
open Go.RowKit

/-- The round behind the partitions' choice; behind the look; behind the pivot. -/
def pdq3 (d : Array Int) (limit a b : Nat) (wasBalanced wasPartitioned : Bool) (pivot : Nat) : Array Int :=
  if a > 0 && !Sort.ltInt d[a - 1]! d[pivot]! then
    match Sort.partitionEqual Sort.ltInt d a b pivot with
    | (mid, d4) => if _h : a < mid ∧ mid ≤ b then Sort.pdq Sort.ltInt d4 mid b limit wasBalanced wasPartitioned else d4
  else
    match Sort.partition Sort.ltInt d a b pivot with
    | (mid, alreadyPartitioned, d4) =>
      if _h : a ≤ mid ∧ mid < b then
        if mid - a < b - mid then
          Sort.pdq Sort.ltInt (Sort.pdq Sort.ltInt d4 a mid limit true true) (mid + 1) b limit (decide (mid - a ≥ (b - a) / 8)) alreadyPartitioned
        else
          Sort.pdq Sort.ltInt (Sort.pdq Sort.ltInt d4 (mid + 1) b limit true true) a mid limit (decide (b - mid ≥ (b - a) / 8)) alreadyPartitioned
      else d4
def pdq2 (d : Array Int) (limit a b : Nat) (wasBalanced wasPartitioned : Bool) (pivot : Nat) (inc : Bool) : Array Int :=
  let pi := if wasBalanced && wasPartitioned && inc then Sort.partialInsertionSort Sort.ltInt d a b else (d, false)
  if pi.2 then pi.1 else pdq3 pi.1 limit a b wasBalanced wasPartitioned pivot
def pdq1 (d : Array Int) (limit a b : Nat) (wasBalanced wasPartitioned : Bool) : Array Int :=
  let c := Sort.choosePivot Sort.ltInt d a b
  let d2 := if c.2 = .decreasing then Sort.reverseRange d a b else d
  let pivot := if c.2 = .decreasing then (b - 1) - (c.1 - a) else c.1
  let hint := if c.2 = .decreasing then Sort.Hint.increasing else c.2
  pdq2 d2 limit a b wasBalanced wasPartitioned pivot (decide (hint = .increasing))
section pdq
variable {d : List Int} {D : Array Int} {a b lim pv m : Nat} {wb wp inc al : Bool} {x y : Int}
theorem pdq_small (h : b - a ≤ 12) : Sort.pdq Sort.ltInt D a b lim wb wp = Sort.insertionSort Sort.ltInt D a b := by rw [Sort.pdq, if_pos h]
theorem pdq_heap (h : ¬ b - a ≤ 12) (h0 : lim = 0) : Sort.pdq Sort.ltInt D a b lim wb wp = Sort.heapSort Sort.ltInt D a b := by rw [Sort.pdq, if_neg h, if_pos h0]
theorem pdq_go (h : ¬ b - a ≤ 12) (h0 : ¬ lim = 0) : Sort.pdq Sort.ltInt D a b lim wb wp = pdq1 (if !wb then Sort.breakPatterns D a b else D) (if !wb then lim - 1 else lim) a b wb wp := by
  rw [Sort.pdq, if_neg h, if_neg h0]
  unfold pdq1 pdq2 pdq3
  simp only [Bool.and_assoc]
theorem p1_dec (h : (Sort.choosePivot Sort.ltInt D a b).2 = .decreasing) : pdq1 D lim a b wb wp = pdq2 (Sort.reverseRange D a b) lim a b wb wp ((b - 1) - ((Sort.choosePivot Sort.ltInt D a b).1 - a)) true := by
  unfold pdq1; simp only [h]; simp
theorem p1_nd (h : (Sort.choosePivot Sort.ltInt D a b).2 ≠ .decreasing) : pdq1 D lim a b wb wp = pdq2 D lim a b wb wp (Sort.choosePivot Sort.ltInt D a b).1 (decide ((Sort.choosePivot Sort.ltInt D a b).2 = .increasing)) := by
  unfold pdq1; simp only []; rw [if_neg h, if_neg h, if_neg h]
theorem p2_no (h : (wb && wp && inc) = false) : pdq2 D lim a b wb wp pv inc = pdq3 D lim a b wb wp pv := by
  unfold pdq2; rw [h]; simp
theorem p2_f (hb : b - a < 50) (h : (Sort.partialInsertionSort Sort.ltInt d.toArray a b).2 = false) : pdq2 d.toArray lim a b wb wp pv inc = pdq3 d.toArray lim a b wb wp pv := by
  unfold pdq2
  cases hc : (wb && wp && inc)
  · simp
  · simp only [if_true]; rw [h, pins_fst hb]; simp
theorem p2_t (hb : b - a < 50) (hc : (wb && wp && inc) = true) (h : (Sort.partialInsertionSort Sort.ltInt d.toArray a b).2 = true) : pdq2 d.toArray lim a b wb wp pv inc = d.toArray := by
  unfold pdq2; rw [hc]; simp only [if_true]; rw [h, pins_fst hb]; simp
theorem p3_eq {d4 : Array Int} (h0 : a > 0) (hx : d[a - 1]? = some x) (hy : d[pv]? = some y) (hn : ¬ x < y) (hm : (m, d4) = Sort.partitionEqual Sort.ltInt d.toArray a b pv) (hr : a < m ∧ m ≤ b) : pdq3 d.toArray lim a b wb wp pv = Sort.pdq Sort.ltInt d4 m b lim wb wp := by
  unfold pdq3; rw [arr_at hx, arr_at hy, ltI, if_pos (by simp [h0, hn]), ← hm]; simp only []; rw [dif_pos hr]
theorem p3_c (h : a = 0 ∨ ∃ x y, d[a - 1]? = some x ∧ d[pv]? = some y ∧ x < y) : ¬ ((a > 0 && !Sort.ltInt d.toArray[a - 1]! d.toArray[pv]!) = true) := by
  rcases h with h | ⟨x, y, hx, hy, h⟩
  · simp [h]
  · rw [arr_at hx, arr_at hy, ltI]; simp [h]
theorem p3_l {d4 d5 : Array Int} (h : a = 0 ∨ ∃ x y, d[a - 1]? = some x ∧ d[pv]? = some y ∧ x < y) (hm : (m, al, d4) = Sort.partition Sort.ltInt d.toArray a b pv) (hr : a ≤ m ∧ m < b) (hl : m - a < b - m) (h5 : d5 = Sort.pdq Sort.ltInt d4 a m lim true true) : pdq3 d.toArray lim a b wb wp pv = Sort.pdq Sort.ltInt d5 (m + 1) b lim (decide (m - a ≥ (b - a) / 8)) al := by
  unfold pdq3; rw [if_neg (p3_c h), ← hm]; simp only []; rw [dif_pos hr, if_pos hl, h5]
theorem p3_r {d4 d5 : Array Int} (h : a = 0 ∨ ∃ x y, d[a - 1]? = some x ∧ d[pv]? = some y ∧ x < y) (hm : (m, al, d4) = Sort.partition Sort.ltInt d.toArray a b pv) (hr : a ≤ m ∧ m < b) (hl : ¬ m - a < b - m) (h5 : d5 = Sort.pdq Sort.ltInt d4 (m + 1) b lim true true) : pdq3 d.toArray lim a b wb wp pv = Sort.pdq Sort.ltInt d5 a m lim (decide (b - m ≥ (b - a) / 8)) al := by
  unfold pdq3; rw [if_neg (p3_c h), ← hm]; simp only []; rw [dif_pos hr, if_neg hl, h5]
end pdq
theorem nrow {P : Program} {f : FuncId} {A : Option Addr} {n m c : Nat} {x y : Value} {w : World} {Q : Ending → World → Prop} (h : n = m) (hc : Calls P f #[.slice A m c, x, y] w Q) : Calls P f #[.slice A n c, x, y] w Q := h ▸ hc
theorem hint_dec {h : Sort.Hint} (e : hintI h = 2) : h = .decreasing := by cases h <;> simp [hintI] at e ⊢
theorem hint_nd {h : Sort.Hint} (e : hintI h ≠ 2) : h ≠ .decreasing := by cases h <;> simp [hintI] at e ⊢
theorem hint_inc {h : Sort.Hint} (e : hintI h = 1) : decide (h = .increasing) = true := by cases h <;> simp [hintI] at e ⊢
theorem hint_iff {h : Sort.Hint} : decide (h = .increasing) = true ↔ hintI h = 1 := by cases h <;> simp [hintI]
theorem hint_ni {h : Sort.Hint} (e : hintI h ≠ 1) : decide (h = .increasing) = false := by cases h <;> simp [hintI] at e ⊢
set_option maxHeartbeats 4000000 in
set_option maxRecDepth 100000 in
theorem e_pdq0 (N_ : Nat) (A_l : Option Addr) (n_l c_l : Nat) (l : List Int) (a : Nat) (b : Nat) (limit : Nat) (w : World) (ho_l : (srtR A_l n_l c_l l).p w) (hl_l : ∀ x_ ∈ (srtR A_l n_l c_l l).fp, x_ < w.heap.size) (hb : a ≤ b ∧ b ≤ l.length ∧ b < a + 50 ∧ limit ≤ 1000) (hsz : l.length ≤ 100000) (hN : b - a ≤ N_) (hrec : ∀ (A_l : Option Addr) (n_l c_l : Nat) (l : List Int) (a b limit : Nat) (w : World), (srtR A_l n_l c_l l).p w → (∀ x_ ∈ (srtR A_l n_l c_l l).fp, x_ < w.heap.size) → a ≤ b ∧ b ≤ l.length ∧ b < a + 50 ∧ limit ≤ 1000 → l.length ≤ 100000 → b - a < N_ → Calls Try.prog 51 #[Value.slice A_l n_l c_l, Value.int .i64 ((a : Nat) : Int), Value.int .i64 ((b : Nat) : Int), Value.int .i64 ((limit : Nat) : Int)] w (fun e w' => ∃ l' : List Int, e = .returned (Value.tuple #[]) ∧ (l'.toArray = Sort.pdq Sort.ltInt l.toArray a b limit true true) ∧ (l'.length = l.length) ∧ Upd (srtR A_l n_l c_l l) (srtR A_l n_l c_l l') w w')) : Calls Try.prog 51 #[Value.slice A_l n_l c_l, Value.int .i64 ((a : Nat) : Int), Value.int .i64 ((b : Nat) : Int), Value.int .i64 ((limit : Nat) : Int)] w (fun e w' => ∃ l' : List Int, e = .returned (Value.tuple #[]) ∧ (l'.toArray = Sort.pdq Sort.ltInt l.toArray a b limit true true) ∧ (l'.length = l.length) ∧ Upd (srtR A_l n_l c_l l) (srtR A_l n_l c_l l') w w') := by
 have _hu := ho_l; have _hv := hl_l; clear _hu _hv
 have _hu := hb; clear _hu
 have _hu := hsz; clear _hu
 have _hu := hN; clear _hu
 have _hu := hrec; clear _hu
 refine enter_E 134 Try.func51 rfl rfl (by kernel_rfl) (L := [(0, Value.slice A_l n_l c_l), (1, Value.int .i64 ((a : Nat) : Int)), (2, Value.int .i64 ((b : Nat) : Int)), (3, Value.int .i64 ((limit : Nat) : Int))]) (by kernel_rfl) ?_
 intro ac hA
 have hW : Ws w (· ∈ (srtR A_l n_l c_l l).fp) [rowR 35 1 enU4 (Value.slice A_l n_l c_l) l] [] w := objW ho_l hl_l
 clear ho_l hl_l
 have hn_l : n_l = l.length := rowR_n (hW.get 0 rfl)
 refine wp_seq ?_
 refine wp_region_lit ?_
 refine st_p (Value.bool true) hA ?_; clear hA ac; intro ac hA
 refine wpList_nil ?_
 refine thenN ?_
 refine wp_seq ?_
 refine wp_region_lit ?_
 refine st_p (Value.bool true) hA ?_; clear hA ac; intro ac hA
 refine wpList_nil ?_
 refine thenN ?_
 refine wp_block ?_
 refine wp_loop_m (fun m_ ac_ wl_ => ∃ a1 : Nat, ∃ b1 : Nat, ∃ lim : Nat, ∃ wb : Bool, ∃ wp : Bool, ∃ d : List Int, m_ = b1 - a1 ∧ (a ≤ a1 ∧ a1 ≤ b1 ∧ b1 ≤ b ∧ lim ≤ 1000) ∧ (Sort.pdq Sort.ltInt d.toArray a1 b1 lim wb wp = Sort.pdq Sort.ltInt l.toArray a b limit true true) ∧ (d.length = l.length) ∧ Fm 134 [] [(0, Value.slice A_l n_l c_l), (1, Value.int .i64 ((a1 : Nat) : Int)), (2, Value.int .i64 ((b1 : Nat) : Int)), (3, Value.int .i64 ((lim : Nat) : Int)), (8, Value.bool wb), (9, Value.bool wp)] ac_ ∧ Ws w (· ∈ (srtR A_l n_l c_l l).fp) [rowR 35 1 enU4 (Value.slice A_l n_l c_l) d] [] wl_) _ ⟨a, b, limit, true, true, l, rfl, by omega, by rfl, by rfl, hA.sub ⟨⟨by kernel_rfl, by kernel_rfl⟩, ⟨by kernel_rfl, by kernel_rfl⟩, ⟨by kernel_rfl, by kernel_rfl⟩, ⟨by kernel_rfl, by kernel_rfl⟩, ⟨by kernel_rfl, by kernel_rfl⟩, ⟨by kernel_rfl, by kernel_rfl⟩, trivial⟩, (hW.pick [0] (by decide) rfl).pickG [] rfl⟩ ?_
 clear hA ac hW; rintro m_ ac w1 ⟨a1, b1, lim, wb, wp, d, rfl, hbd, hp, hl, hA, hW⟩
 refine wp_block ?_
 refine wp_seq ?_
 refine wp_region_lit ?_
 refine st_p (Value.int .i64 ((b1 : Nat) : Int)) hA ?_; clear hA ac; intro ac hA
 refine st_p (Value.int .i64 ((a1 : Nat) : Int)) hA ?_; clear hA ac; intro ac hA
 refine st_q (Value.int .i64 ((b1 - a1 : Nat) : Int)) hA hW.cls (Rd.pureE (v0 := Value.int .i64 (IntKind.i64.wrap ((((b1 : Nat) : Int) : Int) - ((a1 : Nat) : Int)))) (fun _ => by kernel_rfl) (congrArg (Value.int .i64) ((w_i64 (x := (((b1 : Nat) : Int) : Int) - ((a1 : Nat) : Int)) (by omega) (by omega)).trans (by omega)))) ?_; clear hA ac; intro ac hA
 refine st_p (Value.int .i64 ((b1 - a1 : Nat) : Int)) hA ?_; clear hA ac; intro ac hA
 refine wpList_nil ?_
 refine thenN ?_
 refine wp_seq ?_
 refine wp_seq ?_
 refine wp_region_lit ?_
 refine st_p (Value.int .i64 ((b1 - a1 : Nat) : Int)) hA ?_; clear hA ac; intro ac hA
 refine st_p (Value.bool (decide ((((b1 - a1 : Nat) : Int) : Int) ≤ (12 : Int)))) hA ?_; clear hA ac; intro ac hA
 refine wpList_nil ?_
 refine thenN ?_
 refine wp_cond_split (t := decide ((((b1 - a1 : Nat) : Int) : Int) ≤ (12 : Int))) (hA.eval (by kernel_rfl)) (fun h2 => ?_) (fun h2 => ?_)
 · skip
   have h2 := of_decide_eq_true h2
   first
   | (exfalso; clear hA hW; omega)
   | (
     refine wp_seq ?_
     refine wp_region_lit ?_
     refine st_p (Value.slice A_l n_l c_l) hA ?_; clear hA ac; intro ac hA
     refine st_p (Value.int .i64 ((a1 : Nat) : Int)) hA ?_; clear hA ac; intro ac hA
     refine st_p (Value.int .i64 ((b1 : Nat) : Int)) hA ?_; clear hA ac; intro ac hA
     refine st_s hA (Runs.call (fun _ => by kernel_rfl) (e_ins A_l n_l c_l d (a1) (b1) w1 ((hW).get 0 rfl) ((hW).lt _ (List.mem_of_getElem? (i := 0) rfl)) (by first | omega | assumption) (by first | omega | assumption)) ?_)
     rintro _ w3 ⟨u4, rfl, hw3_hA, hw3_hL, hu_⟩; refine ⟨_, rfl, ?_⟩; replace hW := hW.upd (H' := [rowR 35 1 enU4 (Value.slice A_l n_l c_l) u4]) 0 rfl hu_ rfl; clear hA ac; intro ac hA
     refine wpList_nil ?_
     refine thenN ?_
     refine wp_ret ?_
     refine thenR ?_
     refine blkR ?_
     refine thenR ?_
     refine blkR ?_
     refine ret0 (.inl rfl) rfl hA ?_
     clear hA
     exact ⟨u4, rfl, by rw [hw3_hA, ← hp, pdq_small (by omega)], by rw [hw3_hL]; exact hl, (hW.pick [0] (by decide) rfl).updDone 0 rfl⟩)
 · skip
   have h2 := of_decide_eq_false h2
   first
   | (exfalso; clear hA hW; omega)
   | (
     refine wp_skip ?_
     refine thenN ?_
     refine wp_seq ?_
     refine wp_seq ?_
     refine wp_region_lit ?_
     refine st_p (Value.int .i64 ((lim : Nat) : Int)) hA ?_; clear hA ac; intro ac hA
     refine st_p (Value.bool ((((lim : Nat) : Int) : Int) == (0 : Int))) hA ?_; clear hA ac; intro ac hA
     refine wpList_nil ?_
     refine thenN ?_
     refine wp_cond_split (t := (((lim : Nat) : Int) : Int) == (0 : Int)) (hA.eval (by kernel_rfl)) (fun h5 => ?_) (fun h5 => ?_)
     · skip
       have h5 := eq_of_beq h5
       first
       | (exfalso; clear hA hW; omega)
       | (
         refine wp_seq ?_
         refine wp_region_lit ?_
         refine st_p (Value.slice A_l n_l c_l) hA ?_; clear hA ac; intro ac hA
         refine st_p (Value.int .i64 ((a1 : Nat) : Int)) hA ?_; clear hA ac; intro ac hA
         refine st_p (Value.int .i64 ((b1 : Nat) : Int)) hA ?_; clear hA ac; intro ac hA
         refine st_s hA (Runs.call (fun _ => by kernel_rfl) (e_heap A_l n_l c_l d (a1) (b1) w1 ((hW).get 0 rfl) ((hW).lt _ (List.mem_of_getElem? (i := 0) rfl)) (by first | omega | assumption) (by first | omega | assumption)) ?_)
         rintro _ w6 ⟨u7, rfl, hw6_hA, hw6_hL, hu_⟩; refine ⟨_, rfl, ?_⟩; replace hW := hW.upd (H' := [rowR 35 1 enU4 (Value.slice A_l n_l c_l) u7]) 0 rfl hu_ rfl; clear hA ac; intro ac hA
         refine wpList_nil ?_
         refine thenN ?_
         refine wp_ret ?_
         refine thenR ?_
         refine blkR ?_
         refine thenR ?_
         refine blkR ?_
         refine ret0 (.inl rfl) rfl hA ?_
         clear hA
         exact ⟨u7, rfl, by rw [hw6_hA, ← hp, pdq_heap (by omega) (by omega)], by rw [hw6_hL]; exact hl, (hW.pick [0] (by decide) rfl).updDone 0 rfl⟩)
     · skip
       have h5 := ne_of_beq_false h5
       first
       | (exfalso; clear hA hW; omega)
       | (
         refine wp_skip ?_
         refine thenN ?_
         refine wp_seq ?_
         refine wp_cut (fun ac_ wl_ => ∃ d1 : List Int, ∃ lim1 : Nat, (pdq1 d1.toArray lim1 a1 b1 wb wp = Sort.pdq Sort.ltInt l.toArray a b limit true true) ∧ (d1.length = l.length) ∧ (lim1 ≤ 1000) ∧ Fm 134 [] [(0, Value.slice A_l n_l c_l), (1, Value.int .i64 ((a1 : Nat) : Int)), (2, Value.int .i64 ((b1 : Nat) : Int)), (3, Value.int .i64 ((lim1 : Nat) : Int)), (8, Value.bool wb), (9, Value.bool wp), (10, Value.int .i64 ((b1 - a1 : Nat) : Int))] ac_ ∧ Ws w (· ∈ (srtR A_l n_l c_l l).fp) [rowR 35 1 enU4 (Value.slice A_l n_l c_l) d1] [] wl_) ?_ ?_
         · skip
           refine wp_seq ?_
           refine wp_region_lit ?_
           refine st_p (Value.bool wb) hA ?_; clear hA ac; intro ac hA
           refine st_p (Value.bool (!wb)) hA ?_; clear hA ac; intro ac hA
           refine wpList_nil ?_
           refine thenN ?_
           refine wp_cond_split (t := !wb) (hA.eval (by kernel_rfl)) (fun h8 => ?_) (fun h8 => ?_)
           · skip
             have h8 := not_t h8
             first
             | (exfalso; clear hA hW; omega)
             | (
               refine wp_seq ?_
               refine wp_region_lit ?_
               refine st_p (Value.slice A_l n_l c_l) hA ?_; clear hA ac; intro ac hA
               refine st_p (Value.int .i64 ((a1 : Nat) : Int)) hA ?_; clear hA ac; intro ac hA
               refine st_p (Value.int .i64 ((b1 : Nat) : Int)) hA ?_; clear hA ac; intro ac hA
               refine st_s hA (Runs.call (fun _ => by kernel_rfl) (e_break A_l n_l c_l d (a1) (b1) w1 ((hW).get 0 rfl) ((hW).lt _ (List.mem_of_getElem? (i := 0) rfl)) (by first | omega | assumption) (by first | omega | assumption)) ?_)
               rintro _ w9 ⟨u10, rfl, hw9_hA, hw9_hL, hu_⟩; refine ⟨_, rfl, ?_⟩; replace hW := hW.upd (H' := [rowR 35 1 enU4 (Value.slice A_l n_l c_l) u10]) 0 rfl hu_ rfl; clear hA ac; intro ac hA
               refine wpList_nil ?_
               refine thenN ?_
               refine wp_region_lit ?_
               refine st_p (Value.int .i64 ((lim : Nat) : Int)) hA ?_; clear hA ac; intro ac hA
               refine st_q (Value.int .i64 ((lim - 1 : Nat) : Int)) hA hW.cls (Rd.pureE (v0 := Value.int .i64 (IntKind.i64.wrap ((((lim : Nat) : Int) : Int) - 1))) (fun _ => by kernel_rfl) (congrArg (Value.int .i64) ((w_i64 (x := (((lim : Nat) : Int) : Int) - 1) (by omega) (by omega)).trans (by omega)))) ?_; clear hA ac; intro ac hA
               refine st_p (Value.int .i64 ((lim - 1 : Nat) : Int)) hA ?_; clear hA ac; intro ac hA
               refine wpList_nil ?_
               have hb_ : wb = false := by simpa using h8
               exact ⟨u10, lim - 1, by rw [← hp, pdq_go (by omega) (by omega), hb_, hw9_hA]; rfl, by rw [hw9_hL]; exact hl, by omega, hA.sub ⟨⟨by kernel_rfl, by kernel_rfl⟩, ⟨by kernel_rfl, by kernel_rfl⟩, ⟨by kernel_rfl, by kernel_rfl⟩, ⟨by kernel_rfl, by kernel_rfl⟩, ⟨by kernel_rfl, by kernel_rfl⟩, ⟨by kernel_rfl, by kernel_rfl⟩, ⟨by kernel_rfl, by kernel_rfl⟩, trivial⟩, (hW.pick [0] (by decide) rfl).pickG [] rfl⟩)
           · skip
             have h8 := not_f h8
             first
             | (exfalso; clear hA hW; omega)
             | (
               refine wp_skip ?_
               have hb_ : wb = true := by simpa using h8
               exact ⟨d, lim, by rw [← hp, pdq_go (by omega) (by omega), hb_]; rfl, by exact hl, by omega, hA.sub ⟨⟨by kernel_rfl, by kernel_rfl⟩, ⟨by kernel_rfl, by kernel_rfl⟩, ⟨by kernel_rfl, by kernel_rfl⟩, ⟨by kernel_rfl, by kernel_rfl⟩, ⟨by kernel_rfl, by kernel_rfl⟩, ⟨by kernel_rfl, by kernel_rfl⟩, ⟨by kernel_rfl, by kernel_rfl⟩, trivial⟩, (hW.pick [0] (by decide) rfl).pickG [] rfl⟩)
         · skip
           clear hA ac hW; rintro ac w11 ⟨d1, lim1, hq1, hl1_, hlm, hA, hW⟩
           refine thenN ?_
           refine wp_seq ?_
           refine wp_region_lit ?_
           refine st_p (Value.slice A_l n_l c_l) hA ?_; clear hA ac; intro ac hA
           refine st_p (Value.int .i64 ((a1 : Nat) : Int)) hA ?_; clear hA ac; intro ac hA
           refine st_p (Value.int .i64 ((b1 : Nat) : Int)) hA ?_; clear hA ac; intro ac hA
           refine st_s hA (Runs.call (fun _ => by kernel_rfl) ((nrow (n := n_l) (m := d1.length) (by omega) (e_pivot A_l c_l d1 (a1) (b1) w11 (rowR_at ((hW).get 0 rfl) elt_U4.len) (own_cap ((hW).get 0 rfl)) (by first | omega | assumption) (by first | omega | assumption)))) ?_)
           rintro _ w12 ⟨g13, g14, rfl, hw12_hP, hw12_hH, hw12_hX, hfw12⟩; refine ⟨_, rfl, ?_⟩; have hW0 := hW; have hW := hW0.call hfw12
           clear hW0 hA ac; intro ac hA
           refine st_p (Value.tuple #[Value.int .i64 ((g13 : Nat) : Int), Value.int .i64 g14]) hA ?_; clear hA ac; intro ac hA
           refine st_p (Value.int .i64 ((g13 : Nat) : Int)) hA ?_; clear hA ac; intro ac hA
           refine st_p (Value.int .i64 g14) hA ?_; clear hA ac; intro ac hA
           refine st_p (Value.int .i64 ((g13 : Nat) : Int)) hA ?_; clear hA ac; intro ac hA
           refine st_p (Value.int .i64 g14) hA ?_; clear hA ac; intro ac hA
           refine wpList_nil ?_
           refine thenN ?_
           refine wp_seq ?_
           refine wp_cut (fun ac_ wl_ => ∃ d2 : List Int, ∃ pv : Nat, ∃ hh2 : Int, ∃ inc : Bool, (pdq2 d2.toArray lim1 a1 b1 wb wp pv inc = Sort.pdq Sort.ltInt l.toArray a b limit true true) ∧ (d2.length = l.length) ∧ (inc = true ↔ hh2 = 1) ∧ (a1 ≤ pv ∧ pv < b1) ∧ Fm 134 [] [(0, Value.slice A_l n_l c_l), (1, Value.int .i64 ((a1 : Nat) : Int)), (2, Value.int .i64 ((b1 : Nat) : Int)), (3, Value.int .i64 ((lim1 : Nat) : Int)), (8, Value.bool wb), (9, Value.bool wp), (10, Value.int .i64 ((b1 - a1 : Nat) : Int)), (11, Value.int .i64 ((pv : Nat) : Int)), (12, Value.int .i64 hh2)] ac_ ∧ Ws w (· ∈ (srtR A_l n_l c_l l).fp) [rowR 35 1 enU4 (Value.slice A_l n_l c_l) d2] [] wl_) ?_ ?_
           · skip
             refine wp_seq ?_
             refine wp_region_lit ?_
             refine st_p (Value.int .i64 g14) hA ?_; clear hA ac; intro ac hA
             refine st_p (Value.bool ((g14 : Int) == (2 : Int))) hA ?_; clear hA ac; intro ac hA
             refine wpList_nil ?_
             refine thenN ?_
             refine wp_cond_split (t := (g14 : Int) == (2 : Int)) (hA.eval (by kernel_rfl)) (fun h15 => ?_) (fun h15 => ?_)
             · skip
               have h15 := eq_of_beq h15
               first
               | (exfalso; clear hA hW; omega)
               | (
                 refine wp_seq ?_
                 refine wp_region_lit ?_
                 refine st_p (Value.slice A_l n_l c_l) hA ?_; clear hA ac; intro ac hA
                 refine st_p (Value.int .i64 ((a1 : Nat) : Int)) hA ?_; clear hA ac; intro ac hA
                 refine st_p (Value.int .i64 ((b1 : Nat) : Int)) hA ?_; clear hA ac; intro ac hA
                 refine st_s hA (Runs.call (fun _ => by kernel_rfl) (e_rev A_l n_l c_l d1 (a1) (b1) w12 ((hW).get 0 rfl) ((hW).lt _ (List.mem_of_getElem? (i := 0) rfl)) (by first | omega | assumption) (by first | omega | assumption)) ?_)
                 rintro _ w16 ⟨u17, rfl, hw16_hA, hw16_hL, hu_⟩; refine ⟨_, rfl, ?_⟩; replace hW := hW.upd (H' := [rowR 35 1 enU4 (Value.slice A_l n_l c_l) u17]) 0 rfl hu_ rfl; clear hA ac; intro ac hA
                 refine wpList_nil ?_
                 refine thenN ?_
                 refine wp_seq ?_
                 refine wp_region_lit ?_
                 refine st_p (Value.int .i64 ((b1 : Nat) : Int)) hA ?_; clear hA ac; intro ac hA
                 refine st_q (Value.int .i64 ((b1 - 1 : Nat) : Int)) hA hW.cls (Rd.pureE (v0 := Value.int .i64 (IntKind.i64.wrap ((((b1 : Nat) : Int) : Int) - 1))) (fun _ => by kernel_rfl) (congrArg (Value.int .i64) ((w_i64 (x := (((b1 : Nat) : Int) : Int) - 1) (by omega) (by omega)).trans (by omega)))) ?_; clear hA ac; intro ac hA
                 refine st_p (Value.int .i64 ((g13 : Nat) : Int)) hA ?_; clear hA ac; intro ac hA
                 refine st_p (Value.int .i64 ((a1 : Nat) : Int)) hA ?_; clear hA ac; intro ac hA
                 refine st_q (Value.int .i64 ((g13 - a1 : Nat) : Int)) hA hW.cls (Rd.pureE (v0 := Value.int .i64 (IntKind.i64.wrap ((((g13 : Nat) : Int) : Int) - ((a1 : Nat) : Int)))) (fun _ => by kernel_rfl) (congrArg (Value.int .i64) ((w_i64 (x := (((g13 : Nat) : Int) : Int) - ((a1 : Nat) : Int)) (by omega) (by omega)).trans (by omega)))) ?_; clear hA ac; intro ac hA
                 refine st_q (Value.int .i64 (((b1 - 1) - (g13 - a1) : Nat) : Int)) hA hW.cls (Rd.pureE (v0 := Value.int .i64 (IntKind.i64.wrap ((((b1 - 1 : Nat) : Int) : Int) - ((g13 - a1 : Nat) : Int)))) (fun _ => by kernel_rfl) (congrArg (Value.int .i64) ((w_i64 (x := (((b1 - 1 : Nat) : Int) : Int) - ((g13 - a1 : Nat) : Int)) (by omega) (by omega)).trans (by omega)))) ?_; clear hA ac; intro ac hA
                 refine st_p (Value.int .i64 (((b1 - 1) - (g13 - a1) : Nat) : Int)) hA ?_; clear hA ac; intro ac hA
                 refine wpList_nil ?_
                 refine thenN ?_
                 refine wp_region_lit ?_
                 refine st_p (Value.int .i64 1) hA ?_; clear hA ac; intro ac hA
                 refine wpList_nil ?_
                 have hdc_ := hint_dec (hw12_hH.symm.trans (by omega))
                 exact ⟨u17, (b1 - 1) - (g13 - a1), 1, true, by rw [← hq1, p1_dec hdc_, hw16_hA, hw12_hP], by rw [hw16_hL]; exact hl1_, by simp, by omega, hA.sub ⟨⟨by kernel_rfl, by kernel_rfl⟩, ⟨by kernel_rfl, by kernel_rfl⟩, ⟨by kernel_rfl, by kernel_rfl⟩, ⟨by kernel_rfl, by kernel_rfl⟩, ⟨by kernel_rfl, by kernel_rfl⟩, ⟨by kernel_rfl, by kernel_rfl⟩, ⟨by kernel_rfl, by kernel_rfl⟩, ⟨by kernel_rfl, by kernel_rfl⟩, ⟨by kernel_rfl, by kernel_rfl⟩, trivial⟩, (hW.pick [0] (by decide) rfl).pickG [] rfl⟩)
             · skip
               have h15 := ne_of_beq_false h15
               first
               | (exfalso; clear hA hW; omega)
               | (
                 refine wp_skip ?_
                 have hdc_ := hint_nd (fun e_ => absurd (hw12_hH.trans e_) (by omega))
                 exact ⟨d1, g13, g14, (decide ((Sort.choosePivot Sort.ltInt d1.toArray a1 b1).2 = .increasing)), by rw [← hq1, p1_nd hdc_, hw12_hP], by exact hl1_, by rw [hw12_hH]; exact hint_iff, by omega, hA.sub ⟨⟨by kernel_rfl, by kernel_rfl⟩, ⟨by kernel_rfl, by kernel_rfl⟩, ⟨by kernel_rfl, by kernel_rfl⟩, ⟨by kernel_rfl, by kernel_rfl⟩, ⟨by kernel_rfl, by kernel_rfl⟩, ⟨by kernel_rfl, by kernel_rfl⟩, ⟨by kernel_rfl, by kernel_rfl⟩, ⟨by kernel_rfl, by kernel_rfl⟩, ⟨by kernel_rfl, by kernel_rfl⟩, trivial⟩, (hW.pick [0] (by decide) rfl).pickG [] rfl⟩)
           · skip
             clear hA ac hW; rintro ac w18 ⟨d2, pv, hh2, inc, hq2, hl2_, hin, hpv_, hA, hW⟩
             refine thenN ?_
             refine wp_seq ?_
             refine wp_seq ?_
             refine wp_region_lit ?_
             refine st_p (Value.bool wb) hA ?_; clear hA ac; intro ac hA
             refine st_p (Value.bool wb) hA ?_; clear hA ac; intro ac hA
             rcases Bool.eq_false_or_eq_true (wb) with h19 | h19
             · skip
               rw [h19] at hA
               first
               | (exfalso; clear hA hW; omega)
               | (
                 refine st_p (Value.bool wp) hA ?_; clear hA ac; intro ac hA
                 refine st_p (Value.bool wp) hA ?_; clear hA ac; intro ac hA
                 refine st_p (Value.bool wp) hA ?_; clear hA ac; intro ac hA
                 rcases Bool.eq_false_or_eq_true (wp) with h20 | h20
                 · skip
                   rw [h20] at hA
                   first
                   | (exfalso; clear hA hW; omega)
                   | (
                     refine st_p (Value.int .i64 hh2) hA ?_; clear hA ac; intro ac hA
                     refine st_p (Value.bool ((hh2 : Int) == (1 : Int))) hA ?_; clear hA ac; intro ac hA
                     refine st_p (Value.bool ((hh2 : Int) == (1 : Int))) hA ?_; clear hA ac; intro ac hA
                     refine wpList_nil ?_
                     refine thenN ?_
                     refine wp_cond_split (t := (hh2 : Int) == (1 : Int)) (hA.eval (by kernel_rfl)) (fun h21 => ?_) (fun h21 => ?_)
                     · skip
                       have h21 := eq_of_beq h21
                       first
                       | (exfalso; clear hA hW; omega)
                       | (
                         refine wp_seq ?_
                         refine wp_region_lit ?_
                         refine st_p (Value.slice A_l n_l c_l) hA ?_; clear hA ac; intro ac hA
                         refine st_p (Value.int .i64 ((a1 : Nat) : Int)) hA ?_; clear hA ac; intro ac hA
                         refine st_p (Value.int .i64 ((b1 : Nat) : Int)) hA ?_; clear hA ac; intro ac hA
                         refine st_s hA (Runs.callN (v := Value.bool (Sort.partialInsertionSort Sort.ltInt d2.toArray (a1) (b1)).2) (fun _ => by kernel_rfl) hW ((nrow (n := n_l) (m := d2.length) (by omega) (e_pins A_l c_l d2 (a1) (b1) w18 (rowR_at ((hW).get 0 rfl) elt_U4.len) (own_cap ((hW).get 0 rfl)) (by first | omega | assumption) (by first | omega | assumption)))) ?_); clear hA ac hW; intro w22 hW hfw22 ac hA
                         refine wpList_nil ?_
                         refine thenN ?_
                         refine wp_cond_split (t := (Sort.partialInsertionSort Sort.ltInt d2.toArray (a1) (b1)).2) (hA.eval (by kernel_rfl)) (fun h23 => ?_) (fun h23 => ?_)
                         · skip
                           first
                           | (exfalso; clear hA hW; omega)
                           | (
                             refine wp_ret ?_
                             refine thenR ?_
                             refine blkR ?_
                             refine thenR ?_
                             refine blkR ?_
                             refine ret0 (.inl rfl) rfl hA ?_
                             clear hA
                             have hb_wb : wb = true := h19
                             have hb_wp : wp = true := h20
                             have hb_in : inc = true := hin.2 (by omega)
                             have hand_ : (wb && wp && inc) = true := (by simp [hb_wb, hb_wp, hb_in])
                             exact ⟨d2, rfl, by rw [← hq2, p2_t (by omega) hand_ h23], by exact hl2_, (hW.pick [0] (by decide) rfl).updDone 0 rfl⟩)
                         · skip
                           first
                           | (exfalso; clear hA hW; omega)
                           | (
                             refine wp_skip ?_
                             refine thenN ?_
                             refine wp_seq ?_
                             refine wp_seq ?_
                             have hq3 : pdq3 d2.toArray (lim1) a1 b1 wb wp (pv) = Sort.pdq Sort.ltInt l.toArray a b limit true true := by rw [← hq2, p2_f (by omega) h23]
                             refine q_region (by kernel_rfl) (by kernel_rfl) hW ?_
                             refine sq_p (Value.int .i64 ((a1 : Nat) : Int)) hA ?_; clear hA ac; intro ac hA
                             refine sq_p (Value.bool (decide ((((a1 : Nat) : Int) : Int) > (0 : Int)))) hA ?_; clear hA ac; intro ac hA
                             refine sq_p (Value.bool (decide ((((a1 : Nat) : Int) : Int) > (0 : Int)))) hA ?_; clear hA ac; intro ac hA
                             rcases Bool.eq_false_or_eq_true (decide ((((a1 : Nat) : Int) : Int) > (0 : Int))) with h24 | h24
                             · skip
                               rw [h24] at hA
                               have h24 := of_decide_eq_true h24
                               first
                               | (exfalso; clear hA hW; omega)
                               | (
                                 refine sq_p (Value.slice A_l n_l c_l) hA ?_; clear hA ac; intro ac hA
                                 refine sq_p (Value.int .i64 ((a1 : Nat) : Int)) hA ?_; clear hA ac; intro ac hA
                                 refine sq_q (Value.int .i64 ((a1 - 1 : Nat) : Int)) hA (Rd.pureE (v0 := Value.int .i64 (IntKind.i64.wrap ((((a1 : Nat) : Int) : Int) - 1))) (fun _ => by kernel_rfl) (congrArg (Value.int .i64) ((w_i64 (x := (((a1 : Nat) : Int) : Int) - 1) (by omega) (by omega)).trans (by omega)))) ?_; clear hA ac; intro ac hA
                                 obtain ⟨y25, hy25⟩ : ∃ y, d2[a1 - 1]? = some y := ⟨_, List.getElem?_eq_getElem (by first | omega | (simp; done) | (simp; omega))⟩
                                 obtain ⟨b26, o27, rfl, hbb26⟩ := row_some (rowR_at ((hW).get 0 rfl) elt_U4.len) hy25
                                 refine sq_q (Value.pointer (some ⟨b26, o27 + (a1 - 1) * 1, none⟩)) hA (Rd.indexAddr (e := 35) (sz := 1) (b := b26) (off := o27) (n := n_l) (c := c_l) (k := a1 - 1) (by kernel_rfl) (by kernel_rfl) (by first | omega | (simp; done) | (simp; omega)) (fun _ => by kernel_rfl) (fun _ => by kernel_rfl)) ?_; clear hA ac; intro ac hA
                                 refine sq_q (Value.int .u32 y25) hA (Rd.loadRow (b := b26) (i := o27 + (a1 - 1) * 1) (xs := [Value.int .u32 y25]) (by kernel_rfl) (fun _ hw => row_ld (rowR_at ((hw.1).get 0 rfl) elt_U4.len) hy25 (Fr.refl No _) (fun h => h) 0 1 (by kernel_rfl)) (by kernel_rfl)) ?_; clear hA ac; intro ac hA
                                 refine sq_p (Value.slice (some ⟨b26, o27, none⟩) n_l c_l) hA ?_; clear hA ac; intro ac hA
                                 refine sq_p (Value.int .i64 ((pv : Nat) : Int)) hA ?_; clear hA ac; intro ac hA
                                 obtain ⟨y28, hy28⟩ : ∃ y, d2[pv]? = some y := ⟨_, List.getElem?_eq_getElem (by first | omega | (simp; done) | (simp; omega))⟩
                                 refine sq_q (Value.pointer (some ⟨b26, o27 + pv * 1, none⟩)) hA (Rd.indexAddr (e := 35) (sz := 1) (b := b26) (off := o27) (n := n_l) (c := c_l) (k := pv) (by kernel_rfl) (by kernel_rfl) (by first | omega | (simp; done) | (simp; omega)) (fun _ => by kernel_rfl) (fun _ => by kernel_rfl)) ?_; clear hA ac; intro ac hA
                                 refine sq_q (Value.int .u32 y28) hA (Rd.loadRow (b := b26) (i := o27 + pv * 1) (xs := [Value.int .u32 y28]) (by kernel_rfl) (fun _ hw => row_ld (rowR_at ((hw.1).get 0 rfl) elt_U4.len) hy28 (Fr.refl No _) (fun h => h) 0 1 (by kernel_rfl)) (by kernel_rfl)) ?_; clear hA ac; intro ac hA
                                 refine sq_call (v := Value.bool (decide ((y25) < (y28)))) hA (by kernel_rfl) (by kernel_rfl) (by kernel_rfl) (fun _ => by kernel_rfl) (Cls.callNC fun wx hwx => e_less (y25) (y28) wx) ?_; clear hA ac; intro ac hA
                                 refine sq_p (Value.bool (!(decide ((y25) < (y28))))) hA ?_; clear hA ac; intro ac hA
                                 refine sq_p (Value.bool (!(decide ((y25) < (y28))))) hA ?_; clear hA ac; intro ac hA
                                 refine sq_nil ?_; intro w29 hww29; have hW := hww29.1; have hfw29 := hww29.2; clear hww29
                                 refine thenN ?_
                                 refine wp_cond_split (t := !(decide ((y25) < (y28)))) (hA.eval (by kernel_rfl)) (fun h30 => ?_) (fun h30 => ?_)
                                 · skip
                                   have h30 := not_t h30
                                   have h30 := of_decide_eq_false h30
                                   first
                                   | (exfalso; clear hA hW; omega)
                                   | (
                                     refine wp_seq ?_
                                     refine wp_region_lit ?_
                                     refine st_p (Value.slice (some ⟨b26, o27, none⟩) n_l c_l) hA ?_; clear hA ac; intro ac hA
                                     refine st_p (Value.int .i64 ((a1 : Nat) : Int)) hA ?_; clear hA ac; intro ac hA
                                     refine st_p (Value.int .i64 ((b1 : Nat) : Int)) hA ?_; clear hA ac; intro ac hA
                                     refine st_p (Value.int .i64 ((pv : Nat) : Int)) hA ?_; clear hA ac; intro ac hA
                                     refine st_s hA (Runs.call (fun _ => by kernel_rfl) (e_parteq (some ⟨b26, o27, none⟩) n_l c_l d2 (a1) (b1) (pv) w29 ((hW).get 0 rfl) ((hW).lt _ (List.mem_of_getElem? (i := 0) rfl)) (by first | omega | assumption) (by first | omega | assumption)) ?_)
                                     rintro _ w31 ⟨u32, u33, rfl, hw31_hA, hw31_hL, hw31_hR, hu_⟩; refine ⟨_, rfl, ?_⟩; replace hW := hW.upd (H' := [rowR 35 1 enU4 (Value.slice (some ⟨b26, o27, none⟩) n_l c_l) u32]) 0 rfl hu_ rfl; clear hA ac; intro ac hA
                                     refine st_p (Value.int .i64 ((u33 : Nat) : Int)) hA ?_; clear hA ac; intro ac hA
                                     refine wpList_nil ?_
                                     refine thenN ?_
                                     refine wp_seq ?_
                                     refine wp_region_lit ?_
                                     refine st_p (Value.int .i64 ((u33 : Nat) : Int)) hA ?_; clear hA ac; intro ac hA
                                     refine st_p (Value.int .i64 ((u33 : Nat) : Int)) hA ?_; clear hA ac; intro ac hA
                                     refine wpList_nil ?_
                                     refine thenN ?_
                                     refine wp_exit ?_
                                     refine thenX ?_
                                     refine blkX ?_
                                     refine thenN ?_
                                     exact ⟨(b1) - (u33), by omega, u33, b1, lim1, true, true, u32, rfl, by omega, by rw [← hq3, p3_eq (by omega) hy25 hy28 (by omega) hw31_hA hw31_hR, h19, h20], by rw [hw31_hL]; exact hl2_, hA.sub ⟨⟨by kernel_rfl, by kernel_rfl⟩, ⟨by kernel_rfl, by kernel_rfl⟩, ⟨by kernel_rfl, by kernel_rfl⟩, ⟨by kernel_rfl, by kernel_rfl⟩, ⟨by kernel_rfl, by kernel_rfl⟩, ⟨by kernel_rfl, by kernel_rfl⟩, trivial⟩, (hW.pick [0] (by decide) rfl).pickG [] rfl⟩)
                                 · skip
                                   have h30 := not_f h30
                                   have h30 := of_decide_eq_true h30
                                   first
                                   | (exfalso; clear hA hW; omega)
                                   | (
                                     refine wp_skip ?_
                                     refine thenN ?_
                                     refine wp_seq ?_
                                     have hc3_ : a1 = 0 ∨ ∃ x y, d2[a1 - 1]? = some x ∧ d2[pv]? = some y ∧ x < y := .inr ⟨_, _, hy25, hy28, by omega⟩
                                     refine wp_region_lit ?_
                                     refine st_p (Value.slice (some ⟨b26, o27, none⟩) n_l c_l) hA ?_; clear hA ac; intro ac hA
                                     refine st_p (Value.int .i64 ((a1 : Nat) : Int)) hA ?_; clear hA ac; intro ac hA
                                     refine st_p (Value.int .i64 ((b1 : Nat) : Int)) hA ?_; clear hA ac; intro ac hA
                                     refine st_p (Value.int .i64 ((pv : Nat) : Int)) hA ?_; clear hA ac; intro ac hA
                                     refine st_s hA (Runs.call (fun _ => by kernel_rfl) (e_part (some ⟨b26, o27, none⟩) n_l c_l d2 (a1) (b1) (pv) w29 ((hW).get 0 rfl) ((hW).lt _ (List.mem_of_getElem? (i := 0) rfl)) (by first | omega | assumption) (by first | omega | assumption)) ?_)
                                     rintro _ w34 ⟨u35, u36, u37, rfl, hw34_hA, hw34_hL, hw34_hR, hu_⟩; refine ⟨_, rfl, ?_⟩; replace hW := hW.upd (H' := [rowR 35 1 enU4 (Value.slice (some ⟨b26, o27, none⟩) n_l c_l) u35]) 0 rfl hu_ rfl; clear hA ac; intro ac hA
                                     refine st_p (Value.tuple #[Value.int .i64 ((u36 : Nat) : Int), Value.bool u37]) hA ?_; clear hA ac; intro ac hA
                                     refine st_p (Value.int .i64 ((u36 : Nat) : Int)) hA ?_; clear hA ac; intro ac hA
                                     refine st_p (Value.bool u37) hA ?_; clear hA ac; intro ac hA
                                     refine st_p (Value.int .i64 ((u36 : Nat) : Int)) hA ?_; clear hA ac; intro ac hA
                                     refine st_p (Value.bool u37) hA ?_; clear hA ac; intro ac hA
                                     refine wpList_nil ?_
                                     refine thenN ?_
                                     refine wp_seq ?_
                                     refine wp_region_lit ?_
                                     refine st_p (Value.bool u37) hA ?_; clear hA ac; intro ac hA
                                     refine st_p (Value.bool u37) hA ?_; clear hA ac; intro ac hA
                                     refine wpList_nil ?_
                                     refine thenN ?_
                                     refine wp_seq ?_
                                     refine wp_region_lit ?_
                                     refine st_p (Value.int .i64 ((u36 : Nat) : Int)) hA ?_; clear hA ac; intro ac hA
                                     refine st_p (Value.int .i64 ((a1 : Nat) : Int)) hA ?_; clear hA ac; intro ac hA
                                     refine st_q (Value.int .i64 ((u36 - a1 : Nat) : Int)) hA hW.cls (Rd.pureE (v0 := Value.int .i64 (IntKind.i64.wrap ((((u36 : Nat) : Int) : Int) - ((a1 : Nat) : Int)))) (fun _ => by kernel_rfl) (congrArg (Value.int .i64) ((w_i64 (x := (((u36 : Nat) : Int) : Int) - ((a1 : Nat) : Int)) (by omega) (by omega)).trans (by omega)))) ?_; clear hA ac; intro ac hA
                                     refine st_p (Value.int .i64 ((b1 : Nat) : Int)) hA ?_; clear hA ac; intro ac hA
                                     refine st_p (Value.int .i64 ((u36 : Nat) : Int)) hA ?_; clear hA ac; intro ac hA
                                     refine st_q (Value.int .i64 ((b1 - u36 : Nat) : Int)) hA hW.cls (Rd.pureE (v0 := Value.int .i64 (IntKind.i64.wrap ((((b1 : Nat) : Int) : Int) - ((u36 : Nat) : Int)))) (fun _ => by kernel_rfl) (congrArg (Value.int .i64) ((w_i64 (x := (((b1 : Nat) : Int) : Int) - ((u36 : Nat) : Int)) (by omega) (by omega)).trans (by omega)))) ?_; clear hA ac; intro ac hA
                                     refine st_p (Value.int .i64 ((u36 - a1 : Nat) : Int)) hA ?_; clear hA ac; intro ac hA
                                     refine st_p (Value.int .i64 ((b1 - u36 : Nat) : Int)) hA ?_; clear hA ac; intro ac hA
                                     refine wpList_nil ?_
                                     refine thenN ?_
                                     refine wp_seq ?_
                                     refine wp_region_lit ?_
                                     refine st_p (Value.int .i64 ((b1 - a1 : Nat) : Int)) hA ?_; clear hA ac; intro ac hA
                                     refine st_q (Value.int .i64 (((b1 - a1) / 8 : Nat) : Int)) hA hW.cls (Rd.pureE (v0 := Value.int .i64 (IntKind.i64.wrap (Int.tdiv (((b1 - a1 : Nat) : Int) : Int) 8))) (fun _ => by kernel_rfl) (congrArg (Value.int .i64) ((congrArg IntKind.i64.wrap (quo_ (x := ((b1 - a1 : Nat) : Int)) (by omega))).trans (w_i64 (by omega) (by omega))))) ?_; clear hA ac; intro ac hA
                                     refine st_p (Value.int .i64 (((b1 - a1) / 8 : Nat) : Int)) hA ?_; clear hA ac; intro ac hA
                                     refine wpList_nil ?_
                                     refine thenN ?_
                                     refine wp_seq ?_
                                     refine wp_region_lit ?_
                                     refine st_p (Value.int .i64 ((u36 - a1 : Nat) : Int)) hA ?_; clear hA ac; intro ac hA
                                     refine st_p (Value.int .i64 ((b1 - u36 : Nat) : Int)) hA ?_; clear hA ac; intro ac hA
                                     refine st_p (Value.bool (decide ((((u36 - a1 : Nat) : Int) : Int) < (((b1 - u36 : Nat) : Int) : Int)))) hA ?_; clear hA ac; intro ac hA
                                     refine wpList_nil ?_
                                     refine thenN ?_
                                     refine wp_cond_split (t := decide ((((u36 - a1 : Nat) : Int) : Int) < (((b1 - u36 : Nat) : Int) : Int))) (hA.eval (by kernel_rfl)) (fun h38 => ?_) (fun h38 => ?_)
                                     · skip
                                       have h38 := of_decide_eq_true h38
                                       first
                                       | (exfalso; clear hA hW; omega)
                                       | (
                                         refine wp_seq ?_
                                         refine wp_region_lit ?_
                                         refine st_p (Value.int .i64 ((u36 - a1 : Nat) : Int)) hA ?_; clear hA ac; intro ac hA
                                         refine st_p (Value.int .i64 (((b1 - a1) / 8 : Nat) : Int)) hA ?_; clear hA ac; intro ac hA
                                         refine st_p (Value.bool (decide ((((u36 - a1 : Nat) : Int) : Int) ≥ ((((b1 - a1) / 8 : Nat) : Int) : Int)))) hA ?_; clear hA ac; intro ac hA
                                         refine st_p (Value.bool (decide ((((u36 - a1 : Nat) : Int) : Int) ≥ ((((b1 - a1) / 8 : Nat) : Int) : Int)))) hA ?_; clear hA ac; intro ac hA
                                         refine wpList_nil ?_
                                         refine thenN ?_
                                         refine wp_seq ?_
                                         refine wp_region_lit ?_
                                         refine st_p (Value.slice (some ⟨b26, o27, none⟩) n_l c_l) hA ?_; clear hA ac; intro ac hA
                                         refine st_p (Value.int .i64 ((a1 : Nat) : Int)) hA ?_; clear hA ac; intro ac hA
                                         refine st_p (Value.int .i64 ((u36 : Nat) : Int)) hA ?_; clear hA ac; intro ac hA
                                         refine st_p (Value.int .i64 ((lim1 : Nat) : Int)) hA ?_; clear hA ac; intro ac hA
                                         refine st_s hA (Runs.call (fun _ => by kernel_rfl) (hrec (some ⟨b26, o27, none⟩) n_l c_l u35 (a1) (u36) (lim1) w34 ((hW).get 0 rfl) ((hW).lt _ (List.mem_of_getElem? (i := 0) rfl)) (by first | omega | assumption) (by first | omega | assumption) (by first | omega | assumption)) ?_)
                                         rintro _ w39 ⟨u40, rfl, hw39_hA, hw39_hL, hu_⟩; refine ⟨_, rfl, ?_⟩; replace hW := hW.upd (H' := [rowR 35 1 enU4 (Value.slice (some ⟨b26, o27, none⟩) n_l c_l) u40]) 0 rfl hu_ rfl; clear hA ac; intro ac hA
                                         refine wpList_nil ?_
                                         refine thenN ?_
                                         refine wp_region_lit ?_
                                         refine st_p (Value.int .i64 ((u36 : Nat) : Int)) hA ?_; clear hA ac; intro ac hA
                                         refine st_q (Value.int .i64 ((u36 + 1 : Nat) : Int)) hA hW.cls (Rd.pureE (v0 := Value.int .i64 (IntKind.i64.wrap ((((u36 : Nat) : Int) : Int) + 1))) (fun _ => by kernel_rfl) (congrArg (Value.int .i64) ((w_i64 (x := (((u36 : Nat) : Int) : Int) + 1) (by omega) (by omega)).trans (by omega)))) ?_; clear hA ac; intro ac hA
                                         refine st_p (Value.int .i64 ((u36 + 1 : Nat) : Int)) hA ?_; clear hA ac; intro ac hA
                                         refine wpList_nil ?_
                                         refine blkN ?_
                                         refine thenN ?_
                                         exact ⟨(b1) - (u36 + 1), by omega, u36 + 1, b1, lim1, decide ((((u36 - a1 : Nat) : Int) : Int) ≥ ((((b1 - a1) / 8 : Nat) : Int) : Int)), u37, u40, rfl, by omega, by rw [← hq3, p3_l hc3_ hw34_hA hw34_hR (by omega) hw39_hA]; congr 1; exact decide_eq_decide.2 (by omega), by rw [hw39_hL, hw34_hL]; exact hl2_, hA.sub ⟨⟨by kernel_rfl, by kernel_rfl⟩, ⟨by kernel_rfl, by kernel_rfl⟩, ⟨by kernel_rfl, by kernel_rfl⟩, ⟨by kernel_rfl, by kernel_rfl⟩, ⟨by kernel_rfl, by kernel_rfl⟩, ⟨by kernel_rfl, by kernel_rfl⟩, trivial⟩, (hW.pick [0] (by decide) rfl).pickG [] rfl⟩)
                                     · skip
                                       have h38 := of_decide_eq_false h38
                                       first
                                       | (exfalso; clear hA hW; omega)
                                       | (
                                         refine wp_seq ?_
                                         refine wp_region_lit ?_
                                         refine st_p (Value.int .i64 ((b1 - u36 : Nat) : Int)) hA ?_; clear hA ac; intro ac hA
                                         refine st_p (Value.int .i64 (((b1 - a1) / 8 : Nat) : Int)) hA ?_; clear hA ac; intro ac hA
                                         refine st_p (Value.bool (decide ((((b1 - u36 : Nat) : Int) : Int) ≥ ((((b1 - a1) / 8 : Nat) : Int) : Int)))) hA ?_; clear hA ac; intro ac hA
                                         refine st_p (Value.bool (decide ((((b1 - u36 : Nat) : Int) : Int) ≥ ((((b1 - a1) / 8 : Nat) : Int) : Int)))) hA ?_; clear hA ac; intro ac hA
                                         refine wpList_nil ?_
                                         refine thenN ?_
                                         refine wp_seq ?_
                                         refine wp_region_lit ?_
                                         refine st_p (Value.slice (some ⟨b26, o27, none⟩) n_l c_l) hA ?_; clear hA ac; intro ac hA
                                         refine st_p (Value.int .i64 ((u36 : Nat) : Int)) hA ?_; clear hA ac; intro ac hA
                                         refine st_q (Value.int .i64 ((u36 + 1 : Nat) : Int)) hA hW.cls (Rd.pureE (v0 := Value.int .i64 (IntKind.i64.wrap ((((u36 : Nat) : Int) : Int) + 1))) (fun _ => by kernel_rfl) (congrArg (Value.int .i64) ((w_i64 (x := (((u36 : Nat) : Int) : Int) + 1) (by omega) (by omega)).trans (by omega)))) ?_; clear hA ac; intro ac hA
                                         refine st_p (Value.int .i64 ((b1 : Nat) : Int)) hA ?_; clear hA ac; intro ac hA
                                         refine st_p (Value.int .i64 ((lim1 : Nat) : Int)) hA ?_; clear hA ac; intro ac hA
                                         refine st_s hA (Runs.call (fun _ => by kernel_rfl) (hrec (some ⟨b26, o27, none⟩) n_l c_l u35 (u36 + 1) (b1) (lim1) w34 ((hW).get 0 rfl) ((hW).lt _ (List.mem_of_getElem? (i := 0) rfl)) (by first | omega | assumption) (by first | omega | assumption) (by first | omega | assumption)) ?_)
                                         rintro _ w41 ⟨u42, rfl, hw41_hA, hw41_hL, hu_⟩; refine ⟨_, rfl, ?_⟩; replace hW := hW.upd (H' := [rowR 35 1 enU4 (Value.slice (some ⟨b26, o27, none⟩) n_l c_l) u42]) 0 rfl hu_ rfl; clear hA ac; intro ac hA
                                         refine wpList_nil ?_
                                         refine thenN ?_
                                         refine wp_region_lit ?_
                                         refine st_p (Value.int .i64 ((u36 : Nat) : Int)) hA ?_; clear hA ac; intro ac hA
                                         refine st_p (Value.int .i64 ((u36 : Nat) : Int)) hA ?_; clear hA ac; intro ac hA
                                         refine wpList_nil ?_
                                         refine blkN ?_
                                         refine thenN ?_
                                         exact ⟨(u36) - (a1), by omega, a1, u36, lim1, decide ((((b1 - u36 : Nat) : Int) : Int) ≥ ((((b1 - a1) / 8 : Nat) : Int) : Int)), u37, u42, rfl, by omega, by rw [← hq3, p3_r hc3_ hw34_hA hw34_hR (by omega) hw41_hA]; congr 1; exact decide_eq_decide.2 (by omega), by rw [hw41_hL, hw34_hL]; exact hl2_, hA.sub ⟨⟨by kernel_rfl, by kernel_rfl⟩, ⟨by kernel_rfl, by kernel_rfl⟩, ⟨by kernel_rfl, by kernel_rfl⟩, ⟨by kernel_rfl, by kernel_rfl⟩, ⟨by kernel_rfl, by kernel_rfl⟩, ⟨by kernel_rfl, by kernel_rfl⟩, trivial⟩, (hW.pick [0] (by decide) rfl).pickG [] rfl⟩)))
                             · skip
                               rw [h24] at hA
                               have h24 := of_decide_eq_false h24
                               first
                               | (exfalso; clear hA hW; omega)
                               | (
                                 refine sq_k hA ?_; clear hA ac; intro ac hA
                                 refine sq_k hA ?_; clear hA ac; intro ac hA
                                 refine sq_k hA ?_; clear hA ac; intro ac hA
                                 refine sq_k hA ?_; clear hA ac; intro ac hA
                                 refine sq_k hA ?_; clear hA ac; intro ac hA
                                 refine sq_k hA ?_; clear hA ac; intro ac hA
                                 refine sq_k hA ?_; clear hA ac; intro ac hA
                                 refine sq_k hA ?_; clear hA ac; intro ac hA
                                 refine sq_k hA ?_; clear hA ac; intro ac hA
                                 refine sq_k hA ?_; clear hA ac; intro ac hA
                                 refine sq_k hA ?_; clear hA ac; intro ac hA
                                 refine sq_p (Value.bool false) hA ?_; clear hA ac; intro ac hA
                                 refine sq_nil ?_; intro w43 hww43; have hW := hww43.1; have hfw43 := hww43.2; clear hww43
                                 refine thenN ?_
                                 refine wp_cond_false (hA.eval (by kernel_rfl)) ?_
                                 refine wp_skip ?_
                                 refine thenN ?_
                                 refine wp_seq ?_
                                 have hc3_ : a1 = 0 ∨ ∃ x y, d2[a1 - 1]? = some x ∧ d2[pv]? = some y ∧ x < y := .inl (by omega)
                                 refine wp_region_lit ?_
                                 refine st_p (Value.slice A_l n_l c_l) hA ?_; clear hA ac; intro ac hA
                                 refine st_p (Value.int .i64 ((a1 : Nat) : Int)) hA ?_; clear hA ac; intro ac hA
                                 refine st_p (Value.int .i64 ((b1 : Nat) : Int)) hA ?_; clear hA ac; intro ac hA
                                 refine st_p (Value.int .i64 ((pv : Nat) : Int)) hA ?_; clear hA ac; intro ac hA
                                 refine st_s hA (Runs.call (fun _ => by kernel_rfl) (e_part A_l n_l c_l d2 (a1) (b1) (pv) w43 ((hW).get 0 rfl) ((hW).lt _ (List.mem_of_getElem? (i := 0) rfl)) (by first | omega | assumption) (by first | omega | assumption)) ?_)
                                 rintro _ w44 ⟨u45, u46, u47, rfl, hw44_hA, hw44_hL, hw44_hR, hu_⟩; refine ⟨_, rfl, ?_⟩; replace hW := hW.upd (H' := [rowR 35 1 enU4 (Value.slice A_l n_l c_l) u45]) 0 rfl hu_ rfl; clear hA ac; intro ac hA
                                 refine st_p (Value.tuple #[Value.int .i64 ((u46 : Nat) : Int), Value.bool u47]) hA ?_; clear hA ac; intro ac hA
                                 refine st_p (Value.int .i64 ((u46 : Nat) : Int)) hA ?_; clear hA ac; intro ac hA
                                 refine st_p (Value.bool u47) hA ?_; clear hA ac; intro ac hA
                                 refine st_p (Value.int .i64 ((u46 : Nat) : Int)) hA ?_; clear hA ac; intro ac hA
                                 refine st_p (Value.bool u47) hA ?_; clear hA ac; intro ac hA
                                 refine wpList_nil ?_
                                 refine thenN ?_
                                 refine wp_seq ?_
                                 refine wp_region_lit ?_
                                 refine st_p (Value.bool u47) hA ?_; clear hA ac; intro ac hA
                                 refine st_p (Value.bool u47) hA ?_; clear hA ac; intro ac hA
                                 refine wpList_nil ?_
                                 refine thenN ?_
                                 refine wp_seq ?_
                                 refine wp_region_lit ?_
                                 refine st_p (Value.int .i64 ((u46 : Nat) : Int)) hA ?_; clear hA ac; intro ac hA
                                 refine st_p (Value.int .i64 ((a1 : Nat) : Int)) hA ?_; clear hA ac; intro ac hA
                                 refine st_q (Value.int .i64 ((u46 - a1 : Nat) : Int)) hA hW.cls (Rd.pureE (v0 := Value.int .i64 (IntKind.i64.wrap ((((u46 : Nat) : Int) : Int) - ((a1 : Nat) : Int)))) (fun _ => by kernel_rfl) (congrArg (Value.int .i64) ((w_i64 (x := (((u46 : Nat) : Int) : Int) - ((a1 : Nat) : Int)) (by omega) (by omega)).trans (by omega)))) ?_; clear hA ac; intro ac hA
                                 refine st_p (Value.int .i64 ((b1 : Nat) : Int)) hA ?_; clear hA ac; intro ac hA
                                 refine st_p (Value.int .i64 ((u46 : Nat) : Int)) hA ?_; clear hA ac; intro ac hA
                                 refine st_q (Value.int .i64 ((b1 - u46 : Nat) : Int)) hA hW.cls (Rd.pureE (v0 := Value.int .i64 (IntKind.i64.wrap ((((b1 : Nat) : Int) : Int) - ((u46 : Nat) : Int)))) (fun _ => by kernel_rfl) (congrArg (Value.int .i64) ((w_i64 (x := (((b1 : Nat) : Int) : Int) - ((u46 : Nat) : Int)) (by omega) (by omega)).trans (by omega)))) ?_; clear hA ac; intro ac hA
                                 refine st_p (Value.int .i64 ((u46 - a1 : Nat) : Int)) hA ?_; clear hA ac; intro ac hA
                                 refine st_p (Value.int .i64 ((b1 - u46 : Nat) : Int)) hA ?_; clear hA ac; intro ac hA
                                 refine wpList_nil ?_
                                 refine thenN ?_
                                 refine wp_seq ?_
                                 refine wp_region_lit ?_
                                 refine st_p (Value.int .i64 ((b1 - a1 : Nat) : Int)) hA ?_; clear hA ac; intro ac hA
                                 refine st_q (Value.int .i64 (((b1 - a1) / 8 : Nat) : Int)) hA hW.cls (Rd.pureE (v0 := Value.int .i64 (IntKind.i64.wrap (Int.tdiv (((b1 - a1 : Nat) : Int) : Int) 8))) (fun _ => by kernel_rfl) (congrArg (Value.int .i64) ((congrArg IntKind.i64.wrap (quo_ (x := ((b1 - a1 : Nat) : Int)) (by omega))).trans (w_i64 (by omega) (by omega))))) ?_; clear hA ac; intro ac hA
                                 refine st_p (Value.int .i64 (((b1 - a1) / 8 : Nat) : Int)) hA ?_; clear hA ac; intro ac hA
                                 refine wpList_nil ?_
                                 refine thenN ?_
                                 refine wp_seq ?_
                                 refine wp_region_lit ?_
                                 refine st_p (Value.int .i64 ((u46 - a1 : Nat) : Int)) hA ?_; clear hA ac; intro ac hA
                                 refine st_p (Value.int .i64 ((b1 - u46 : Nat) : Int)) hA ?_; clear hA ac; intro ac hA
                                 refine st_p (Value.bool (decide ((((u46 - a1 : Nat) : Int) : Int) < (((b1 - u46 : Nat) : Int) : Int)))) hA ?_; clear hA ac; intro ac hA
                                 refine wpList_nil ?_
                                 refine thenN ?_
                                 refine wp_cond_split (t := decide ((((u46 - a1 : Nat) : Int) : Int) < (((b1 - u46 : Nat) : Int) : Int))) (hA.eval (by kernel_rfl)) (fun h48 => ?_) (fun h48 => ?_)
                                 · skip
                                   have h48 := of_decide_eq_true h48
                                   first
                                   | (exfalso; clear hA hW; omega)
                                   | (
                                     refine wp_seq ?_
                                     refine wp_region_lit ?_
                                     refine st_p (Value.int .i64 ((u46 - a1 : Nat) : Int)) hA ?_; clear hA ac; intro ac hA
                                     refine st_p (Value.int .i64 (((b1 - a1) / 8 : Nat) : Int)) hA ?_; clear hA ac; intro ac hA
                                     refine st_p (Value.bool (decide ((((u46 - a1 : Nat) : Int) : Int) ≥ ((((b1 - a1) / 8 : Nat) : Int) : Int)))) hA ?_; clear hA ac; intro ac hA
                                     refine st_p (Value.bool (decide ((((u46 - a1 : Nat) : Int) : Int) ≥ ((((b1 - a1) / 8 : Nat) : Int) : Int)))) hA ?_; clear hA ac; intro ac hA
                                     refine wpList_nil ?_
                                     refine thenN ?_
                                     refine wp_seq ?_
                                     refine wp_region_lit ?_
                                     refine st_p (Value.slice A_l n_l c_l) hA ?_; clear hA ac; intro ac hA
                                     refine st_p (Value.int .i64 ((a1 : Nat) : Int)) hA ?_; clear hA ac; intro ac hA
                                     refine st_p (Value.int .i64 ((u46 : Nat) : Int)) hA ?_; clear hA ac; intro ac hA
                                     refine st_p (Value.int .i64 ((lim1 : Nat) : Int)) hA ?_; clear hA ac; intro ac hA
                                     refine st_s hA (Runs.call (fun _ => by kernel_rfl) (hrec A_l n_l c_l u45 (a1) (u46) (lim1) w44 ((hW).get 0 rfl) ((hW).lt _ (List.mem_of_getElem? (i := 0) rfl)) (by first | omega | assumption) (by first | omega | assumption) (by first | omega | assumption)) ?_)
                                     rintro _ w49 ⟨u50, rfl, hw49_hA, hw49_hL, hu_⟩; refine ⟨_, rfl, ?_⟩; replace hW := hW.upd (H' := [rowR 35 1 enU4 (Value.slice A_l n_l c_l) u50]) 0 rfl hu_ rfl; clear hA ac; intro ac hA
                                     refine wpList_nil ?_
                                     refine thenN ?_
                                     refine wp_region_lit ?_
                                     refine st_p (Value.int .i64 ((u46 : Nat) : Int)) hA ?_; clear hA ac; intro ac hA
                                     refine st_q (Value.int .i64 ((u46 + 1 : Nat) : Int)) hA hW.cls (Rd.pureE (v0 := Value.int .i64 (IntKind.i64.wrap ((((u46 : Nat) : Int) : Int) + 1))) (fun _ => by kernel_rfl) (congrArg (Value.int .i64) ((w_i64 (x := (((u46 : Nat) : Int) : Int) + 1) (by omega) (by omega)).trans (by omega)))) ?_; clear hA ac; intro ac hA
                                     refine st_p (Value.int .i64 ((u46 + 1 : Nat) : Int)) hA ?_; clear hA ac; intro ac hA
                                     refine wpList_nil ?_
                                     refine blkN ?_
                                     refine thenN ?_
                                     exact ⟨(b1) - (u46 + 1), by omega, u46 + 1, b1, lim1, decide ((((u46 - a1 : Nat) : Int) : Int) ≥ ((((b1 - a1) / 8 : Nat) : Int) : Int)), u47, u50, rfl, by omega, by rw [← hq3, p3_l hc3_ hw44_hA hw44_hR (by omega) hw49_hA]; congr 1; exact decide_eq_decide.2 (by omega), by rw [hw49_hL, hw44_hL]; exact hl2_, hA.sub ⟨⟨by kernel_rfl, by kernel_rfl⟩, ⟨by kernel_rfl, by kernel_rfl⟩, ⟨by kernel_rfl, by kernel_rfl⟩, ⟨by kernel_rfl, by kernel_rfl⟩, ⟨by kernel_rfl, by kernel_rfl⟩, ⟨by kernel_rfl, by kernel_rfl⟩, trivial⟩, (hW.pick [0] (by decide) rfl).pickG [] rfl⟩)
                                 · skip
                                   have h48 := of_decide_eq_false h48
                                   first
                                   | (exfalso; clear hA hW; omega)
                                   | (
                                     refine wp_seq ?_
                                     refine wp_region_lit ?_
                                     refine st_p (Value.int .i64 ((b1 - u46 : Nat) : Int)) hA ?_; clear hA ac; intro ac hA
                                     refine st_p (Value.int .i64 (((b1 - a1) / 8 : Nat) : Int)) hA ?_; clear hA ac; intro ac hA
                                     refine st_p (Value.bool (decide ((((b1 - u46 : Nat) : Int) : Int) ≥ ((((b1 - a1) / 8 : Nat) : Int) : Int)))) hA ?_; clear hA ac; intro ac hA
                                     refine st_p (Value.bool (decide ((((b1 - u46 : Nat) : Int) : Int) ≥ ((((b1 - a1) / 8 : Nat) : Int) : Int)))) hA ?_; clear hA ac; intro ac hA
                                     refine wpList_nil ?_
                                     refine thenN ?_
                                     refine wp_seq ?_
                                     refine wp_region_lit ?_
                                     refine st_p (Value.slice A_l n_l c_l) hA ?_; clear hA ac; intro ac hA
                                     refine st_p (Value.int .i64 ((u46 : Nat) : Int)) hA ?_; clear hA ac; intro ac hA
                                     refine st_q (Value.int .i64 ((u46 + 1 : Nat) : Int)) hA hW.cls (Rd.pureE (v0 := Value.int .i64 (IntKind.i64.wrap ((((u46 : Nat) : Int) : Int) + 1))) (fun _ => by kernel_rfl) (congrArg (Value.int .i64) ((w_i64 (x := (((u46 : Nat) : Int) : Int) + 1) (by omega) (by omega)).trans (by omega)))) ?_; clear hA ac; intro ac hA
                                     refine st_p (Value.int .i64 ((b1 : Nat) : Int)) hA ?_; clear hA ac; intro ac hA
                                     refine st_p (Value.int .i64 ((lim1 : Nat) : Int)) hA ?_; clear hA ac; intro ac hA
                                     refine st_s hA (Runs.call (fun _ => by kernel_rfl) (hrec A_l n_l c_l u45 (u46 + 1) (b1) (lim1) w44 ((hW).get 0 rfl) ((hW).lt _ (List.mem_of_getElem? (i := 0) rfl)) (by first | omega | assumption) (by first | omega | assumption) (by first | omega | assumption)) ?_)
                                     rintro _ w51 ⟨u52, rfl, hw51_hA, hw51_hL, hu_⟩; refine ⟨_, rfl, ?_⟩; replace hW := hW.upd (H' := [rowR 35 1 enU4 (Value.slice A_l n_l c_l) u52]) 0 rfl hu_ rfl; clear hA ac; intro ac hA
                                     refine wpList_nil ?_
                                     refine thenN ?_
                                     refine wp_region_lit ?_
                                     refine st_p (Value.int .i64 ((u46 : Nat) : Int)) hA ?_; clear hA ac; intro ac hA
                                     refine st_p (Value.int .i64 ((u46 : Nat) : Int)) hA ?_; clear hA ac; intro ac hA
                                     refine wpList_nil ?_
                                     refine blkN ?_
                                     refine thenN ?_
                                     exact ⟨(u46) - (a1), by omega, a1, u46, lim1, decide ((((b1 - u46 : Nat) : Int) : Int) ≥ ((((b1 - a1) / 8 : Nat) : Int) : Int)), u47, u52, rfl, by omega, by rw [← hq3, p3_r hc3_ hw44_hA hw44_hR (by omega) hw51_hA]; congr 1; exact decide_eq_decide.2 (by omega), by rw [hw51_hL, hw44_hL]; exact hl2_, hA.sub ⟨⟨by kernel_rfl, by kernel_rfl⟩, ⟨by kernel_rfl, by kernel_rfl⟩, ⟨by kernel_rfl, by kernel_rfl⟩, ⟨by kernel_rfl, by kernel_rfl⟩, ⟨by kernel_rfl, by kernel_rfl⟩, ⟨by kernel_rfl, by kernel_rfl⟩, trivial⟩, (hW.pick [0] (by decide) rfl).pickG [] rfl⟩))))
                     · skip
                       have h21 := ne_of_beq_false h21
                       first
                       | (exfalso; clear hA hW; omega)
                       | (
                         refine wp_skip ?_
                         refine thenN ?_
                         refine wp_seq ?_
                         refine wp_seq ?_
                         have hb_wb : wb = true := h19
                         have hb_wp : wp = true := h20
                         have hb_in : inc = false := Bool.eq_false_iff.2 (fun e_ => absurd (hin.1 e_) (by omega))
                         have hand_ : (wb && wp && inc) = false := (by simp [hb_wb, hb_wp, hb_in])
                         have hq3 : pdq3 d2.toArray (lim1) a1 b1 wb wp (pv) = Sort.pdq Sort.ltInt l.toArray a b limit true true := by rw [← hq2, p2_no hand_]
                         refine q_region (by kernel_rfl) (by kernel_rfl) hW ?_
                         refine sq_p (Value.int .i64 ((a1 : Nat) : Int)) hA ?_; clear hA ac; intro ac hA
                         refine sq_p (Value.bool (decide ((((a1 : Nat) : Int) : Int) > (0 : Int)))) hA ?_; clear hA ac; intro ac hA
                         refine sq_p (Value.bool (decide ((((a1 : Nat) : Int) : Int) > (0 : Int)))) hA ?_; clear hA ac; intro ac hA
                         rcases Bool.eq_false_or_eq_true (decide ((((a1 : Nat) : Int) : Int) > (0 : Int))) with h53 | h53
                         · skip
                           rw [h53] at hA
                           have h53 := of_decide_eq_true h53
                           first
                           | (exfalso; clear hA hW; omega)
                           | (
                             refine sq_p (Value.slice A_l n_l c_l) hA ?_; clear hA ac; intro ac hA
                             refine sq_p (Value.int .i64 ((a1 : Nat) : Int)) hA ?_; clear hA ac; intro ac hA
                             refine sq_q (Value.int .i64 ((a1 - 1 : Nat) : Int)) hA (Rd.pureE (v0 := Value.int .i64 (IntKind.i64.wrap ((((a1 : Nat) : Int) : Int) - 1))) (fun _ => by kernel_rfl) (congrArg (Value.int .i64) ((w_i64 (x := (((a1 : Nat) : Int) : Int) - 1) (by omega) (by omega)).trans (by omega)))) ?_; clear hA ac; intro ac hA
                             obtain ⟨y54, hy54⟩ : ∃ y, d2[a1 - 1]? = some y := ⟨_, List.getElem?_eq_getElem (by first | omega | (simp; done) | (simp; omega))⟩
                             obtain ⟨b55, o56, rfl, hbb55⟩ := row_some (rowR_at ((hW).get 0 rfl) elt_U4.len) hy54
                             refine sq_q (Value.pointer (some ⟨b55, o56 + (a1 - 1) * 1, none⟩)) hA (Rd.indexAddr (e := 35) (sz := 1) (b := b55) (off := o56) (n := n_l) (c := c_l) (k := a1 - 1) (by kernel_rfl) (by kernel_rfl) (by first | omega | (simp; done) | (simp; omega)) (fun _ => by kernel_rfl) (fun _ => by kernel_rfl)) ?_; clear hA ac; intro ac hA
                             refine sq_q (Value.int .u32 y54) hA (Rd.loadRow (b := b55) (i := o56 + (a1 - 1) * 1) (xs := [Value.int .u32 y54]) (by kernel_rfl) (fun _ hw => row_ld (rowR_at ((hw.1).get 0 rfl) elt_U4.len) hy54 (Fr.refl No _) (fun h => h) 0 1 (by kernel_rfl)) (by kernel_rfl)) ?_; clear hA ac; intro ac hA
                             refine sq_p (Value.slice (some ⟨b55, o56, none⟩) n_l c_l) hA ?_; clear hA ac; intro ac hA
                             refine sq_p (Value.int .i64 ((pv : Nat) : Int)) hA ?_; clear hA ac; intro ac hA
                             obtain ⟨y57, hy57⟩ : ∃ y, d2[pv]? = some y := ⟨_, List.getElem?_eq_getElem (by first | omega | (simp; done) | (simp; omega))⟩
                             refine sq_q (Value.pointer (some ⟨b55, o56 + pv * 1, none⟩)) hA (Rd.indexAddr (e := 35) (sz := 1) (b := b55) (off := o56) (n := n_l) (c := c_l) (k := pv) (by kernel_rfl) (by kernel_rfl) (by first | omega | (simp; done) | (simp; omega)) (fun _ => by kernel_rfl) (fun _ => by kernel_rfl)) ?_; clear hA ac; intro ac hA
                             refine sq_q (Value.int .u32 y57) hA (Rd.loadRow (b := b55) (i := o56 + pv * 1) (xs := [Value.int .u32 y57]) (by kernel_rfl) (fun _ hw => row_ld (rowR_at ((hw.1).get 0 rfl) elt_U4.len) hy57 (Fr.refl No _) (fun h => h) 0 1 (by kernel_rfl)) (by kernel_rfl)) ?_; clear hA ac; intro ac hA
                             refine sq_call (v := Value.bool (decide ((y54) < (y57)))) hA (by kernel_rfl) (by kernel_rfl) (by kernel_rfl) (fun _ => by kernel_rfl) (Cls.callNC fun wx hwx => e_less (y54) (y57) wx) ?_; clear hA ac; intro ac hA
                             refine sq_p (Value.bool (!(decide ((y54) < (y57))))) hA ?_; clear hA ac; intro ac hA
                             refine sq_p (Value.bool (!(decide ((y54) < (y57))))) hA ?_; clear hA ac; intro ac hA
                             refine sq_nil ?_; intro w58 hww58; have hW := hww58.1; have hfw58 := hww58.2; clear hww58
                             refine thenN ?_
                             refine wp_cond_split (t := !(decide ((y54) < (y57)))) (hA.eval (by kernel_rfl)) (fun h59 => ?_) (fun h59 => ?_)
                             · skip
                               have h59 := not_t h59
                               have h59 := of_decide_eq_false h59
                               first
                               | (exfalso; clear hA hW; omega)
                               | (
                                 refine wp_seq ?_
                                 refine wp_region_lit ?_
                                 refine st_p (Value.slice (some ⟨b55, o56, none⟩) n_l c_l) hA ?_; clear hA ac; intro ac hA
                                 refine st_p (Value.int .i64 ((a1 : Nat) : Int)) hA ?_; clear hA ac; intro ac hA
                                 refine st_p (Value.int .i64 ((b1 : Nat) : Int)) hA ?_; clear hA ac; intro ac hA
                                 refine st_p (Value.int .i64 ((pv : Nat) : Int)) hA ?_; clear hA ac; intro ac hA
                                 refine st_s hA (Runs.call (fun _ => by kernel_rfl) (e_parteq (some ⟨b55, o56, none⟩) n_l c_l d2 (a1) (b1) (pv) w58 ((hW).get 0 rfl) ((hW).lt _ (List.mem_of_getElem? (i := 0) rfl)) (by first | omega | assumption) (by first | omega | assumption)) ?_)
                                 rintro _ w60 ⟨u61, u62, rfl, hw60_hA, hw60_hL, hw60_hR, hu_⟩; refine ⟨_, rfl, ?_⟩; replace hW := hW.upd (H' := [rowR 35 1 enU4 (Value.slice (some ⟨b55, o56, none⟩) n_l c_l) u61]) 0 rfl hu_ rfl; clear hA ac; intro ac hA
                                 refine st_p (Value.int .i64 ((u62 : Nat) : Int)) hA ?_; clear hA ac; intro ac hA
                                 refine wpList_nil ?_
                                 refine thenN ?_
                                 refine wp_seq ?_
                                 refine wp_region_lit ?_
                                 refine st_p (Value.int .i64 ((u62 : Nat) : Int)) hA ?_; clear hA ac; intro ac hA
                                 refine st_p (Value.int .i64 ((u62 : Nat) : Int)) hA ?_; clear hA ac; intro ac hA
                                 refine wpList_nil ?_
                                 refine thenN ?_
                                 refine wp_exit ?_
                                 refine thenX ?_
                                 refine blkX ?_
                                 refine thenN ?_
                                 exact ⟨(b1) - (u62), by omega, u62, b1, lim1, true, true, u61, rfl, by omega, by rw [← hq3, p3_eq (by omega) hy54 hy57 (by omega) hw60_hA hw60_hR, h19, h20], by rw [hw60_hL]; exact hl2_, hA.sub ⟨⟨by kernel_rfl, by kernel_rfl⟩, ⟨by kernel_rfl, by kernel_rfl⟩, ⟨by kernel_rfl, by kernel_rfl⟩, ⟨by kernel_rfl, by kernel_rfl⟩, ⟨by kernel_rfl, by kernel_rfl⟩, ⟨by kernel_rfl, by kernel_rfl⟩, trivial⟩, (hW.pick [0] (by decide) rfl).pickG [] rfl⟩)
                             · skip
                               have h59 := not_f h59
                               have h59 := of_decide_eq_true h59
                               first
                               | (exfalso; clear hA hW; omega)
                               | (
                                 refine wp_skip ?_
                                 refine thenN ?_
                                 refine wp_seq ?_
                                 have hc3_ : a1 = 0 ∨ ∃ x y, d2[a1 - 1]? = some x ∧ d2[pv]? = some y ∧ x < y := .inr ⟨_, _, hy54, hy57, by omega⟩
                                 refine wp_region_lit ?_
                                 refine st_p (Value.slice (some ⟨b55, o56, none⟩) n_l c_l) hA ?_; clear hA ac; intro ac hA
                                 refine st_p (Value.int .i64 ((a1 : Nat) : Int)) hA ?_; clear hA ac; intro ac hA
                                 refine st_p (Value.int .i64 ((b1 : Nat) : Int)) hA ?_; clear hA ac; intro ac hA
                                 refine st_p (Value.int .i64 ((pv : Nat) : Int)) hA ?_; clear hA ac; intro ac hA
                                 refine st_s hA (Runs.call (fun _ => by kernel_rfl) (e_part (some ⟨b55, o56, none⟩) n_l c_l d2 (a1) (b1) (pv) w58 ((hW).get 0 rfl) ((hW).lt _ (List.mem_of_getElem? (i := 0) rfl)) (by first | omega | assumption) (by first | omega | assumption)) ?_)
                                 rintro _ w63 ⟨u64, u65, u66, rfl, hw63_hA, hw63_hL, hw63_hR, hu_⟩; refine ⟨_, rfl, ?_⟩; replace hW := hW.upd (H' := [rowR 35 1 enU4 (Value.slice (some ⟨b55, o56, none⟩) n_l c_l) u64]) 0 rfl hu_ rfl; clear hA ac; intro ac hA
                                 refine st_p (Value.tuple #[Value.int .i64 ((u65 : Nat) : Int), Value.bool u66]) hA ?_; clear hA ac; intro ac hA
                                 refine st_p (Value.int .i64 ((u65 : Nat) : Int)) hA ?_; clear hA ac; intro ac hA
                                 refine st_p (Value.bool u66) hA ?_; clear hA ac; intro ac hA
                                 refine st_p (Value.int .i64 ((u65 : Nat) : Int)) hA ?_; clear hA ac; intro ac hA
                                 refine st_p (Value.bool u66) hA ?_; clear hA ac; intro ac hA
                                 refine wpList_nil ?_
                                 refine thenN ?_
                                 refine wp_seq ?_
                                 refine wp_region_lit ?_
                                 refine st_p (Value.bool u66) hA ?_; clear hA ac; intro ac hA
                                 refine st_p (Value.bool u66) hA ?_; clear hA ac; intro ac hA
                                 refine wpList_nil ?_
                                 refine thenN ?_
                                 refine wp_seq ?_
                                 refine wp_region_lit ?_
                                 refine st_p (Value.int .i64 ((u65 : Nat) : Int)) hA ?_; clear hA ac; intro ac hA
                                 refine st_p (Value.int .i64 ((a1 : Nat) : Int)) hA ?_; clear hA ac; intro ac hA
                                 refine st_q (Value.int .i64 ((u65 - a1 : Nat) : Int)) hA hW.cls (Rd.pureE (v0 := Value.int .i64 (IntKind.i64.wrap ((((u65 : Nat) : Int) : Int) - ((a1 : Nat) : Int)))) (fun _ => by kernel_rfl) (congrArg (Value.int .i64) ((w_i64 (x := (((u65 : Nat) : Int) : Int) - ((a1 : Nat) : Int)) (by omega) (by omega)).trans (by omega)))) ?_; clear hA ac; intro ac hA
                                 refine st_p (Value.int .i64 ((b1 : Nat) : Int)) hA ?_; clear hA ac; intro ac hA
                                 refine st_p (Value.int .i64 ((u65 : Nat) : Int)) hA ?_; clear hA ac; intro ac hA
                                 refine st_q (Value.int .i64 ((b1 - u65 : Nat) : Int)) hA hW.cls (Rd.pureE (v0 := Value.int .i64 (IntKind.i64.wrap ((((b1 : Nat) : Int) : Int) - ((u65 : Nat) : Int)))) (fun _ => by kernel_rfl) (congrArg (Value.int .i64) ((w_i64 (x := (((b1 : Nat) : Int) : Int) - ((u65 : Nat) : Int)) (by omega) (by omega)).trans (by omega)))) ?_; clear hA ac; intro ac hA
                                 refine st_p (Value.int .i64 ((u65 - a1 : Nat) : Int)) hA ?_; clear hA ac; intro ac hA
                                 refine st_p (Value.int .i64 ((b1 - u65 : Nat) : Int)) hA ?_; clear hA ac; intro ac hA
                                 refine wpList_nil ?_
                                 refine thenN ?_
                                 refine wp_seq ?_
                                 refine wp_region_lit ?_
                                 refine st_p (Value.int .i64 ((b1 - a1 : Nat) : Int)) hA ?_; clear hA ac; intro ac hA
                                 refine st_q (Value.int .i64 (((b1 - a1) / 8 : Nat) : Int)) hA hW.cls (Rd.pureE (v0 := Value.int .i64 (IntKind.i64.wrap (Int.tdiv (((b1 - a1 : Nat) : Int) : Int) 8))) (fun _ => by kernel_rfl) (congrArg (Value.int .i64) ((congrArg IntKind.i64.wrap (quo_ (x := ((b1 - a1 : Nat) : Int)) (by omega))).trans (w_i64 (by omega) (by omega))))) ?_; clear hA ac; intro ac hA
                                 refine st_p (Value.int .i64 (((b1 - a1) / 8 : Nat) : Int)) hA ?_; clear hA ac; intro ac hA
                                 refine wpList_nil ?_
                                 refine thenN ?_
                                 refine wp_seq ?_
                                 refine wp_region_lit ?_
                                 refine st_p (Value.int .i64 ((u65 - a1 : Nat) : Int)) hA ?_; clear hA ac; intro ac hA
                                 refine st_p (Value.int .i64 ((b1 - u65 : Nat) : Int)) hA ?_; clear hA ac; intro ac hA
                                 refine st_p (Value.bool (decide ((((u65 - a1 : Nat) : Int) : Int) < (((b1 - u65 : Nat) : Int) : Int)))) hA ?_; clear hA ac; intro ac hA
                                 refine wpList_nil ?_
                                 refine thenN ?_
                                 refine wp_cond_split (t := decide ((((u65 - a1 : Nat) : Int) : Int) < (((b1 - u65 : Nat) : Int) : Int))) (hA.eval (by kernel_rfl)) (fun h67 => ?_) (fun h67 => ?_)
                                 · skip
                                   have h67 := of_decide_eq_true h67
                                   first
                                   | (exfalso; clear hA hW; omega)
                                   | (
                                     refine wp_seq ?_
                                     refine wp_region_lit ?_
                                     refine st_p (Value.int .i64 ((u65 - a1 : Nat) : Int)) hA ?_; clear hA ac; intro ac hA
                                     refine st_p (Value.int .i64 (((b1 - a1) / 8 : Nat) : Int)) hA ?_; clear hA ac; intro ac hA
                                     refine st_p (Value.bool (decide ((((u65 - a1 : Nat) : Int) : Int) ≥ ((((b1 - a1) / 8 : Nat) : Int) : Int)))) hA ?_; clear hA ac; intro ac hA
                                     refine st_p (Value.bool (decide ((((u65 - a1 : Nat) : Int) : Int) ≥ ((((b1 - a1) / 8 : Nat) : Int) : Int)))) hA ?_; clear hA ac; intro ac hA
                                     refine wpList_nil ?_
                                     refine thenN ?_
                                     refine wp_seq ?_
                                     refine wp_region_lit ?_
                                     refine st_p (Value.slice (some ⟨b55, o56, none⟩) n_l c_l) hA ?_; clear hA ac; intro ac hA
                                     refine st_p (Value.int .i64 ((a1 : Nat) : Int)) hA ?_; clear hA ac; intro ac hA
                                     refine st_p (Value.int .i64 ((u65 : Nat) : Int)) hA ?_; clear hA ac; intro ac hA
                                     refine st_p (Value.int .i64 ((lim1 : Nat) : Int)) hA ?_; clear hA ac; intro ac hA
                                     refine st_s hA (Runs.call (fun _ => by kernel_rfl) (hrec (some ⟨b55, o56, none⟩) n_l c_l u64 (a1) (u65) (lim1) w63 ((hW).get 0 rfl) ((hW).lt _ (List.mem_of_getElem? (i := 0) rfl)) (by first | omega | assumption) (by first | omega | assumption) (by first | omega | assumption)) ?_)
                                     rintro _ w68 ⟨u69, rfl, hw68_hA, hw68_hL, hu_⟩; refine ⟨_, rfl, ?_⟩; replace hW := hW.upd (H' := [rowR 35 1 enU4 (Value.slice (some ⟨b55, o56, none⟩) n_l c_l) u69]) 0 rfl hu_ rfl; clear hA ac; intro ac hA
                                     refine wpList_nil ?_
                                     refine thenN ?_
                                     refine wp_region_lit ?_
                                     refine st_p (Value.int .i64 ((u65 : Nat) : Int)) hA ?_; clear hA ac; intro ac hA
                                     refine st_q (Value.int .i64 ((u65 + 1 : Nat) : Int)) hA hW.cls (Rd.pureE (v0 := Value.int .i64 (IntKind.i64.wrap ((((u65 : Nat) : Int) : Int) + 1))) (fun _ => by kernel_rfl) (congrArg (Value.int .i64) ((w_i64 (x := (((u65 : Nat) : Int) : Int) + 1) (by omega) (by omega)).trans (by omega)))) ?_; clear hA ac; intro ac hA
                                     refine st_p (Value.int .i64 ((u65 + 1 : Nat) : Int)) hA ?_; clear hA ac; intro ac hA
                                     refine wpList_nil ?_
                                     refine blkN ?_
                                     refine thenN ?_
                                     exact ⟨(b1) - (u65 + 1), by omega, u65 + 1, b1, lim1, decide ((((u65 - a1 : Nat) : Int) : Int) ≥ ((((b1 - a1) / 8 : Nat) : Int) : Int)), u66, u69, rfl, by omega, by rw [← hq3, p3_l hc3_ hw63_hA hw63_hR (by omega) hw68_hA]; congr 1; exact decide_eq_decide.2 (by omega), by rw [hw68_hL, hw63_hL]; exact hl2_, hA.sub ⟨⟨by kernel_rfl, by kernel_rfl⟩, ⟨by kernel_rfl, by kernel_rfl⟩, ⟨by kernel_rfl, by kernel_rfl⟩, ⟨by kernel_rfl, by kernel_rfl⟩, ⟨by kernel_rfl, by kernel_rfl⟩, ⟨by kernel_rfl, by kernel_rfl⟩, trivial⟩, (hW.pick [0] (by decide) rfl).pickG [] rfl⟩)
                                 · skip
                                   have h67 := of_decide_eq_false h67
                                   first
                                   | (exfalso; clear hA hW; omega)
                                   | (
                                     refine wp_seq ?_
                                     refine wp_region_lit ?_
                                     refine st_p (Value.int .i64 ((b1 - u65 : Nat) : Int)) hA ?_; clear hA ac; intro ac hA
                                     refine st_p (Value.int .i64 (((b1 - a1) / 8 : Nat) : Int)) hA ?_; clear hA ac; intro ac hA
                                     refine st_p (Value.bool (decide ((((b1 - u65 : Nat) : Int) : Int) ≥ ((((b1 - a1) / 8 : Nat) : Int) : Int)))) hA ?_; clear hA ac; intro ac hA
                                     refine st_p (Value.bool (decide ((((b1 - u65 : Nat) : Int) : Int) ≥ ((((b1 - a1) / 8 : Nat) : Int) : Int)))) hA ?_; clear hA ac; intro ac hA
                                     refine wpList_nil ?_
                                     refine thenN ?_
                                     refine wp_seq ?_
                                     refine wp_region_lit ?_
                                     refine st_p (Value.slice (some ⟨b55, o56, none⟩) n_l c_l) hA ?_; clear hA ac; intro ac hA
                                     refine st_p (Value.int .i64 ((u65 : Nat) : Int)) hA ?_; clear hA ac; intro ac hA
                                     refine st_q (Value.int .i64 ((u65 + 1 : Nat) : Int)) hA hW.cls (Rd.pureE (v0 := Value.int .i64 (IntKind.i64.wrap ((((u65 : Nat) : Int) : Int) + 1))) (fun _ => by kernel_rfl) (congrArg (Value.int .i64) ((w_i64 (x := (((u65 : Nat) : Int) : Int) + 1) (by omega) (by omega)).trans (by omega)))) ?_; clear hA ac; intro ac hA
                                     refine st_p (Value.int .i64 ((b1 : Nat) : Int)) hA ?_; clear hA ac; intro ac hA
                                     refine st_p (Value.int .i64 ((lim1 : Nat) : Int)) hA ?_; clear hA ac; intro ac hA
                                     refine st_s hA (Runs.call (fun _ => by kernel_rfl) (hrec (some ⟨b55, o56, none⟩) n_l c_l u64 (u65 + 1) (b1) (lim1) w63 ((hW).get 0 rfl) ((hW).lt _ (List.mem_of_getElem? (i := 0) rfl)) (by first | omega | assumption) (by first | omega | assumption) (by first | omega | assumption)) ?_)
                                     rintro _ w70 ⟨u71, rfl, hw70_hA, hw70_hL, hu_⟩; refine ⟨_, rfl, ?_⟩; replace hW := hW.upd (H' := [rowR 35 1 enU4 (Value.slice (some ⟨b55, o56, none⟩) n_l c_l) u71]) 0 rfl hu_ rfl; clear hA ac; intro ac hA
                                     refine wpList_nil ?_
                                     refine thenN ?_
                                     refine wp_region_lit ?_
                                     refine st_p (Value.int .i64 ((u65 : Nat) : Int)) hA ?_; clear hA ac; intro ac hA
                                     refine st_p (Value.int .i64 ((u65 : Nat) : Int)) hA ?_; clear hA ac; intro ac hA
                                     refine wpList_nil ?_
                                     refine blkN ?_
                                     refine thenN ?_
                                     exact ⟨(u65) - (a1), by omega, a1, u65, lim1, decide ((((b1 - u65 : Nat) : Int) : Int) ≥ ((((b1 - a1) / 8 : Nat) : Int) : Int)), u66, u71, rfl, by omega, by rw [← hq3, p3_r hc3_ hw63_hA hw63_hR (by omega) hw70_hA]; congr 1; exact decide_eq_decide.2 (by omega), by rw [hw70_hL, hw63_hL]; exact hl2_, hA.sub ⟨⟨by kernel_rfl, by kernel_rfl⟩, ⟨by kernel_rfl, by kernel_rfl⟩, ⟨by kernel_rfl, by kernel_rfl⟩, ⟨by kernel_rfl, by kernel_rfl⟩, ⟨by kernel_rfl, by kernel_rfl⟩, ⟨by kernel_rfl, by kernel_rfl⟩, trivial⟩, (hW.pick [0] (by decide) rfl).pickG [] rfl⟩)))
                         · skip
                           rw [h53] at hA
                           have h53 := of_decide_eq_false h53
                           first
                           | (exfalso; clear hA hW; omega)
                           | (
                             refine sq_k hA ?_; clear hA ac; intro ac hA
                             refine sq_k hA ?_; clear hA ac; intro ac hA
                             refine sq_k hA ?_; clear hA ac; intro ac hA
                             refine sq_k hA ?_; clear hA ac; intro ac hA
                             refine sq_k hA ?_; clear hA ac; intro ac hA
                             refine sq_k hA ?_; clear hA ac; intro ac hA
                             refine sq_k hA ?_; clear hA ac; intro ac hA
                             refine sq_k hA ?_; clear hA ac; intro ac hA
                             refine sq_k hA ?_; clear hA ac; intro ac hA
                             refine sq_k hA ?_; clear hA ac; intro ac hA
                             refine sq_k hA ?_; clear hA ac; intro ac hA
                             refine sq_p (Value.bool false) hA ?_; clear hA ac; intro ac hA
                             refine sq_nil ?_; intro w72 hww72; have hW := hww72.1; have hfw72 := hww72.2; clear hww72
                             refine thenN ?_
                             refine wp_cond_false (hA.eval (by kernel_rfl)) ?_
                             refine wp_skip ?_
                             refine thenN ?_
                             refine wp_seq ?_
                             have hc3_ : a1 = 0 ∨ ∃ x y, d2[a1 - 1]? = some x ∧ d2[pv]? = some y ∧ x < y := .inl (by omega)
                             refine wp_region_lit ?_
                             refine st_p (Value.slice A_l n_l c_l) hA ?_; clear hA ac; intro ac hA
                             refine st_p (Value.int .i64 ((a1 : Nat) : Int)) hA ?_; clear hA ac; intro ac hA
                             refine st_p (Value.int .i64 ((b1 : Nat) : Int)) hA ?_; clear hA ac; intro ac hA
                             refine st_p (Value.int .i64 ((pv : Nat) : Int)) hA ?_; clear hA ac; intro ac hA
                             refine st_s hA (Runs.call (fun _ => by kernel_rfl) (e_part A_l n_l c_l d2 (a1) (b1) (pv) w72 ((hW).get 0 rfl) ((hW).lt _ (List.mem_of_getElem? (i := 0) rfl)) (by first | omega | assumption) (by first | omega | assumption)) ?_)
                             rintro _ w73 ⟨u74, u75, u76, rfl, hw73_hA, hw73_hL, hw73_hR, hu_⟩; refine ⟨_, rfl, ?_⟩; replace hW := hW.upd (H' := [rowR 35 1 enU4 (Value.slice A_l n_l c_l) u74]) 0 rfl hu_ rfl; clear hA ac; intro ac hA
                             refine st_p (Value.tuple #[Value.int .i64 ((u75 : Nat) : Int), Value.bool u76]) hA ?_; clear hA ac; intro ac hA
                             refine st_p (Value.int .i64 ((u75 : Nat) : Int)) hA ?_; clear hA ac; intro ac hA
                             refine st_p (Value.bool u76) hA ?_; clear hA ac; intro ac hA
                             refine st_p (Value.int .i64 ((u75 : Nat) : Int)) hA ?_; clear hA ac; intro ac hA
                             refine st_p (Value.bool u76) hA ?_; clear hA ac; intro ac hA
                             refine wpList_nil ?_
                             refine thenN ?_
                             refine wp_seq ?_
                             refine wp_region_lit ?_
                             refine st_p (Value.bool u76) hA ?_; clear hA ac; intro ac hA
                             refine st_p (Value.bool u76) hA ?_; clear hA ac; intro ac hA
                             refine wpList_nil ?_
                             refine thenN ?_
                             refine wp_seq ?_
                             refine wp_region_lit ?_
                             refine st_p (Value.int .i64 ((u75 : Nat) : Int)) hA ?_; clear hA ac; intro ac hA
                             refine st_p (Value.int .i64 ((a1 : Nat) : Int)) hA ?_; clear hA ac; intro ac hA
                             refine st_q (Value.int .i64 ((u75 - a1 : Nat) : Int)) hA hW.cls (Rd.pureE (v0 := Value.int .i64 (IntKind.i64.wrap ((((u75 : Nat) : Int) : Int) - ((a1 : Nat) : Int)))) (fun _ => by kernel_rfl) (congrArg (Value.int .i64) ((w_i64 (x := (((u75 : Nat) : Int) : Int) - ((a1 : Nat) : Int)) (by omega) (by omega)).trans (by omega)))) ?_; clear hA ac; intro ac hA
                             refine st_p (Value.int .i64 ((b1 : Nat) : Int)) hA ?_; clear hA ac; intro ac hA
                             refine st_p (Value.int .i64 ((u75 : Nat) : Int)) hA ?_; clear hA ac; intro ac hA
                             refine st_q (Value.int .i64 ((b1 - u75 : Nat) : Int)) hA hW.cls (Rd.pureE (v0 := Value.int .i64 (IntKind.i64.wrap ((((b1 : Nat) : Int) : Int) - ((u75 : Nat) : Int)))) (fun _ => by kernel_rfl) (congrArg (Value.int .i64) ((w_i64 (x := (((b1 : Nat) : Int) : Int) - ((u75 : Nat) : Int)) (by omega) (by omega)).trans (by omega)))) ?_; clear hA ac; intro ac hA
                             refine st_p (Value.int .i64 ((u75 - a1 : Nat) : Int)) hA ?_; clear hA ac; intro ac hA
                             refine st_p (Value.int .i64 ((b1 - u75 : Nat) : Int)) hA ?_; clear hA ac; intro ac hA
                             refine wpList_nil ?_
                             refine thenN ?_
                             refine wp_seq ?_
                             refine wp_region_lit ?_
                             refine st_p (Value.int .i64 ((b1 - a1 : Nat) : Int)) hA ?_; clear hA ac; intro ac hA
                             refine st_q (Value.int .i64 (((b1 - a1) / 8 : Nat) : Int)) hA hW.cls (Rd.pureE (v0 := Value.int .i64 (IntKind.i64.wrap (Int.tdiv (((b1 - a1 : Nat) : Int) : Int) 8))) (fun _ => by kernel_rfl) (congrArg (Value.int .i64) ((congrArg IntKind.i64.wrap (quo_ (x := ((b1 - a1 : Nat) : Int)) (by omega))).trans (w_i64 (by omega) (by omega))))) ?_; clear hA ac; intro ac hA
                             refine st_p (Value.int .i64 (((b1 - a1) / 8 : Nat) : Int)) hA ?_; clear hA ac; intro ac hA
                             refine wpList_nil ?_
                             refine thenN ?_
                             refine wp_seq ?_
                             refine wp_region_lit ?_
                             refine st_p (Value.int .i64 ((u75 - a1 : Nat) : Int)) hA ?_; clear hA ac; intro ac hA
                             refine st_p (Value.int .i64 ((b1 - u75 : Nat) : Int)) hA ?_; clear hA ac; intro ac hA
                             refine st_p (Value.bool (decide ((((u75 - a1 : Nat) : Int) : Int) < (((b1 - u75 : Nat) : Int) : Int)))) hA ?_; clear hA ac; intro ac hA
                             refine wpList_nil ?_
                             refine thenN ?_
                             refine wp_cond_split (t := decide ((((u75 - a1 : Nat) : Int) : Int) < (((b1 - u75 : Nat) : Int) : Int))) (hA.eval (by kernel_rfl)) (fun h77 => ?_) (fun h77 => ?_)
                             · skip
                               have h77 := of_decide_eq_true h77
                               first
                               | (exfalso; clear hA hW; omega)
                               | (
                                 refine wp_seq ?_
                                 refine wp_region_lit ?_
                                 refine st_p (Value.int .i64 ((u75 - a1 : Nat) : Int)) hA ?_; clear hA ac; intro ac hA
                                 refine st_p (Value.int .i64 (((b1 - a1) / 8 : Nat) : Int)) hA ?_; clear hA ac; intro ac hA
                                 refine st_p (Value.bool (decide ((((u75 - a1 : Nat) : Int) : Int) ≥ ((((b1 - a1) / 8 : Nat) : Int) : Int)))) hA ?_; clear hA ac; intro ac hA
                                 refine st_p (Value.bool (decide ((((u75 - a1 : Nat) : Int) : Int) ≥ ((((b1 - a1) / 8 : Nat) : Int) : Int)))) hA ?_; clear hA ac; intro ac hA
                                 refine wpList_nil ?_
                                 refine thenN ?_
                                 refine wp_seq ?_
                                 refine wp_region_lit ?_
                                 refine st_p (Value.slice A_l n_l c_l) hA ?_; clear hA ac; intro ac hA
                                 refine st_p (Value.int .i64 ((a1 : Nat) : Int)) hA ?_; clear hA ac; intro ac hA
                                 refine st_p (Value.int .i64 ((u75 : Nat) : Int)) hA ?_; clear hA ac; intro ac hA
                                 refine st_p (Value.int .i64 ((lim1 : Nat) : Int)) hA ?_; clear hA ac; intro ac hA
                                 refine st_s hA (Runs.call (fun _ => by kernel_rfl) (hrec A_l n_l c_l u74 (a1) (u75) (lim1) w73 ((hW).get 0 rfl) ((hW).lt _ (List.mem_of_getElem? (i := 0) rfl)) (by first | omega | assumption) (by first | omega | assumption) (by first | omega | assumption)) ?_)
                                 rintro _ w78 ⟨u79, rfl, hw78_hA, hw78_hL, hu_⟩; refine ⟨_, rfl, ?_⟩; replace hW := hW.upd (H' := [rowR 35 1 enU4 (Value.slice A_l n_l c_l) u79]) 0 rfl hu_ rfl; clear hA ac; intro ac hA
                                 refine wpList_nil ?_
                                 refine thenN ?_
                                 refine wp_region_lit ?_
                                 refine st_p (Value.int .i64 ((u75 : Nat) : Int)) hA ?_; clear hA ac; intro ac hA
                                 refine st_q (Value.int .i64 ((u75 + 1 : Nat) : Int)) hA hW.cls (Rd.pureE (v0 := Value.int .i64 (IntKind.i64.wrap ((((u75 : Nat) : Int) : Int) + 1))) (fun _ => by kernel_rfl) (congrArg (Value.int .i64) ((w_i64 (x := (((u75 : Nat) : Int) : Int) + 1) (by omega) (by omega)).trans (by omega)))) ?_; clear hA ac; intro ac hA
                                 refine st_p (Value.int .i64 ((u75 + 1 : Nat) : Int)) hA ?_; clear hA ac; intro ac hA
                                 refine wpList_nil ?_
                                 refine blkN ?_
                                 refine thenN ?_
                                 exact ⟨(b1) - (u75 + 1), by omega, u75 + 1, b1, lim1, decide ((((u75 - a1 : Nat) : Int) : Int) ≥ ((((b1 - a1) / 8 : Nat) : Int) : Int)), u76, u79, rfl, by omega, by rw [← hq3, p3_l hc3_ hw73_hA hw73_hR (by omega) hw78_hA]; congr 1; exact decide_eq_decide.2 (by omega), by rw [hw78_hL, hw73_hL]; exact hl2_, hA.sub ⟨⟨by kernel_rfl, by kernel_rfl⟩, ⟨by kernel_rfl, by kernel_rfl⟩, ⟨by kernel_rfl, by kernel_rfl⟩, ⟨by kernel_rfl, by kernel_rfl⟩, ⟨by kernel_rfl, by kernel_rfl⟩, ⟨by kernel_rfl, by kernel_rfl⟩, trivial⟩, (hW.pick [0] (by decide) rfl).pickG [] rfl⟩)
                             · skip
                               have h77 := of_decide_eq_false h77
                               first
                               | (exfalso; clear hA hW; omega)
                               | (
                                 refine wp_seq ?_
                                 refine wp_region_lit ?_
                                 refine st_p (Value.int .i64 ((b1 - u75 : Nat) : Int)) hA ?_; clear hA ac; intro ac hA
                                 refine st_p (Value.int .i64 (((b1 - a1) / 8 : Nat) : Int)) hA ?_; clear hA ac; intro ac hA
                                 refine st_p (Value.bool (decide ((((b1 - u75 : Nat) : Int) : Int) ≥ ((((b1 - a1) / 8 : Nat) : Int) : Int)))) hA ?_; clear hA ac; intro ac hA
                                 refine st_p (Value.bool (decide ((((b1 - u75 : Nat) : Int) : Int) ≥ ((((b1 - a1) / 8 : Nat) : Int) : Int)))) hA ?_; clear hA ac; intro ac hA
                                 refine wpList_nil ?_
                                 refine thenN ?_
                                 refine wp_seq ?_
                                 refine wp_region_lit ?_
                                 refine st_p (Value.slice A_l n_l c_l) hA ?_; clear hA ac; intro ac hA
                                 refine st_p (Value.int .i64 ((u75 : Nat) : Int)) hA ?_; clear hA ac; intro ac hA
                                 refine st_q (Value.int .i64 ((u75 + 1 : Nat) : Int)) hA hW.cls (Rd.pureE (v0 := Value.int .i64 (IntKind.i64.wrap ((((u75 : Nat) : Int) : Int) + 1))) (fun _ => by kernel_rfl) (congrArg (Value.int .i64) ((w_i64 (x := (((u75 : Nat) : Int) : Int) + 1) (by omega) (by omega)).trans (by omega)))) ?_; clear hA ac; intro ac hA
                                 refine st_p (Value.int .i64 ((b1 : Nat) : Int)) hA ?_; clear hA ac; intro ac hA
                                 refine st_p (Value.int .i64 ((lim1 : Nat) : Int)) hA ?_; clear hA ac; intro ac hA
                                 refine st_s hA (Runs.call (fun _ => by kernel_rfl) (hrec A_l n_l c_l u74 (u75 + 1) (b1) (lim1) w73 ((hW).get 0 rfl) ((hW).lt _ (List.mem_of_getElem? (i := 0) rfl)) (by first | omega | assumption) (by first | omega | assumption) (by first | omega | assumption)) ?_)
                                 rintro _ w80 ⟨u81, rfl, hw80_hA, hw80_hL, hu_⟩; refine ⟨_, rfl, ?_⟩; replace hW := hW.upd (H' := [rowR 35 1 enU4 (Value.slice A_l n_l c_l) u81]) 0 rfl hu_ rfl; clear hA ac; intro ac hA
                                 refine wpList_nil ?_
                                 refine thenN ?_
                                 refine wp_region_lit ?_
                                 refine st_p (Value.int .i64 ((u75 : Nat) : Int)) hA ?_; clear hA ac; intro ac hA
                                 refine st_p (Value.int .i64 ((u75 : Nat) : Int)) hA ?_; clear hA ac; intro ac hA
                                 refine wpList_nil ?_
                                 refine blkN ?_
                                 refine thenN ?_
                                 exact ⟨(u75) - (a1), by omega, a1, u75, lim1, decide ((((b1 - u75 : Nat) : Int) : Int) ≥ ((((b1 - a1) / 8 : Nat) : Int) : Int)), u76, u81, rfl, by omega, by rw [← hq3, p3_r hc3_ hw73_hA hw73_hR (by omega) hw80_hA]; congr 1; exact decide_eq_decide.2 (by omega), by rw [hw80_hL, hw73_hL]; exact hl2_, hA.sub ⟨⟨by kernel_rfl, by kernel_rfl⟩, ⟨by kernel_rfl, by kernel_rfl⟩, ⟨by kernel_rfl, by kernel_rfl⟩, ⟨by kernel_rfl, by kernel_rfl⟩, ⟨by kernel_rfl, by kernel_rfl⟩, ⟨by kernel_rfl, by kernel_rfl⟩, trivial⟩, (hW.pick [0] (by decide) rfl).pickG [] rfl⟩))))
                 · skip
                   rw [h20] at hA
                   first
                   | (exfalso; clear hA hW; omega)
                   | (
                     refine st_k hA ?_; clear hA ac; intro ac hA
                     refine st_k hA ?_; clear hA ac; intro ac hA
                     refine st_p (Value.bool false) hA ?_; clear hA ac; intro ac hA
                     refine wpList_nil ?_
                     refine thenN ?_
                     refine wp_cond_false (hA.eval (by kernel_rfl)) ?_
                     refine wp_skip ?_
                     refine thenN ?_
                     refine wp_seq ?_
                     refine wp_seq ?_
                     have hb_wb : wb = true := h19
                     have hb_wp : wp = false := h20
                     have hand_ : (wb && wp && inc) = false := (by simp [hb_wb, hb_wp])
                     have hq3 : pdq3 d2.toArray (lim1) a1 b1 wb wp (pv) = Sort.pdq Sort.ltInt l.toArray a b limit true true := by rw [← hq2, p2_no hand_]
                     refine q_region (by kernel_rfl) (by kernel_rfl) hW ?_
                     refine sq_p (Value.int .i64 ((a1 : Nat) : Int)) hA ?_; clear hA ac; intro ac hA
                     refine sq_p (Value.bool (decide ((((a1 : Nat) : Int) : Int) > (0 : Int)))) hA ?_; clear hA ac; intro ac hA
                     refine sq_p (Value.bool (decide ((((a1 : Nat) : Int) : Int) > (0 : Int)))) hA ?_; clear hA ac; intro ac hA
                     rcases Bool.eq_false_or_eq_true (decide ((((a1 : Nat) : Int) : Int) > (0 : Int))) with h82 | h82
                     · skip
                       rw [h82] at hA
                       have h82 := of_decide_eq_true h82
                       first
                       | (exfalso; clear hA hW; omega)
                       | (
                         refine sq_p (Value.slice A_l n_l c_l) hA ?_; clear hA ac; intro ac hA
                         refine sq_p (Value.int .i64 ((a1 : Nat) : Int)) hA ?_; clear hA ac; intro ac hA
                         refine sq_q (Value.int .i64 ((a1 - 1 : Nat) : Int)) hA (Rd.pureE (v0 := Value.int .i64 (IntKind.i64.wrap ((((a1 : Nat) : Int) : Int) - 1))) (fun _ => by kernel_rfl) (congrArg (Value.int .i64) ((w_i64 (x := (((a1 : Nat) : Int) : Int) - 1) (by omega) (by omega)).trans (by omega)))) ?_; clear hA ac; intro ac hA
                         obtain ⟨y83, hy83⟩ : ∃ y, d2[a1 - 1]? = some y := ⟨_, List.getElem?_eq_getElem (by first | omega | (simp; done) | (simp; omega))⟩
                         obtain ⟨b84, o85, rfl, hbb84⟩ := row_some (rowR_at ((hW).get 0 rfl) elt_U4.len) hy83
                         refine sq_q (Value.pointer (some ⟨b84, o85 + (a1 - 1) * 1, none⟩)) hA (Rd.indexAddr (e := 35) (sz := 1) (b := b84) (off := o85) (n := n_l) (c := c_l) (k := a1 - 1) (by kernel_rfl) (by kernel_rfl) (by first | omega | (simp; done) | (simp; omega)) (fun _ => by kernel_rfl) (fun _ => by kernel_rfl)) ?_; clear hA ac; intro ac hA
                         refine sq_q (Value.int .u32 y83) hA (Rd.loadRow (b := b84) (i := o85 + (a1 - 1) * 1) (xs := [Value.int .u32 y83]) (by kernel_rfl) (fun _ hw => row_ld (rowR_at ((hw.1).get 0 rfl) elt_U4.len) hy83 (Fr.refl No _) (fun h => h) 0 1 (by kernel_rfl)) (by kernel_rfl)) ?_; clear hA ac; intro ac hA
                         refine sq_p (Value.slice (some ⟨b84, o85, none⟩) n_l c_l) hA ?_; clear hA ac; intro ac hA
                         refine sq_p (Value.int .i64 ((pv : Nat) : Int)) hA ?_; clear hA ac; intro ac hA
                         obtain ⟨y86, hy86⟩ : ∃ y, d2[pv]? = some y := ⟨_, List.getElem?_eq_getElem (by first | omega | (simp; done) | (simp; omega))⟩
                         refine sq_q (Value.pointer (some ⟨b84, o85 + pv * 1, none⟩)) hA (Rd.indexAddr (e := 35) (sz := 1) (b := b84) (off := o85) (n := n_l) (c := c_l) (k := pv) (by kernel_rfl) (by kernel_rfl) (by first | omega | (simp; done) | (simp; omega)) (fun _ => by kernel_rfl) (fun _ => by kernel_rfl)) ?_; clear hA ac; intro ac hA
                         refine sq_q (Value.int .u32 y86) hA (Rd.loadRow (b := b84) (i := o85 + pv * 1) (xs := [Value.int .u32 y86]) (by kernel_rfl) (fun _ hw => row_ld (rowR_at ((hw.1).get 0 rfl) elt_U4.len) hy86 (Fr.refl No _) (fun h => h) 0 1 (by kernel_rfl)) (by kernel_rfl)) ?_; clear hA ac; intro ac hA
                         refine sq_call (v := Value.bool (decide ((y83) < (y86)))) hA (by kernel_rfl) (by kernel_rfl) (by kernel_rfl) (fun _ => by kernel_rfl) (Cls.callNC fun wx hwx => e_less (y83) (y86) wx) ?_; clear hA ac; intro ac hA
                         refine sq_p (Value.bool (!(decide ((y83) < (y86))))) hA ?_; clear hA ac; intro ac hA
                         refine sq_p (Value.bool (!(decide ((y83) < (y86))))) hA ?_; clear hA ac; intro ac hA
                         refine sq_nil ?_; intro w87 hww87; have hW := hww87.1; have hfw87 := hww87.2; clear hww87
                         refine thenN ?_
                         refine wp_cond_split (t := !(decide ((y83) < (y86)))) (hA.eval (by kernel_rfl)) (fun h88 => ?_) (fun h88 => ?_)
                         · skip
                           have h88 := not_t h88
                           have h88 := of_decide_eq_false h88
                           first
                           | (exfalso; clear hA hW; omega)
                           | (
                             refine wp_seq ?_
                             refine wp_region_lit ?_
                             refine st_p (Value.slice (some ⟨b84, o85, none⟩) n_l c_l) hA ?_; clear hA ac; intro ac hA
                             refine st_p (Value.int .i64 ((a1 : Nat) : Int)) hA ?_; clear hA ac; intro ac hA
                             refine st_p (Value.int .i64 ((b1 : Nat) : Int)) hA ?_; clear hA ac; intro ac hA
                             refine st_p (Value.int .i64 ((pv : Nat) : Int)) hA ?_; clear hA ac; intro ac hA
                             refine st_s hA (Runs.call (fun _ => by kernel_rfl) (e_parteq (some ⟨b84, o85, none⟩) n_l c_l d2 (a1) (b1) (pv) w87 ((hW).get 0 rfl) ((hW).lt _ (List.mem_of_getElem? (i := 0) rfl)) (by first | omega | assumption) (by first | omega | assumption)) ?_)
                             rintro _ w89 ⟨u90, u91, rfl, hw89_hA, hw89_hL, hw89_hR, hu_⟩; refine ⟨_, rfl, ?_⟩; replace hW := hW.upd (H' := [rowR 35 1 enU4 (Value.slice (some ⟨b84, o85, none⟩) n_l c_l) u90]) 0 rfl hu_ rfl; clear hA ac; intro ac hA
                             refine st_p (Value.int .i64 ((u91 : Nat) : Int)) hA ?_; clear hA ac; intro ac hA
                             refine wpList_nil ?_
                             refine thenN ?_
                             refine wp_seq ?_
                             refine wp_region_lit ?_
                             refine st_p (Value.int .i64 ((u91 : Nat) : Int)) hA ?_; clear hA ac; intro ac hA
                             refine st_p (Value.int .i64 ((u91 : Nat) : Int)) hA ?_; clear hA ac; intro ac hA
                             refine wpList_nil ?_
                             refine thenN ?_
                             refine wp_exit ?_
                             refine thenX ?_
                             refine blkX ?_
                             refine thenN ?_
                             exact ⟨(b1) - (u91), by omega, u91, b1, lim1, true, false, u90, rfl, by omega, by rw [← hq3, p3_eq (by omega) hy83 hy86 (by omega) hw89_hA hw89_hR, h19, h20], by rw [hw89_hL]; exact hl2_, hA.sub ⟨⟨by kernel_rfl, by kernel_rfl⟩, ⟨by kernel_rfl, by kernel_rfl⟩, ⟨by kernel_rfl, by kernel_rfl⟩, ⟨by kernel_rfl, by kernel_rfl⟩, ⟨by kernel_rfl, by kernel_rfl⟩, ⟨by kernel_rfl, by kernel_rfl⟩, trivial⟩, (hW.pick [0] (by decide) rfl).pickG [] rfl⟩)
                         · skip
                           have h88 := not_f h88
                           have h88 := of_decide_eq_true h88
                           first
                           | (exfalso; clear hA hW; omega)
                           | (
                             refine wp_skip ?_
                             refine thenN ?_
                             refine wp_seq ?_
                             have hc3_ : a1 = 0 ∨ ∃ x y, d2[a1 - 1]? = some x ∧ d2[pv]? = some y ∧ x < y := .inr ⟨_, _, hy83, hy86, by omega⟩
                             refine wp_region_lit ?_
                             refine st_p (Value.slice (some ⟨b84, o85, none⟩) n_l c_l) hA ?_; clear hA ac; intro ac hA
                             refine st_p (Value.int .i64 ((a1 : Nat) : Int)) hA ?_; clear hA ac; intro ac hA
                             refine st_p (Value.int .i64 ((b1 : Nat) : Int)) hA ?_; clear hA ac; intro ac hA
                             refine st_p (Value.int .i64 ((pv : Nat) : Int)) hA ?_; clear hA ac; intro ac hA
                             refine st_s hA (Runs.call (fun _ => by kernel_rfl) (e_part (some ⟨b84, o85, none⟩) n_l c_l d2 (a1) (b1) (pv) w87 ((hW).get 0 rfl) ((hW).lt _ (List.mem_of_getElem? (i := 0) rfl)) (by first | omega | assumption) (by first | omega | assumption)) ?_)
                             rintro _ w92 ⟨u93, u94, u95, rfl, hw92_hA, hw92_hL, hw92_hR, hu_⟩; refine ⟨_, rfl, ?_⟩; replace hW := hW.upd (H' := [rowR 35 1 enU4 (Value.slice (some ⟨b84, o85, none⟩) n_l c_l) u93]) 0 rfl hu_ rfl; clear hA ac; intro ac hA
                             refine st_p (Value.tuple #[Value.int .i64 ((u94 : Nat) : Int), Value.bool u95]) hA ?_; clear hA ac; intro ac hA
                             refine st_p (Value.int .i64 ((u94 : Nat) : Int)) hA ?_; clear hA ac; intro ac hA
                             refine st_p (Value.bool u95) hA ?_; clear hA ac; intro ac hA
                             refine st_p (Value.int .i64 ((u94 : Nat) : Int)) hA ?_; clear hA ac; intro ac hA
                             refine st_p (Value.bool u95) hA ?_; clear hA ac; intro ac hA
                             refine wpList_nil ?_
                             refine thenN ?_
                             refine wp_seq ?_
                             refine wp_region_lit ?_
                             refine st_p (Value.bool u95) hA ?_; clear hA ac; intro ac hA
                             refine st_p (Value.bool u95) hA ?_; clear hA ac; intro ac hA
                             refine wpList_nil ?_
                             refine thenN ?_
                             refine wp_seq ?_
                             refine wp_region_lit ?_
                             refine st_p (Value.int .i64 ((u94 : Nat) : Int)) hA ?_; clear hA ac; intro ac hA
                             refine st_p (Value.int .i64 ((a1 : Nat) : Int)) hA ?_; clear hA ac; intro ac hA
                             refine st_q (Value.int .i64 ((u94 - a1 : Nat) : Int)) hA hW.cls (Rd.pureE (v0 := Value.int .i64 (IntKind.i64.wrap ((((u94 : Nat) : Int) : Int) - ((a1 : Nat) : Int)))) (fun _ => by kernel_rfl) (congrArg (Value.int .i64) ((w_i64 (x := (((u94 : Nat) : Int) : Int) - ((a1 : Nat) : Int)) (by omega) (by omega)).trans (by omega)))) ?_; clear hA ac; intro ac hA
                             refine st_p (Value.int .i64 ((b1 : Nat) : Int)) hA ?_; clear hA ac; intro ac hA
                             refine st_p (Value.int .i64 ((u94 : Nat) : Int)) hA ?_; clear hA ac; intro ac hA
                             refine st_q (Value.int .i64 ((b1 - u94 : Nat) : Int)) hA hW.cls (Rd.pureE (v0 := Value.int .i64 (IntKind.i64.wrap ((((b1 : Nat) : Int) : Int) - ((u94 : Nat) : Int)))) (fun _ => by kernel_rfl) (congrArg (Value.int .i64) ((w_i64 (x := (((b1 : Nat) : Int) : Int) - ((u94 : Nat) : Int)) (by omega) (by omega)).trans (by omega)))) ?_; clear hA ac; intro ac hA
                             refine st_p (Value.int .i64 ((u94 - a1 : Nat) : Int)) hA ?_; clear hA ac; intro ac hA
                             refine st_p (Value.int .i64 ((b1 - u94 : Nat) : Int)) hA ?_; clear hA ac; intro ac hA
                             refine wpList_nil ?_
                             refine thenN ?_
                             refine wp_seq ?_
                             refine wp_region_lit ?_
                             refine st_p (Value.int .i64 ((b1 - a1 : Nat) : Int)) hA ?_; clear hA ac; intro ac hA
                             refine st_q (Value.int .i64 (((b1 - a1) / 8 : Nat) : Int)) hA hW.cls (Rd.pureE (v0 := Value.int .i64 (IntKind.i64.wrap (Int.tdiv (((b1 - a1 : Nat) : Int) : Int) 8))) (fun _ => by kernel_rfl) (congrArg (Value.int .i64) ((congrArg IntKind.i64.wrap (quo_ (x := ((b1 - a1 : Nat) : Int)) (by omega))).trans (w_i64 (by omega) (by omega))))) ?_; clear hA ac; intro ac hA
                             refine st_p (Value.int .i64 (((b1 - a1) / 8 : Nat) : Int)) hA ?_; clear hA ac; intro ac hA
                             refine wpList_nil ?_
                             refine thenN ?_
                             refine wp_seq ?_
                             refine wp_region_lit ?_
                             refine st_p (Value.int .i64 ((u94 - a1 : Nat) : Int)) hA ?_; clear hA ac; intro ac hA
                             refine st_p (Value.int .i64 ((b1 - u94 : Nat) : Int)) hA ?_; clear hA ac; intro ac hA
                             refine st_p (Value.bool (decide ((((u94 - a1 : Nat) : Int) : Int) < (((b1 - u94 : Nat) : Int) : Int)))) hA ?_; clear hA ac; intro ac hA
                             refine wpList_nil ?_
                             refine thenN ?_
                             refine wp_cond_split (t := decide ((((u94 - a1 : Nat) : Int) : Int) < (((b1 - u94 : Nat) : Int) : Int))) (hA.eval (by kernel_rfl)) (fun h96 => ?_) (fun h96 => ?_)
                             · skip
                               have h96 := of_decide_eq_true h96
                               first
                               | (exfalso; clear hA hW; omega)
                               | (
                                 refine wp_seq ?_
                                 refine wp_region_lit ?_
                                 refine st_p (Value.int .i64 ((u94 - a1 : Nat) : Int)) hA ?_; clear hA ac; intro ac hA
                                 refine st_p (Value.int .i64 (((b1 - a1) / 8 : Nat) : Int)) hA ?_; clear hA ac; intro ac hA
                                 refine st_p (Value.bool (decide ((((u94 - a1 : Nat) : Int) : Int) ≥ ((((b1 - a1) / 8 : Nat) : Int) : Int)))) hA ?_; clear hA ac; intro ac hA
                                 refine st_p (Value.bool (decide ((((u94 - a1 : Nat) : Int) : Int) ≥ ((((b1 - a1) / 8 : Nat) : Int) : Int)))) hA ?_; clear hA ac; intro ac hA
                                 refine wpList_nil ?_
                                 refine thenN ?_
                                 refine wp_seq ?_
                                 refine wp_region_lit ?_
                                 refine st_p (Value.slice (some ⟨b84, o85, none⟩) n_l c_l) hA ?_; clear hA ac; intro ac hA
                                 refine st_p (Value.int .i64 ((a1 : Nat) : Int)) hA ?_; clear hA ac; intro ac hA
                                 refine st_p (Value.int .i64 ((u94 : Nat) : Int)) hA ?_; clear hA ac; intro ac hA
                                 refine st_p (Value.int .i64 ((lim1 : Nat) : Int)) hA ?_; clear hA ac; intro ac hA
                                 refine st_s hA (Runs.call (fun _ => by kernel_rfl) (hrec (some ⟨b84, o85, none⟩) n_l c_l u93 (a1) (u94) (lim1) w92 ((hW).get 0 rfl) ((hW).lt _ (List.mem_of_getElem? (i := 0) rfl)) (by first | omega | assumption) (by first | omega | assumption) (by first | omega | assumption)) ?_)
                                 rintro _ w97 ⟨u98, rfl, hw97_hA, hw97_hL, hu_⟩; refine ⟨_, rfl, ?_⟩; replace hW := hW.upd (H' := [rowR 35 1 enU4 (Value.slice (some ⟨b84, o85, none⟩) n_l c_l) u98]) 0 rfl hu_ rfl; clear hA ac; intro ac hA
                                 refine wpList_nil ?_
                                 refine thenN ?_
                                 refine wp_region_lit ?_
                                 refine st_p (Value.int .i64 ((u94 : Nat) : Int)) hA ?_; clear hA ac; intro ac hA
                                 refine st_q (Value.int .i64 ((u94 + 1 : Nat) : Int)) hA hW.cls (Rd.pureE (v0 := Value.int .i64 (IntKind.i64.wrap ((((u94 : Nat) : Int) : Int) + 1))) (fun _ => by kernel_rfl) (congrArg (Value.int .i64) ((w_i64 (x := (((u94 : Nat) : Int) : Int) + 1) (by omega) (by omega)).trans (by omega)))) ?_; clear hA ac; intro ac hA
                                 refine st_p (Value.int .i64 ((u94 + 1 : Nat) : Int)) hA ?_; clear hA ac; intro ac hA
                                 refine wpList_nil ?_
                                 refine blkN ?_
                                 refine thenN ?_
                                 exact ⟨(b1) - (u94 + 1), by omega, u94 + 1, b1, lim1, decide ((((u94 - a1 : Nat) : Int) : Int) ≥ ((((b1 - a1) / 8 : Nat) : Int) : Int)), u95, u98, rfl, by omega, by rw [← hq3, p3_l hc3_ hw92_hA hw92_hR (by omega) hw97_hA]; congr 1; exact decide_eq_decide.2 (by omega), by rw [hw97_hL, hw92_hL]; exact hl2_, hA.sub ⟨⟨by kernel_rfl, by kernel_rfl⟩, ⟨by kernel_rfl, by kernel_rfl⟩, ⟨by kernel_rfl, by kernel_rfl⟩, ⟨by kernel_rfl, by kernel_rfl⟩, ⟨by kernel_rfl, by kernel_rfl⟩, ⟨by kernel_rfl, by kernel_rfl⟩, trivial⟩, (hW.pick [0] (by decide) rfl).pickG [] rfl⟩)
                             · skip
                               have h96 := of_decide_eq_false h96
                               first
                               | (exfalso; clear hA hW; omega)
                               | (
                                 refine wp_seq ?_
                                 refine wp_region_lit ?_
                                 refine st_p (Value.int .i64 ((b1 - u94 : Nat) : Int)) hA ?_; clear hA ac; intro ac hA
                                 refine st_p (Value.int .i64 (((b1 - a1) / 8 : Nat) : Int)) hA ?_; clear hA ac; intro ac hA
                                 refine st_p (Value.bool (decide ((((b1 - u94 : Nat) : Int) : Int) ≥ ((((b1 - a1) / 8 : Nat) : Int) : Int)))) hA ?_; clear hA ac; intro ac hA
                                 refine st_p (Value.bool (decide ((((b1 - u94 : Nat) : Int) : Int) ≥ ((((b1 - a1) / 8 : Nat) : Int) : Int)))) hA ?_; clear hA ac; intro ac hA
                                 refine wpList_nil ?_
                                 refine thenN ?_
                                 refine wp_seq ?_
                                 refine wp_region_lit ?_
                                 refine st_p (Value.slice (some ⟨b84, o85, none⟩) n_l c_l) hA ?_; clear hA ac; intro ac hA
                                 refine st_p (Value.int .i64 ((u94 : Nat) : Int)) hA ?_; clear hA ac; intro ac hA
                                 refine st_q (Value.int .i64 ((u94 + 1 : Nat) : Int)) hA hW.cls (Rd.pureE (v0 := Value.int .i64 (IntKind.i64.wrap ((((u94 : Nat) : Int) : Int) + 1))) (fun _ => by kernel_rfl) (congrArg (Value.int .i64) ((w_i64 (x := (((u94 : Nat) : Int) : Int) + 1) (by omega) (by omega)).trans (by omega)))) ?_; clear hA ac; intro ac hA
                                 refine st_p (Value.int .i64 ((b1 : Nat) : Int)) hA ?_; clear hA ac; intro ac hA
                                 refine st_p (Value.int .i64 ((lim1 : Nat) : Int)) hA ?_; clear hA ac; intro ac hA
                                 refine st_s hA (Runs.call (fun _ => by kernel_rfl) (hrec (some ⟨b84, o85, none⟩) n_l c_l u93 (u94 + 1) (b1) (lim1) w92 ((hW).get 0 rfl) ((hW).lt _ (List.mem_of_getElem? (i := 0) rfl)) (by first | omega | assumption) (by first | omega | assumption) (by first | omega | assumption)) ?_)
                                 rintro _ w99 ⟨u100, rfl, hw99_hA, hw99_hL, hu_⟩; refine ⟨_, rfl, ?_⟩; replace hW := hW.upd (H' := [rowR 35 1 enU4 (Value.slice (some ⟨b84, o85, none⟩) n_l c_l) u100]) 0 rfl hu_ rfl; clear hA ac; intro ac hA
                                 refine wpList_nil ?_
                                 refine thenN ?_
                                 refine wp_region_lit ?_
                                 refine st_p (Value.int .i64 ((u94 : Nat) : Int)) hA ?_; clear hA ac; intro ac hA
                                 refine st_p (Value.int .i64 ((u94 : Nat) : Int)) hA ?_; clear hA ac; intro ac hA
                                 refine wpList_nil ?_
                                 refine blkN ?_
                                 refine thenN ?_
                                 exact ⟨(u94) - (a1), by omega, a1, u94, lim1, decide ((((b1 - u94 : Nat) : Int) : Int) ≥ ((((b1 - a1) / 8 : Nat) : Int) : Int)), u95, u100, rfl, by omega, by rw [← hq3, p3_r hc3_ hw92_hA hw92_hR (by omega) hw99_hA]; congr 1; exact decide_eq_decide.2 (by omega), by rw [hw99_hL, hw92_hL]; exact hl2_, hA.sub ⟨⟨by kernel_rfl, by kernel_rfl⟩, ⟨by kernel_rfl, by kernel_rfl⟩, ⟨by kernel_rfl, by kernel_rfl⟩, ⟨by kernel_rfl, by kernel_rfl⟩, ⟨by kernel_rfl, by kernel_rfl⟩, ⟨by kernel_rfl, by kernel_rfl⟩, trivial⟩, (hW.pick [0] (by decide) rfl).pickG [] rfl⟩)))
                     · skip
                       rw [h82] at hA
                       have h82 := of_decide_eq_false h82
                       first
                       | (exfalso; clear hA hW; omega)
                       | (
                         refine sq_k hA ?_; clear hA ac; intro ac hA
                         refine sq_k hA ?_; clear hA ac; intro ac hA
                         refine sq_k hA ?_; clear hA ac; intro ac hA
                         refine sq_k hA ?_; clear hA ac; intro ac hA
                         refine sq_k hA ?_; clear hA ac; intro ac hA
                         refine sq_k hA ?_; clear hA ac; intro ac hA
                         refine sq_k hA ?_; clear hA ac; intro ac hA
                         refine sq_k hA ?_; clear hA ac; intro ac hA
                         refine sq_k hA ?_; clear hA ac; intro ac hA
                         refine sq_k hA ?_; clear hA ac; intro ac hA
                         refine sq_k hA ?_; clear hA ac; intro ac hA
                         refine sq_p (Value.bool false) hA ?_; clear hA ac; intro ac hA
                         refine sq_nil ?_; intro w101 hww101; have hW := hww101.1; have hfw101 := hww101.2; clear hww101
                         refine thenN ?_
                         refine wp_cond_false (hA.eval (by kernel_rfl)) ?_
                         refine wp_skip ?_
                         refine thenN ?_
                         refine wp_seq ?_
                         have hc3_ : a1 = 0 ∨ ∃ x y, d2[a1 - 1]? = some x ∧ d2[pv]? = some y ∧ x < y := .inl (by omega)
                         refine wp_region_lit ?_
                         refine st_p (Value.slice A_l n_l c_l) hA ?_; clear hA ac; intro ac hA
                         refine st_p (Value.int .i64 ((a1 : Nat) : Int)) hA ?_; clear hA ac; intro ac hA
                         refine st_p (Value.int .i64 ((b1 : Nat) : Int)) hA ?_; clear hA ac; intro ac hA
                         refine st_p (Value.int .i64 ((pv : Nat) : Int)) hA ?_; clear hA ac; intro ac hA
                         refine st_s hA (Runs.call (fun _ => by kernel_rfl) (e_part A_l n_l c_l d2 (a1) (b1) (pv) w101 ((hW).get 0 rfl) ((hW).lt _ (List.mem_of_getElem? (i := 0) rfl)) (by first | omega | assumption) (by first | omega | assumption)) ?_)
                         rintro _ w102 ⟨u103, u104, u105, rfl, hw102_hA, hw102_hL, hw102_hR, hu_⟩; refine ⟨_, rfl, ?_⟩; replace hW := hW.upd (H' := [rowR 35 1 enU4 (Value.slice A_l n_l c_l) u103]) 0 rfl hu_ rfl; clear hA ac; intro ac hA
                         refine st_p (Value.tuple #[Value.int .i64 ((u104 : Nat) : Int), Value.bool u105]) hA ?_; clear hA ac; intro ac hA
                         refine st_p (Value.int .i64 ((u104 : Nat) : Int)) hA ?_; clear hA ac; intro ac hA
                         refine st_p (Value.bool u105) hA ?_; clear hA ac; intro ac hA
                         refine st_p (Value.int .i64 ((u104 : Nat) : Int)) hA ?_; clear hA ac; intro ac hA
                         refine st_p (Value.bool u105) hA ?_; clear hA ac; intro ac hA
                         refine wpList_nil ?_
                         refine thenN ?_
                         refine wp_seq ?_
                         refine wp_region_lit ?_
                         refine st_p (Value.bool u105) hA ?_; clear hA ac; intro ac hA
                         refine st_p (Value.bool u105) hA ?_; clear hA ac; intro ac hA
                         refine wpList_nil ?_
                         refine thenN ?_
                         refine wp_seq ?_
                         refine wp_region_lit ?_
                         refine st_p (Value.int .i64 ((u104 : Nat) : Int)) hA ?_; clear hA ac; intro ac hA
                         refine st_p (Value.int .i64 ((a1 : Nat) : Int)) hA ?_; clear hA ac; intro ac hA
                         refine st_q (Value.int .i64 ((u104 - a1 : Nat) : Int)) hA hW.cls (Rd.pureE (v0 := Value.int .i64 (IntKind.i64.wrap ((((u104 : Nat) : Int) : Int) - ((a1 : Nat) : Int)))) (fun _ => by kernel_rfl) (congrArg (Value.int .i64) ((w_i64 (x := (((u104 : Nat) : Int) : Int) - ((a1 : Nat) : Int)) (by omega) (by omega)).trans (by omega)))) ?_; clear hA ac; intro ac hA
                         refine st_p (Value.int .i64 ((b1 : Nat) : Int)) hA ?_; clear hA ac; intro ac hA
                         refine st_p (Value.int .i64 ((u104 : Nat) : Int)) hA ?_; clear hA ac; intro ac hA
                         refine st_q (Value.int .i64 ((b1 - u104 : Nat) : Int)) hA hW.cls (Rd.pureE (v0 := Value.int .i64 (IntKind.i64.wrap ((((b1 : Nat) : Int) : Int) - ((u104 : Nat) : Int)))) (fun _ => by kernel_rfl) (congrArg (Value.int .i64) ((w_i64 (x := (((b1 : Nat) : Int) : Int) - ((u104 : Nat) : Int)) (by omega) (by omega)).trans (by omega)))) ?_; clear hA ac; intro ac hA
                         refine st_p (Value.int .i64 ((u104 - a1 : Nat) : Int)) hA ?_; clear hA ac; intro ac hA
                         refine st_p (Value.int .i64 ((b1 - u104 : Nat) : Int)) hA ?_; clear hA ac; intro ac hA
                         refine wpList_nil ?_
                         refine thenN ?_
                         refine wp_seq ?_
                         refine wp_region_lit ?_
                         refine st_p (Value.int .i64 ((b1 - a1 : Nat) : Int)) hA ?_; clear hA ac; intro ac hA
                         refine st_q (Value.int .i64 (((b1 - a1) / 8 : Nat) : Int)) hA hW.cls (Rd.pureE (v0 := Value.int .i64 (IntKind.i64.wrap (Int.tdiv (((b1 - a1 : Nat) : Int) : Int) 8))) (fun _ => by kernel_rfl) (congrArg (Value.int .i64) ((congrArg IntKind.i64.wrap (quo_ (x := ((b1 - a1 : Nat) : Int)) (by omega))).trans (w_i64 (by omega) (by omega))))) ?_; clear hA ac; intro ac hA
                         refine st_p (Value.int .i64 (((b1 - a1) / 8 : Nat) : Int)) hA ?_; clear hA ac; intro ac hA
                         refine wpList_nil ?_
                         refine thenN ?_
                         refine wp_seq ?_
                         refine wp_region_lit ?_
                         refine st_p (Value.int .i64 ((u104 - a1 : Nat) : Int)) hA ?_; clear hA ac; intro ac hA
                         refine st_p (Value.int .i64 ((b1 - u104 : Nat) : Int)) hA ?_; clear hA ac; intro ac hA
                         refine st_p (Value.bool (decide ((((u104 - a1 : Nat) : Int) : Int) < (((b1 - u104 : Nat) : Int) : Int)))) hA ?_; clear hA ac; intro ac hA
                         refine wpList_nil ?_
                         refine thenN ?_
                         refine wp_cond_split (t := decide ((((u104 - a1 : Nat) : Int) : Int) < (((b1 - u104 : Nat) : Int) : Int))) (hA.eval (by kernel_rfl)) (fun h106 => ?_) (fun h106 => ?_)
                         · skip
                           have h106 := of_decide_eq_true h106
                           first
                           | (exfalso; clear hA hW; omega)
                           | (
                             refine wp_seq ?_
                             refine wp_region_lit ?_
                             refine st_p (Value.int .i64 ((u104 - a1 : Nat) : Int)) hA ?_; clear hA ac; intro ac hA
                             refine st_p (Value.int .i64 (((b1 - a1) / 8 : Nat) : Int)) hA ?_; clear hA ac; intro ac hA
                             refine st_p (Value.bool (decide ((((u104 - a1 : Nat) : Int) : Int) ≥ ((((b1 - a1) / 8 : Nat) : Int) : Int)))) hA ?_; clear hA ac; intro ac hA
                             refine st_p (Value.bool (decide ((((u104 - a1 : Nat) : Int) : Int) ≥ ((((b1 - a1) / 8 : Nat) : Int) : Int)))) hA ?_; clear hA ac; intro ac hA
                             refine wpList_nil ?_
                             refine thenN ?_
                             refine wp_seq ?_
                             refine wp_region_lit ?_
                             refine st_p (Value.slice A_l n_l c_l) hA ?_; clear hA ac; intro ac hA
                             refine st_p (Value.int .i64 ((a1 : Nat) : Int)) hA ?_; clear hA ac; intro ac hA
                             refine st_p (Value.int .i64 ((u104 : Nat) : Int)) hA ?_; clear hA ac; intro ac hA
                             refine st_p (Value.int .i64 ((lim1 : Nat) : Int)) hA ?_; clear hA ac; intro ac hA
                             refine st_s hA (Runs.call (fun _ => by kernel_rfl) (hrec A_l n_l c_l u103 (a1) (u104) (lim1) w102 ((hW).get 0 rfl) ((hW).lt _ (List.mem_of_getElem? (i := 0) rfl)) (by first | omega | assumption) (by first | omega | assumption) (by first | omega | assumption)) ?_)
                             rintro _ w107 ⟨u108, rfl, hw107_hA, hw107_hL, hu_⟩; refine ⟨_, rfl, ?_⟩; replace hW := hW.upd (H' := [rowR 35 1 enU4 (Value.slice A_l n_l c_l) u108]) 0 rfl hu_ rfl; clear hA ac; intro ac hA
                             refine wpList_nil ?_
                             refine thenN ?_
                             refine wp_region_lit ?_
                             refine st_p (Value.int .i64 ((u104 : Nat) : Int)) hA ?_; clear hA ac; intro ac hA
                             refine st_q (Value.int .i64 ((u104 + 1 : Nat) : Int)) hA hW.cls (Rd.pureE (v0 := Value.int .i64 (IntKind.i64.wrap ((((u104 : Nat) : Int) : Int) + 1))) (fun _ => by kernel_rfl) (congrArg (Value.int .i64) ((w_i64 (x := (((u104 : Nat) : Int) : Int) + 1) (by omega) (by omega)).trans (by omega)))) ?_; clear hA ac; intro ac hA
                             refine st_p (Value.int .i64 ((u104 + 1 : Nat) : Int)) hA ?_; clear hA ac; intro ac hA
                             refine wpList_nil ?_
                             refine blkN ?_
                             refine thenN ?_
                             exact ⟨(b1) - (u104 + 1), by omega, u104 + 1, b1, lim1, decide ((((u104 - a1 : Nat) : Int) : Int) ≥ ((((b1 - a1) / 8 : Nat) : Int) : Int)), u105, u108, rfl, by omega, by rw [← hq3, p3_l hc3_ hw102_hA hw102_hR (by omega) hw107_hA]; congr 1; exact decide_eq_decide.2 (by omega), by rw [hw107_hL, hw102_hL]; exact hl2_, hA.sub ⟨⟨by kernel_rfl, by kernel_rfl⟩, ⟨by kernel_rfl, by kernel_rfl⟩, ⟨by kernel_rfl, by kernel_rfl⟩, ⟨by kernel_rfl, by kernel_rfl⟩, ⟨by kernel_rfl, by kernel_rfl⟩, ⟨by kernel_rfl, by kernel_rfl⟩, trivial⟩, (hW.pick [0] (by decide) rfl).pickG [] rfl⟩)
                         · skip
                           have h106 := of_decide_eq_false h106
                           first
                           | (exfalso; clear hA hW; omega)
                           | (
                             refine wp_seq ?_
                             refine wp_region_lit ?_
                             refine st_p (Value.int .i64 ((b1 - u104 : Nat) : Int)) hA ?_; clear hA ac; intro ac hA
                             refine st_p (Value.int .i64 (((b1 - a1) / 8 : Nat) : Int)) hA ?_; clear hA ac; intro ac hA
                             refine st_p (Value.bool (decide ((((b1 - u104 : Nat) : Int) : Int) ≥ ((((b1 - a1) / 8 : Nat) : Int) : Int)))) hA ?_; clear hA ac; intro ac hA
                             refine st_p (Value.bool (decide ((((b1 - u104 : Nat) : Int) : Int) ≥ ((((b1 - a1) / 8 : Nat) : Int) : Int)))) hA ?_; clear hA ac; intro ac hA
                             refine wpList_nil ?_
                             refine thenN ?_
                             refine wp_seq ?_
                             refine wp_region_lit ?_
                             refine st_p (Value.slice A_l n_l c_l) hA ?_; clear hA ac; intro ac hA
                             refine st_p (Value.int .i64 ((u104 : Nat) : Int)) hA ?_; clear hA ac; intro ac hA
                             refine st_q (Value.int .i64 ((u104 + 1 : Nat) : Int)) hA hW.cls (Rd.pureE (v0 := Value.int .i64 (IntKind.i64.wrap ((((u104 : Nat) : Int) : Int) + 1))) (fun _ => by kernel_rfl) (congrArg (Value.int .i64) ((w_i64 (x := (((u104 : Nat) : Int) : Int) + 1) (by omega) (by omega)).trans (by omega)))) ?_; clear hA ac; intro ac hA
                             refine st_p (Value.int .i64 ((b1 : Nat) : Int)) hA ?_; clear hA ac; intro ac hA
                             refine st_p (Value.int .i64 ((lim1 : Nat) : Int)) hA ?_; clear hA ac; intro ac hA
                             refine st_s hA (Runs.call (fun _ => by kernel_rfl) (hrec A_l n_l c_l u103 (u104 + 1) (b1) (lim1) w102 ((hW).get 0 rfl) ((hW).lt _ (List.mem_of_getElem? (i := 0) rfl)) (by first | omega | assumption) (by first | omega | assumption) (by first | omega | assumption)) ?_)
                             rintro _ w109 ⟨u110, rfl, hw109_hA, hw109_hL, hu_⟩; refine ⟨_, rfl, ?_⟩; replace hW := hW.upd (H' := [rowR 35 1 enU4 (Value.slice A_l n_l c_l) u110]) 0 rfl hu_ rfl; clear hA ac; intro ac hA
                             refine wpList_nil ?_
                             refine thenN ?_
                             refine wp_region_lit ?_
                             refine st_p (Value.int .i64 ((u104 : Nat) : Int)) hA ?_; clear hA ac; intro ac hA
                             refine st_p (Value.int .i64 ((u104 : Nat) : Int)) hA ?_; clear hA ac; intro ac hA
                             refine wpList_nil ?_
                             refine blkN ?_
                             refine thenN ?_
                             exact ⟨(u104) - (a1), by omega, a1, u104, lim1, decide ((((b1 - u104 : Nat) : Int) : Int) ≥ ((((b1 - a1) / 8 : Nat) : Int) : Int)), u105, u110, rfl, by omega, by rw [← hq3, p3_r hc3_ hw102_hA hw102_hR (by omega) hw109_hA]; congr 1; exact decide_eq_decide.2 (by omega), by rw [hw109_hL, hw102_hL]; exact hl2_, hA.sub ⟨⟨by kernel_rfl, by kernel_rfl⟩, ⟨by kernel_rfl, by kernel_rfl⟩, ⟨by kernel_rfl, by kernel_rfl⟩, ⟨by kernel_rfl, by kernel_rfl⟩, ⟨by kernel_rfl, by kernel_rfl⟩, ⟨by kernel_rfl, by kernel_rfl⟩, trivial⟩, (hW.pick [0] (by decide) rfl).pickG [] rfl⟩))))
             · skip
               rw [h19] at hA
               first
               | (exfalso; clear hA hW; omega)
               | (
                 refine st_k hA ?_; clear hA ac; intro ac hA
                 refine st_p (Value.bool false) hA ?_; clear hA ac; intro ac hA
                 refine st_p (Value.bool false) hA ?_; clear hA ac; intro ac hA
                 refine st_k hA ?_; clear hA ac; intro ac hA
                 refine st_k hA ?_; clear hA ac; intro ac hA
                 refine st_p (Value.bool false) hA ?_; clear hA ac; intro ac hA
                 refine wpList_nil ?_
                 refine thenN ?_
                 refine wp_cond_false (hA.eval (by kernel_rfl)) ?_
                 refine wp_skip ?_
                 refine thenN ?_
                 refine wp_seq ?_
                 refine wp_seq ?_
                 have hb_wb : wb = false := h19
                 have hand_ : (wb && wp && inc) = false := (by simp [hb_wb])
                 have hq3 : pdq3 d2.toArray (lim1) a1 b1 wb wp (pv) = Sort.pdq Sort.ltInt l.toArray a b limit true true := by rw [← hq2, p2_no hand_]
                 refine q_region (by kernel_rfl) (by kernel_rfl) hW ?_
                 refine sq_p (Value.int .i64 ((a1 : Nat) : Int)) hA ?_; clear hA ac; intro ac hA
                 refine sq_p (Value.bool (decide ((((a1 : Nat) : Int) : Int) > (0 : Int)))) hA ?_; clear hA ac; intro ac hA
                 refine sq_p (Value.bool (decide ((((a1 : Nat) : Int) : Int) > (0 : Int)))) hA ?_; clear hA ac; intro ac hA
                 rcases Bool.eq_false_or_eq_true (decide ((((a1 : Nat) : Int) : Int) > (0 : Int))) with h111 | h111
                 · skip
                   rw [h111] at hA
                   have h111 := of_decide_eq_true h111
                   first
                   | (exfalso; clear hA hW; omega)
                   | (
                     refine sq_p (Value.slice A_l n_l c_l) hA ?_; clear hA ac; intro ac hA
                     refine sq_p (Value.int .i64 ((a1 : Nat) : Int)) hA ?_; clear hA ac; intro ac hA
                     refine sq_q (Value.int .i64 ((a1 - 1 : Nat) : Int)) hA (Rd.pureE (v0 := Value.int .i64 (IntKind.i64.wrap ((((a1 : Nat) : Int) : Int) - 1))) (fun _ => by kernel_rfl) (congrArg (Value.int .i64) ((w_i64 (x := (((a1 : Nat) : Int) : Int) - 1) (by omega) (by omega)).trans (by omega)))) ?_; clear hA ac; intro ac hA
                     obtain ⟨y112, hy112⟩ : ∃ y, d2[a1 - 1]? = some y := ⟨_, List.getElem?_eq_getElem (by first | omega | (simp; done) | (simp; omega))⟩
                     obtain ⟨b113, o114, rfl, hbb113⟩ := row_some (rowR_at ((hW).get 0 rfl) elt_U4.len) hy112
                     refine sq_q (Value.pointer (some ⟨b113, o114 + (a1 - 1) * 1, none⟩)) hA (Rd.indexAddr (e := 35) (sz := 1) (b := b113) (off := o114) (n := n_l) (c := c_l) (k := a1 - 1) (by kernel_rfl) (by kernel_rfl) (by first | omega | (simp; done) | (simp; omega)) (fun _ => by kernel_rfl) (fun _ => by kernel_rfl)) ?_; clear hA ac; intro ac hA
                     refine sq_q (Value.int .u32 y112) hA (Rd.loadRow (b := b113) (i := o114 + (a1 - 1) * 1) (xs := [Value.int .u32 y112]) (by kernel_rfl) (fun _ hw => row_ld (rowR_at ((hw.1).get 0 rfl) elt_U4.len) hy112 (Fr.refl No _) (fun h => h) 0 1 (by kernel_rfl)) (by kernel_rfl)) ?_; clear hA ac; intro ac hA
                     refine sq_p (Value.slice (some ⟨b113, o114, none⟩) n_l c_l) hA ?_; clear hA ac; intro ac hA
                     refine sq_p (Value.int .i64 ((pv : Nat) : Int)) hA ?_; clear hA ac; intro ac hA
                     obtain ⟨y115, hy115⟩ : ∃ y, d2[pv]? = some y := ⟨_, List.getElem?_eq_getElem (by first | omega | (simp; done) | (simp; omega))⟩
                     refine sq_q (Value.pointer (some ⟨b113, o114 + pv * 1, none⟩)) hA (Rd.indexAddr (e := 35) (sz := 1) (b := b113) (off := o114) (n := n_l) (c := c_l) (k := pv) (by kernel_rfl) (by kernel_rfl) (by first | omega | (simp; done) | (simp; omega)) (fun _ => by kernel_rfl) (fun _ => by kernel_rfl)) ?_; clear hA ac; intro ac hA
                     refine sq_q (Value.int .u32 y115) hA (Rd.loadRow (b := b113) (i := o114 + pv * 1) (xs := [Value.int .u32 y115]) (by kernel_rfl) (fun _ hw => row_ld (rowR_at ((hw.1).get 0 rfl) elt_U4.len) hy115 (Fr.refl No _) (fun h => h) 0 1 (by kernel_rfl)) (by kernel_rfl)) ?_; clear hA ac; intro ac hA
                     refine sq_call (v := Value.bool (decide ((y112) < (y115)))) hA (by kernel_rfl) (by kernel_rfl) (by kernel_rfl) (fun _ => by kernel_rfl) (Cls.callNC fun wx hwx => e_less (y112) (y115) wx) ?_; clear hA ac; intro ac hA
                     refine sq_p (Value.bool (!(decide ((y112) < (y115))))) hA ?_; clear hA ac; intro ac hA
                     refine sq_p (Value.bool (!(decide ((y112) < (y115))))) hA ?_; clear hA ac; intro ac hA
                     refine sq_nil ?_; intro w116 hww116; have hW := hww116.1; have hfw116 := hww116.2; clear hww116
                     refine thenN ?_
                     refine wp_cond_split (t := !(decide ((y112) < (y115)))) (hA.eval (by kernel_rfl)) (fun h117 => ?_) (fun h117 => ?_)
                     · skip
                       have h117 := not_t h117
                       have h117 := of_decide_eq_false h117
                       first
                       | (exfalso; clear hA hW; omega)
                       | (
                         refine wp_seq ?_
                         refine wp_region_lit ?_
                         refine st_p (Value.slice (some ⟨b113, o114, none⟩) n_l c_l) hA ?_; clear hA ac; intro ac hA
                         refine st_p (Value.int .i64 ((a1 : Nat) : Int)) hA ?_; clear hA ac; intro ac hA
                         refine st_p (Value.int .i64 ((b1 : Nat) : Int)) hA ?_; clear hA ac; intro ac hA
                         refine st_p (Value.int .i64 ((pv : Nat) : Int)) hA ?_; clear hA ac; intro ac hA
                         refine st_s hA (Runs.call (fun _ => by kernel_rfl) (e_parteq (some ⟨b113, o114, none⟩) n_l c_l d2 (a1) (b1) (pv) w116 ((hW).get 0 rfl) ((hW).lt _ (List.mem_of_getElem? (i := 0) rfl)) (by first | omega | assumption) (by first | omega | assumption)) ?_)
                         rintro _ w118 ⟨u119, u120, rfl, hw118_hA, hw118_hL, hw118_hR, hu_⟩; refine ⟨_, rfl, ?_⟩; replace hW := hW.upd (H' := [rowR 35 1 enU4 (Value.slice (some ⟨b113, o114, none⟩) n_l c_l) u119]) 0 rfl hu_ rfl; clear hA ac; intro ac hA
                         refine st_p (Value.int .i64 ((u120 : Nat) : Int)) hA ?_; clear hA ac; intro ac hA
                         refine wpList_nil ?_
                         refine thenN ?_
                         refine wp_seq ?_
                         refine wp_region_lit ?_
                         refine st_p (Value.int .i64 ((u120 : Nat) : Int)) hA ?_; clear hA ac; intro ac hA
                         refine st_p (Value.int .i64 ((u120 : Nat) : Int)) hA ?_; clear hA ac; intro ac hA
                         refine wpList_nil ?_
                         refine thenN ?_
                         refine wp_exit ?_
                         refine thenX ?_
                         refine blkX ?_
                         refine thenN ?_
                         exact ⟨(b1) - (u120), by omega, u120, b1, lim1, false, wp, u119, rfl, by omega, by rw [← hq3, p3_eq (by omega) hy112 hy115 (by omega) hw118_hA hw118_hR, h19], by rw [hw118_hL]; exact hl2_, hA.sub ⟨⟨by kernel_rfl, by kernel_rfl⟩, ⟨by kernel_rfl, by kernel_rfl⟩, ⟨by kernel_rfl, by kernel_rfl⟩, ⟨by kernel_rfl, by kernel_rfl⟩, ⟨by kernel_rfl, by kernel_rfl⟩, ⟨by kernel_rfl, by kernel_rfl⟩, trivial⟩, (hW.pick [0] (by decide) rfl).pickG [] rfl⟩)
                     · skip
                       have h117 := not_f h117
                       have h117 := of_decide_eq_true h117
                       first
                       | (exfalso; clear hA hW; omega)
                       | (
                         refine wp_skip ?_
                         refine thenN ?_
                         refine wp_seq ?_
                         have hc3_ : a1 = 0 ∨ ∃ x y, d2[a1 - 1]? = some x ∧ d2[pv]? = some y ∧ x < y := .inr ⟨_, _, hy112, hy115, by omega⟩
                         refine wp_region_lit ?_
                         refine st_p (Value.slice (some ⟨b113, o114, none⟩) n_l c_l) hA ?_; clear hA ac; intro ac hA
                         refine st_p (Value.int .i64 ((a1 : Nat) : Int)) hA ?_; clear hA ac; intro ac hA
                         refine st_p (Value.int .i64 ((b1 : Nat) : Int)) hA ?_; clear hA ac; intro ac hA
                         refine st_p (Value.int .i64 ((pv : Nat) : Int)) hA ?_; clear hA ac; intro ac hA
                         refine st_s hA (Runs.call (fun _ => by kernel_rfl) (e_part (some ⟨b113, o114, none⟩) n_l c_l d2 (a1) (b1) (pv) w116 ((hW).get 0 rfl) ((hW).lt _ (List.mem_of_getElem? (i := 0) rfl)) (by first | omega | assumption) (by first | omega | assumption)) ?_)
                         rintro _ w121 ⟨u122, u123, u124, rfl, hw121_hA, hw121_hL, hw121_hR, hu_⟩; refine ⟨_, rfl, ?_⟩; replace hW := hW.upd (H' := [rowR 35 1 enU4 (Value.slice (some ⟨b113, o114, none⟩) n_l c_l) u122]) 0 rfl hu_ rfl; clear hA ac; intro ac hA
                         refine st_p (Value.tuple #[Value.int .i64 ((u123 : Nat) : Int), Value.bool u124]) hA ?_; clear hA ac; intro ac hA
                         refine st_p (Value.int .i64 ((u123 : Nat) : Int)) hA ?_; clear hA ac; intro ac hA
                         refine st_p (Value.bool u124) hA ?_; clear hA ac; intro ac hA
                         refine st_p (Value.int .i64 ((u123 : Nat) : Int)) hA ?_; clear hA ac; intro ac hA
                         refine st_p (Value.bool u124) hA ?_; clear hA ac; intro ac hA
                         refine wpList_nil ?_
                         refine thenN ?_
                         refine wp_seq ?_
                         refine wp_region_lit ?_
                         refine st_p (Value.bool u124) hA ?_; clear hA ac; intro ac hA
                         refine st_p (Value.bool u124) hA ?_; clear hA ac; intro ac hA
                         refine wpList_nil ?_
                         refine thenN ?_
                         refine wp_seq ?_
                         refine wp_region_lit ?_
                         refine st_p (Value.int .i64 ((u123 : Nat) : Int)) hA ?_; clear hA ac; intro ac hA
                         refine st_p (Value.int .i64 ((a1 : Nat) : Int)) hA ?_; clear hA ac; intro ac hA
                         refine st_q (Value.int .i64 ((u123 - a1 : Nat) : Int)) hA hW.cls (Rd.pureE (v0 := Value.int .i64 (IntKind.i64.wrap ((((u123 : Nat) : Int) : Int) - ((a1 : Nat) : Int)))) (fun _ => by kernel_rfl) (congrArg (Value.int .i64) ((w_i64 (x := (((u123 : Nat) : Int) : Int) - ((a1 : Nat) : Int)) (by omega) (by omega)).trans (by omega)))) ?_; clear hA ac; intro ac hA
                         refine st_p (Value.int .i64 ((b1 : Nat) : Int)) hA ?_; clear hA ac; intro ac hA
                         refine st_p (Value.int .i64 ((u123 : Nat) : Int)) hA ?_; clear hA ac; intro ac hA
                         refine st_q (Value.int .i64 ((b1 - u123 : Nat) : Int)) hA hW.cls (Rd.pureE (v0 := Value.int .i64 (IntKind.i64.wrap ((((b1 : Nat) : Int) : Int) - ((u123 : Nat) : Int)))) (fun _ => by kernel_rfl) (congrArg (Value.int .i64) ((w_i64 (x := (((b1 : Nat) : Int) : Int) - ((u123 : Nat) : Int)) (by omega) (by omega)).trans (by omega)))) ?_; clear hA ac; intro ac hA
                         refine st_p (Value.int .i64 ((u123 - a1 : Nat) : Int)) hA ?_; clear hA ac; intro ac hA
                         refine st_p (Value.int .i64 ((b1 - u123 : Nat) : Int)) hA ?_; clear hA ac; intro ac hA
                         refine wpList_nil ?_
                         refine thenN ?_
                         refine wp_seq ?_
                         refine wp_region_lit ?_
                         refine st_p (Value.int .i64 ((b1 - a1 : Nat) : Int)) hA ?_; clear hA ac; intro ac hA
                         refine st_q (Value.int .i64 (((b1 - a1) / 8 : Nat) : Int)) hA hW.cls (Rd.pureE (v0 := Value.int .i64 (IntKind.i64.wrap (Int.tdiv (((b1 - a1 : Nat) : Int) : Int) 8))) (fun _ => by kernel_rfl) (congrArg (Value.int .i64) ((congrArg IntKind.i64.wrap (quo_ (x := ((b1 - a1 : Nat) : Int)) (by omega))).trans (w_i64 (by omega) (by omega))))) ?_; clear hA ac; intro ac hA
                         refine st_p (Value.int .i64 (((b1 - a1) / 8 : Nat) : Int)) hA ?_; clear hA ac; intro ac hA
                         refine wpList_nil ?_
                         refine thenN ?_
                         refine wp_seq ?_
                         refine wp_region_lit ?_
                         refine st_p (Value.int .i64 ((u123 - a1 : Nat) : Int)) hA ?_; clear hA ac; intro ac hA
                         refine st_p (Value.int .i64 ((b1 - u123 : Nat) : Int)) hA ?_; clear hA ac; intro ac hA
                         refine st_p (Value.bool (decide ((((u123 - a1 : Nat) : Int) : Int) < (((b1 - u123 : Nat) : Int) : Int)))) hA ?_; clear hA ac; intro ac hA
                         refine wpList_nil ?_
                         refine thenN ?_
                         refine wp_cond_split (t := decide ((((u123 - a1 : Nat) : Int) : Int) < (((b1 - u123 : Nat) : Int) : Int))) (hA.eval (by kernel_rfl)) (fun h125 => ?_) (fun h125 => ?_)
                         · skip
                           have h125 := of_decide_eq_true h125
                           first
                           | (exfalso; clear hA hW; omega)
                           | (
                             refine wp_seq ?_
                             refine wp_region_lit ?_
                             refine st_p (Value.int .i64 ((u123 - a1 : Nat) : Int)) hA ?_; clear hA ac; intro ac hA
                             refine st_p (Value.int .i64 (((b1 - a1) / 8 : Nat) : Int)) hA ?_; clear hA ac; intro ac hA
                             refine st_p (Value.bool (decide ((((u123 - a1 : Nat) : Int) : Int) ≥ ((((b1 - a1) / 8 : Nat) : Int) : Int)))) hA ?_; clear hA ac; intro ac hA
                             refine st_p (Value.bool (decide ((((u123 - a1 : Nat) : Int) : Int) ≥ ((((b1 - a1) / 8 : Nat) : Int) : Int)))) hA ?_; clear hA ac; intro ac hA
                             refine wpList_nil ?_
                             refine thenN ?_
                             refine wp_seq ?_
                             refine wp_region_lit ?_
                             refine st_p (Value.slice (some ⟨b113, o114, none⟩) n_l c_l) hA ?_; clear hA ac; intro ac hA
                             refine st_p (Value.int .i64 ((a1 : Nat) : Int)) hA ?_; clear hA ac; intro ac hA
                             refine st_p (Value.int .i64 ((u123 : Nat) : Int)) hA ?_; clear hA ac; intro ac hA
                             refine st_p (Value.int .i64 ((lim1 : Nat) : Int)) hA ?_; clear hA ac; intro ac hA
                             refine st_s hA (Runs.call (fun _ => by kernel_rfl) (hrec (some ⟨b113, o114, none⟩) n_l c_l u122 (a1) (u123) (lim1) w121 ((hW).get 0 rfl) ((hW).lt _ (List.mem_of_getElem? (i := 0) rfl)) (by first | omega | assumption) (by first | omega | assumption) (by first | omega | assumption)) ?_)
                             rintro _ w126 ⟨u127, rfl, hw126_hA, hw126_hL, hu_⟩; refine ⟨_, rfl, ?_⟩; replace hW := hW.upd (H' := [rowR 35 1 enU4 (Value.slice (some ⟨b113, o114, none⟩) n_l c_l) u127]) 0 rfl hu_ rfl; clear hA ac; intro ac hA
                             refine wpList_nil ?_
                             refine thenN ?_
                             refine wp_region_lit ?_
                             refine st_p (Value.int .i64 ((u123 : Nat) : Int)) hA ?_; clear hA ac; intro ac hA
                             refine st_q (Value.int .i64 ((u123 + 1 : Nat) : Int)) hA hW.cls (Rd.pureE (v0 := Value.int .i64 (IntKind.i64.wrap ((((u123 : Nat) : Int) : Int) + 1))) (fun _ => by kernel_rfl) (congrArg (Value.int .i64) ((w_i64 (x := (((u123 : Nat) : Int) : Int) + 1) (by omega) (by omega)).trans (by omega)))) ?_; clear hA ac; intro ac hA
                             refine st_p (Value.int .i64 ((u123 + 1 : Nat) : Int)) hA ?_; clear hA ac; intro ac hA
                             refine wpList_nil ?_
                             refine blkN ?_
                             refine thenN ?_
                             exact ⟨(b1) - (u123 + 1), by omega, u123 + 1, b1, lim1, decide ((((u123 - a1 : Nat) : Int) : Int) ≥ ((((b1 - a1) / 8 : Nat) : Int) : Int)), u124, u127, rfl, by omega, by rw [← hq3, p3_l hc3_ hw121_hA hw121_hR (by omega) hw126_hA]; congr 1; exact decide_eq_decide.2 (by omega), by rw [hw126_hL, hw121_hL]; exact hl2_, hA.sub ⟨⟨by kernel_rfl, by kernel_rfl⟩, ⟨by kernel_rfl, by kernel_rfl⟩, ⟨by kernel_rfl, by kernel_rfl⟩, ⟨by kernel_rfl, by kernel_rfl⟩, ⟨by kernel_rfl, by kernel_rfl⟩, ⟨by kernel_rfl, by kernel_rfl⟩, trivial⟩, (hW.pick [0] (by decide) rfl).pickG [] rfl⟩)
                         · skip
                           have h125 := of_decide_eq_false h125
                           first
                           | (exfalso; clear hA hW; omega)
                           | (
                             refine wp_seq ?_
                             refine wp_region_lit ?_
                             refine st_p (Value.int .i64 ((b1 - u123 : Nat) : Int)) hA ?_; clear hA ac; intro ac hA
                             refine st_p (Value.int .i64 (((b1 - a1) / 8 : Nat) : Int)) hA ?_; clear hA ac; intro ac hA
                             refine st_p (Value.bool (decide ((((b1 - u123 : Nat) : Int) : Int) ≥ ((((b1 - a1) / 8 : Nat) : Int) : Int)))) hA ?_; clear hA ac; intro ac hA
                             refine st_p (Value.bool (decide ((((b1 - u123 : Nat) : Int) : Int) ≥ ((((b1 - a1) / 8 : Nat) : Int) : Int)))) hA ?_; clear hA ac; intro ac hA
                             refine wpList_nil ?_
                             refine thenN ?_
                             refine wp_seq ?_
                             refine wp_region_lit ?_
                             refine st_p (Value.slice (some ⟨b113, o114, none⟩) n_l c_l) hA ?_; clear hA ac; intro ac hA
                             refine st_p (Value.int .i64 ((u123 : Nat) : Int)) hA ?_; clear hA ac; intro ac hA
                             refine st_q (Value.int .i64 ((u123 + 1 : Nat) : Int)) hA hW.cls (Rd.pureE (v0 := Value.int .i64 (IntKind.i64.wrap ((((u123 : Nat) : Int) : Int) + 1))) (fun _ => by kernel_rfl) (congrArg (Value.int .i64) ((w_i64 (x := (((u123 : Nat) : Int) : Int) + 1) (by omega) (by omega)).trans (by omega)))) ?_; clear hA ac; intro ac hA
                             refine st_p (Value.int .i64 ((b1 : Nat) : Int)) hA ?_; clear hA ac; intro ac hA
                             refine st_p (Value.int .i64 ((lim1 : Nat) : Int)) hA ?_; clear hA ac; intro ac hA
                             refine st_s hA (Runs.call (fun _ => by kernel_rfl) (hrec (some ⟨b113, o114, none⟩) n_l c_l u122 (u123 + 1) (b1) (lim1) w121 ((hW).get 0 rfl) ((hW).lt _ (List.mem_of_getElem? (i := 0) rfl)) (by first | omega | assumption) (by first | omega | assumption) (by first | omega | assumption)) ?_)
                             rintro _ w128 ⟨u129, rfl, hw128_hA, hw128_hL, hu_⟩; refine ⟨_, rfl, ?_⟩; replace hW := hW.upd (H' := [rowR 35 1 enU4 (Value.slice (some ⟨b113, o114, none⟩) n_l c_l) u129]) 0 rfl hu_ rfl; clear hA ac; intro ac hA
                             refine wpList_nil ?_
                             refine thenN ?_
                             refine wp_region_lit ?_
                             refine st_p (Value.int .i64 ((u123 : Nat) : Int)) hA ?_; clear hA ac; intro ac hA
                             refine st_p (Value.int .i64 ((u123 : Nat) : Int)) hA ?_; clear hA ac; intro ac hA
                             refine wpList_nil ?_
                             refine blkN ?_
                             refine thenN ?_
                             exact ⟨(u123) - (a1), by omega, a1, u123, lim1, decide ((((b1 - u123 : Nat) : Int) : Int) ≥ ((((b1 - a1) / 8 : Nat) : Int) : Int)), u124, u129, rfl, by omega, by rw [← hq3, p3_r hc3_ hw121_hA hw121_hR (by omega) hw128_hA]; congr 1; exact decide_eq_decide.2 (by omega), by rw [hw128_hL, hw121_hL]; exact hl2_, hA.sub ⟨⟨by kernel_rfl, by kernel_rfl⟩, ⟨by kernel_rfl, by kernel_rfl⟩, ⟨by kernel_rfl, by kernel_rfl⟩, ⟨by kernel_rfl, by kernel_rfl⟩, ⟨by kernel_rfl, by kernel_rfl⟩, ⟨by kernel_rfl, by kernel_rfl⟩, trivial⟩, (hW.pick [0] (by decide) rfl).pickG [] rfl⟩)))
                 · skip
                   rw [h111] at hA
                   have h111 := of_decide_eq_false h111
                   first
                   | (exfalso; clear hA hW; omega)
                   | (
                     refine sq_k hA ?_; clear hA ac; intro ac hA
                     refine sq_k hA ?_; clear hA ac; intro ac hA
                     refine sq_k hA ?_; clear hA ac; intro ac hA
                     refine sq_k hA ?_; clear hA ac; intro ac hA
                     refine sq_k hA ?_; clear hA ac; intro ac hA
                     refine sq_k hA ?_; clear hA ac; intro ac hA
                     refine sq_k hA ?_; clear hA ac; intro ac hA
                     refine sq_k hA ?_; clear hA ac; intro ac hA
                     refine sq_k hA ?_; clear hA ac; intro ac hA
                     refine sq_k hA ?_; clear hA ac; intro ac hA
                     refine sq_k hA ?_; clear hA ac; intro ac hA
                     refine sq_p (Value.bool false) hA ?_; clear hA ac; intro ac hA
                     refine sq_nil ?_; intro w130 hww130; have hW := hww130.1; have hfw130 := hww130.2; clear hww130
                     refine thenN ?_
                     refine wp_cond_false (hA.eval (by kernel_rfl)) ?_
                     refine wp_skip ?_
                     refine thenN ?_
                     refine wp_seq ?_
                     have hc3_ : a1 = 0 ∨ ∃ x y, d2[a1 - 1]? = some x ∧ d2[pv]? = some y ∧ x < y := .inl (by omega)
                     refine wp_region_lit ?_
                     refine st_p (Value.slice A_l n_l c_l) hA ?_; clear hA ac; intro ac hA
                     refine st_p (Value.int .i64 ((a1 : Nat) : Int)) hA ?_; clear hA ac; intro ac hA
                     refine st_p (Value.int .i64 ((b1 : Nat) : Int)) hA ?_; clear hA ac; intro ac hA
                     refine st_p (Value.int .i64 ((pv : Nat) : Int)) hA ?_; clear hA ac; intro ac hA
                     refine st_s hA (Runs.call (fun _ => by kernel_rfl) (e_part A_l n_l c_l d2 (a1) (b1) (pv) w130 ((hW).get 0 rfl) ((hW).lt _ (List.mem_of_getElem? (i := 0) rfl)) (by first | omega | assumption) (by first | omega | assumption)) ?_)
                     rintro _ w131 ⟨u132, u133, u134, rfl, hw131_hA, hw131_hL, hw131_hR, hu_⟩; refine ⟨_, rfl, ?_⟩; replace hW := hW.upd (H' := [rowR 35 1 enU4 (Value.slice A_l n_l c_l) u132]) 0 rfl hu_ rfl; clear hA ac; intro ac hA
                     refine st_p (Value.tuple #[Value.int .i64 ((u133 : Nat) : Int), Value.bool u134]) hA ?_; clear hA ac; intro ac hA
                     refine st_p (Value.int .i64 ((u133 : Nat) : Int)) hA ?_; clear hA ac; intro ac hA
                     refine st_p (Value.bool u134) hA ?_; clear hA ac; intro ac hA
                     refine st_p (Value.int .i64 ((u133 : Nat) : Int)) hA ?_; clear hA ac; intro ac hA
                     refine st_p (Value.bool u134) hA ?_; clear hA ac; intro ac hA
                     refine wpList_nil ?_
                     refine thenN ?_
                     refine wp_seq ?_
                     refine wp_region_lit ?_
                     refine st_p (Value.bool u134) hA ?_; clear hA ac; intro ac hA
                     refine st_p (Value.bool u134) hA ?_; clear hA ac; intro ac hA
                     refine wpList_nil ?_
                     refine thenN ?_
                     refine wp_seq ?_
                     refine wp_region_lit ?_
                     refine st_p (Value.int .i64 ((u133 : Nat) : Int)) hA ?_; clear hA ac; intro ac hA
                     refine st_p (Value.int .i64 ((a1 : Nat) : Int)) hA ?_; clear hA ac; intro ac hA
                     refine st_q (Value.int .i64 ((u133 - a1 : Nat) : Int)) hA hW.cls (Rd.pureE (v0 := Value.int .i64 (IntKind.i64.wrap ((((u133 : Nat) : Int) : Int) - ((a1 : Nat) : Int)))) (fun _ => by kernel_rfl) (congrArg (Value.int .i64) ((w_i64 (x := (((u133 : Nat) : Int) : Int) - ((a1 : Nat) : Int)) (by omega) (by omega)).trans (by omega)))) ?_; clear hA ac; intro ac hA
                     refine st_p (Value.int .i64 ((b1 : Nat) : Int)) hA ?_; clear hA ac; intro ac hA
                     refine st_p (Value.int .i64 ((u133 : Nat) : Int)) hA ?_; clear hA ac; intro ac hA
                     refine st_q (Value.int .i64 ((b1 - u133 : Nat) : Int)) hA hW.cls (Rd.pureE (v0 := Value.int .i64 (IntKind.i64.wrap ((((b1 : Nat) : Int) : Int) - ((u133 : Nat) : Int)))) (fun _ => by kernel_rfl) (congrArg (Value.int .i64) ((w_i64 (x := (((b1 : Nat) : Int) : Int) - ((u133 : Nat) : Int)) (by omega) (by omega)).trans (by omega)))) ?_; clear hA ac; intro ac hA
                     refine st_p (Value.int .i64 ((u133 - a1 : Nat) : Int)) hA ?_; clear hA ac; intro ac hA
                     refine st_p (Value.int .i64 ((b1 - u133 : Nat) : Int)) hA ?_; clear hA ac; intro ac hA
                     refine wpList_nil ?_
                     refine thenN ?_
                     refine wp_seq ?_
                     refine wp_region_lit ?_
                     refine st_p (Value.int .i64 ((b1 - a1 : Nat) : Int)) hA ?_; clear hA ac; intro ac hA
                     refine st_q (Value.int .i64 (((b1 - a1) / 8 : Nat) : Int)) hA hW.cls (Rd.pureE (v0 := Value.int .i64 (IntKind.i64.wrap (Int.tdiv (((b1 - a1 : Nat) : Int) : Int) 8))) (fun _ => by kernel_rfl) (congrArg (Value.int .i64) ((congrArg IntKind.i64.wrap (quo_ (x := ((b1 - a1 : Nat) : Int)) (by omega))).trans (w_i64 (by omega) (by omega))))) ?_; clear hA ac; intro ac hA
                     refine st_p (Value.int .i64 (((b1 - a1) / 8 : Nat) : Int)) hA ?_; clear hA ac; intro ac hA
                     refine wpList_nil ?_
                     refine thenN ?_
                     refine wp_seq ?_
                     refine wp_region_lit ?_
                     refine st_p (Value.int .i64 ((u133 - a1 : Nat) : Int)) hA ?_; clear hA ac; intro ac hA
                     refine st_p (Value.int .i64 ((b1 - u133 : Nat) : Int)) hA ?_; clear hA ac; intro ac hA
                     refine st_p (Value.bool (decide ((((u133 - a1 : Nat) : Int) : Int) < (((b1 - u133 : Nat) : Int) : Int)))) hA ?_; clear hA ac; intro ac hA
                     refine wpList_nil ?_
                     refine thenN ?_
                     refine wp_cond_split (t := decide ((((u133 - a1 : Nat) : Int) : Int) < (((b1 - u133 : Nat) : Int) : Int))) (hA.eval (by kernel_rfl)) (fun h135 => ?_) (fun h135 => ?_)
                     · skip
                       have h135 := of_decide_eq_true h135
                       first
                       | (exfalso; clear hA hW; omega)
                       | (
                         refine wp_seq ?_
                         refine wp_region_lit ?_
                         refine st_p (Value.int .i64 ((u133 - a1 : Nat) : Int)) hA ?_; clear hA ac; intro ac hA
                         refine st_p (Value.int .i64 (((b1 - a1) / 8 : Nat) : Int)) hA ?_; clear hA ac; intro ac hA
                         refine st_p (Value.bool (decide ((((u133 - a1 : Nat) : Int) : Int) ≥ ((((b1 - a1) / 8 : Nat) : Int) : Int)))) hA ?_; clear hA ac; intro ac hA
                         refine st_p (Value.bool (decide ((((u133 - a1 : Nat) : Int) : Int) ≥ ((((b1 - a1) / 8 : Nat) : Int) : Int)))) hA ?_; clear hA ac; intro ac hA
                         refine wpList_nil ?_
                         refine thenN ?_
                         refine wp_seq ?_
                         refine wp_region_lit ?_
                         refine st_p (Value.slice A_l n_l c_l) hA ?_; clear hA ac; intro ac hA
                         refine st_p (Value.int .i64 ((a1 : Nat) : Int)) hA ?_; clear hA ac; intro ac hA
                         refine st_p (Value.int .i64 ((u133 : Nat) : Int)) hA ?_; clear hA ac; intro ac hA
                         refine st_p (Value.int .i64 ((lim1 : Nat) : Int)) hA ?_; clear hA ac; intro ac hA
                         refine st_s hA (Runs.call (fun _ => by kernel_rfl) (hrec A_l n_l c_l u132 (a1) (u133) (lim1) w131 ((hW).get 0 rfl) ((hW).lt _ (List.mem_of_getElem? (i := 0) rfl)) (by first | omega | assumption) (by first | omega | assumption) (by first | omega | assumption)) ?_)
                         rintro _ w136 ⟨u137, rfl, hw136_hA, hw136_hL, hu_⟩; refine ⟨_, rfl, ?_⟩; replace hW := hW.upd (H' := [rowR 35 1 enU4 (Value.slice A_l n_l c_l) u137]) 0 rfl hu_ rfl; clear hA ac; intro ac hA
                         refine wpList_nil ?_
                         refine thenN ?_
                         refine wp_region_lit ?_
                         refine st_p (Value.int .i64 ((u133 : Nat) : Int)) hA ?_; clear hA ac; intro ac hA
                         refine st_q (Value.int .i64 ((u133 + 1 : Nat) : Int)) hA hW.cls (Rd.pureE (v0 := Value.int .i64 (IntKind.i64.wrap ((((u133 : Nat) : Int) : Int) + 1))) (fun _ => by kernel_rfl) (congrArg (Value.int .i64) ((w_i64 (x := (((u133 : Nat) : Int) : Int) + 1) (by omega) (by omega)).trans (by omega)))) ?_; clear hA ac; intro ac hA
                         refine st_p (Value.int .i64 ((u133 + 1 : Nat) : Int)) hA ?_; clear hA ac; intro ac hA
                         refine wpList_nil ?_
                         refine blkN ?_
                         refine thenN ?_
                         exact ⟨(b1) - (u133 + 1), by omega, u133 + 1, b1, lim1, decide ((((u133 - a1 : Nat) : Int) : Int) ≥ ((((b1 - a1) / 8 : Nat) : Int) : Int)), u134, u137, rfl, by omega, by rw [← hq3, p3_l hc3_ hw131_hA hw131_hR (by omega) hw136_hA]; congr 1; exact decide_eq_decide.2 (by omega), by rw [hw136_hL, hw131_hL]; exact hl2_, hA.sub ⟨⟨by kernel_rfl, by kernel_rfl⟩, ⟨by kernel_rfl, by kernel_rfl⟩, ⟨by kernel_rfl, by kernel_rfl⟩, ⟨by kernel_rfl, by kernel_rfl⟩, ⟨by kernel_rfl, by kernel_rfl⟩, ⟨by kernel_rfl, by kernel_rfl⟩, trivial⟩, (hW.pick [0] (by decide) rfl).pickG [] rfl⟩)
                     · skip
                       have h135 := of_decide_eq_false h135
                       first
                       | (exfalso; clear hA hW; omega)
                       | (
                         refine wp_seq ?_
                         refine wp_region_lit ?_
                         refine st_p (Value.int .i64 ((b1 - u133 : Nat) : Int)) hA ?_; clear hA ac; intro ac hA
                         refine st_p (Value.int .i64 (((b1 - a1) / 8 : Nat) : Int)) hA ?_; clear hA ac; intro ac hA
                         refine st_p (Value.bool (decide ((((b1 - u133 : Nat) : Int) : Int) ≥ ((((b1 - a1) / 8 : Nat) : Int) : Int)))) hA ?_; clear hA ac; intro ac hA
                         refine st_p (Value.bool (decide ((((b1 - u133 : Nat) : Int) : Int) ≥ ((((b1 - a1) / 8 : Nat) : Int) : Int)))) hA ?_; clear hA ac; intro ac hA
                         refine wpList_nil ?_
                         refine thenN ?_
                         refine wp_seq ?_
                         refine wp_region_lit ?_
                         refine st_p (Value.slice A_l n_l c_l) hA ?_; clear hA ac; intro ac hA
                         refine st_p (Value.int .i64 ((u133 : Nat) : Int)) hA ?_; clear hA ac; intro ac hA
                         refine st_q (Value.int .i64 ((u133 + 1 : Nat) : Int)) hA hW.cls (Rd.pureE (v0 := Value.int .i64 (IntKind.i64.wrap ((((u133 : Nat) : Int) : Int) + 1))) (fun _ => by kernel_rfl) (congrArg (Value.int .i64) ((w_i64 (x := (((u133 : Nat) : Int) : Int) + 1) (by omega) (by omega)).trans (by omega)))) ?_; clear hA ac; intro ac hA
                         refine st_p (Value.int .i64 ((b1 : Nat) : Int)) hA ?_; clear hA ac; intro ac hA
                         refine st_p (Value.int .i64 ((lim1 : Nat) : Int)) hA ?_; clear hA ac; intro ac hA
                         refine st_s hA (Runs.call (fun _ => by kernel_rfl) (hrec A_l n_l c_l u132 (u133 + 1) (b1) (lim1) w131 ((hW).get 0 rfl) ((hW).lt _ (List.mem_of_getElem? (i := 0) rfl)) (by first | omega | assumption) (by first | omega | assumption) (by first | omega | assumption)) ?_)
                         rintro _ w138 ⟨u139, rfl, hw138_hA, hw138_hL, hu_⟩; refine ⟨_, rfl, ?_⟩; replace hW := hW.upd (H' := [rowR 35 1 enU4 (Value.slice A_l n_l c_l) u139]) 0 rfl hu_ rfl; clear hA ac; intro ac hA
                         refine wpList_nil ?_
                         refine thenN ?_
                         refine wp_region_lit ?_
                         refine st_p (Value.int .i64 ((u133 : Nat) : Int)) hA ?_; clear hA ac; intro ac hA
                         refine st_p (Value.int .i64 ((u133 : Nat) : Int)) hA ?_; clear hA ac; intro ac hA
                         refine wpList_nil ?_
                         refine blkN ?_
                         refine thenN ?_
                         exact ⟨(u133) - (a1), by omega, a1, u133, lim1, decide ((((b1 - u133 : Nat) : Int) : Int) ≥ ((((b1 - a1) / 8 : Nat) : Int) : Int)), u134, u139, rfl, by omega, by rw [← hq3, p3_r hc3_ hw131_hA hw131_hR (by omega) hw138_hA]; congr 1; exact decide_eq_decide.2 (by omega), by rw [hw138_hL, hw131_hL]; exact hl2_, hA.sub ⟨⟨by kernel_rfl, by kernel_rfl⟩, ⟨by kernel_rfl, by kernel_rfl⟩, ⟨by kernel_rfl, by kernel_rfl⟩, ⟨by kernel_rfl, by kernel_rfl⟩, ⟨by kernel_rfl, by kernel_rfl⟩, ⟨by kernel_rfl, by kernel_rfl⟩, trivial⟩, (hW.pick [0] (by decide) rfl).pickG [] rfl⟩)))))

end Go.Proofs.Ytcgcippmbeileaa.L
