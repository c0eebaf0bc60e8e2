/- Contracts, walked by program over the engine's laws. -/
import Derived.Test.YtefmglgejjaipaaGreatDoorProg
import Derived.Test.YtefmglgejjaipaaGreatDoorT19
namespace Go.Proofs.YtefmglgejjaipaaGreatDoor.L
open Go.RowKit
open Go.Value renaming int → vI, slice → vS, bool → vB, pointer → vP, func → vF, agg → vA, map → vM, tuple → vT

theorem sift_none {L : List Event} {n : Nat} {j : Int} (h : (L.length : Int) ≤ j) : siftL L n j = [] := by
  unfold siftL; rw [List.filter_eq_nil_iff.2, List.map_nil]
  intro i _; unfold befE; rw [decide_eq_false (by omega)]; simp
/-! ### how often a goroutine comes -/
def gAt (L : List Event) (i : Nat) (g : Int) : Bool := match L[i]? with
  | some e => e.g == g
  | none => false
def cntI (L : List Event) (l : List Int) (g : Int) : Int := ((l.filter fun i => gAt L i.toNat g).length : Nat)
theorem cntI_snoc (L : List Event) (l : List Int) (i g : Int) : cntI L (l ++ [i]) g = cntI L l g + if gAt L i.toNat g = true then 1 else 0 := by
  unfold cntI; rw [List.filter_append, List.length_append]
  by_cases h : gAt L i.toNat g = true
  · rw [if_pos h]; simp [h]
  · rw [if_neg h]; simp [h]
/-- Of the first so many: those of a goroutine of which something is so. -/
def cntN (L : List Event) (P : Nat → Bool) (n : Nat) (g : Int) : Int := (((List.range n).filter fun i => P i && gAt L i g).length : Nat)
theorem cntN_succ (L : List Event) (P : Nat → Bool) (n : Nat) (g : Int) : cntN L P (n + 1) g = cntN L P n g + if (P n && gAt L n g) = true then 1 else 0 := by
  unfold cntN; rw [List.range_succ, List.filter_append, List.length_append]
  by_cases h : (P n && gAt L n g) = true
  · rw [if_pos h]; simp [h]
  · rw [if_neg h]; simp [h]
theorem cnt_take (L : List Event) (n : Nat) (g : Int) (hn : n < L.length) : cntG (L.take (n + 1)) g = cntG (L.take n) g + if gAt L n g = true then 1 else 0 := by
  obtain ⟨e, he⟩ : ∃ e, L[n]? = some e := ⟨_, List.getElem?_eq_getElem hn⟩
  rw [tk_snoc he, cnt_snoc]; unfold gAt; rw [he]; simp
theorem cntN_pos {L : List Event} {P : Nat → Bool} {m g : Int} (hm : 0 ≤ m) (hP : ∀ i e, L[i]? = some e → e.g = g → (P i = true ↔ pos L i g ≤ m)) : ∀ n : Nat, n ≤ L.length → cntN L P n g = min m (cntG (L.take n) g)
  | 0, _ => by simp [cntN, cntG]; omega
  | n + 1, hn => by
    have ih := cntN_pos hm hP n (by omega)
    rw [cntN_succ, cnt_take L n g (by omega), ih]
    by_cases hg : gAt L n g = true
    · obtain ⟨e, he⟩ : ∃ e, L[n]? = some e := ⟨_, List.getElem?_eq_getElem (by omega)⟩
      have heg : e.g = g := by unfold gAt at hg; rw [he] at hg; simpa using hg
      have hp := hP n e he heg
      have hpos : pos L n g = cntG (L.take n) g + 1 := by unfold pos; rw [cnt_take L n g (by omega), if_pos hg]
      rw [if_pos hg]
      by_cases q : P n = true
      · have := hp.1 q; rw [if_pos (by rw [q, hg]; rfl)]; omega
      · have : ¬ pos L n g ≤ m := fun r => q (hp.2 r)
        rw [if_neg (by rw [Bool.and_eq_true]; exact fun r => q r.1)]; omega
    · rw [if_neg hg, if_neg (by rw [Bool.and_eq_true]; exact fun r => hg r.2)]; omega
theorem cntN_eq {L : List Event} {P : Nat → Bool} {j : Nat} (hP : ∀ i, j < i → P i = false) (g : Int) : ∀ d : Nat, cntN L P (j + 1 + d) g = cntN L P (j + 1) g
  | 0 => rfl
  | d + 1 => by rw [← Nat.add_assoc, cntN_succ, cntN_eq hP g d, hP (j + 1 + d) (by omega)]; simp
theorem cntI_sift (L : List Event) (P : Nat → Bool) (j : Nat) (g : Int) : ∀ n : Nat, n ≤ j → (∀ i, i < j → P i = befE L (i : Int) (j : Int)) → cntI L (siftL L n (j : Int)) g = cntN L P n g
  | 0, _, _ => by simp [cntI, cntN, siftL]
  | n + 1, hn, hP => by
    rw [sift_snoc, cntN_succ, ← cntI_sift L P j g n (by omega) hP, hP n (by omega)]
    by_cases h : befE L (n : Int) (j : Int) = true
    · rw [if_pos h, cntI_snoc, Int.toNat_natCast, h, Bool.true_and]
    · rw [if_neg h, List.append_nil]; rw [if_neg (by rw [Bool.and_eq_true]; exact fun r => h r.1)]; omega
/-- An event's clock tells how many are ahead of it, or itself, goroutine by goroutine. -/
theorem clk_cnt {L : List Event} (h : ∀ e ∈ L, EvOk e) {j : Nat} (hj : j < L.length) (g : Int) : getC (clk L j) g = cntI L (siftL L j (j : Int) ++ [(j : Int)]) g := by
  obtain ⟨hr, -⟩ := (clkInv h).c j _ (clk_at hj)
  have hm := (hr.2 g).1
  have hub := (hr.2 g).2
  let P : Nat → Bool := fun i => decide (i = j) || befE L (i : Int) (j : Int)
  have hPj : ∀ i, j < i → P i = false := fun i hi => by
    show (decide (i = j) || befE L (i : Int) (j : Int)) = false
    rw [decide_eq_false (by omega)]; unfold befE; rw [decide_eq_false (by omega)]; rfl
  have hP : ∀ i e, L[i]? = some e → e.g = g → (P i = true ↔ pos L i g ≤ getC (clk L j) g) := fun i e he hg => by
    have q := hr.1 i e he
    rw [hg] at q
    rw [← q]
    show (decide (i = j) || befE L (i : Int) (j : Int)) = true ↔ _
    rw [Bool.or_eq_true, decide_eq_true_eq]
    by_cases hij : i < j
    · rw [bef_iff h hij hj]
    · constructor
      · rintro (r | r)
        · exact .inl r
        · unfold befE at r; rw [decide_eq_false (by omega)] at r; cases r
      · rintro (r | r)
        · exact .inl r
        · exact absurd r.lt hij
  have h1 := cntN_pos hm hP L.length (Nat.le_refl _)
  rw [List.take_length] at h1
  obtain ⟨d, hd⟩ : ∃ d, L.length = j + 1 + d := ⟨L.length - (j + 1), by omega⟩
  rw [hd, cntN_eq hPj] at h1
  have hPlt : ∀ i, i < j → P i = befE L (i : Int) (j : Int) := fun i hi => by show (decide (i = j) || _) = _; rw [decide_eq_false (by omega)]; rfl
  rw [cntI_snoc, Int.toNat_natCast, cntI_sift L P j g j (Nat.le_refl _) hPlt]
  rw [cntN_succ] at h1
  have hPjj : P j = true := by show (decide (j = j) || _) = true; rw [decide_eq_true rfl]; rfl
  rw [hPjj, Bool.true_and] at h1
  omega
theorem trim_idem (c : List Int) : trimC (trimC c) = trimC c := by
  rw [← List.reverse_reverse c]
  generalize c.reverse = r
  induction r with
  | nil => rfl
  | cons y r ih =>
    rw [List.reverse_cons]
    by_cases hy : y = 0
    · subst hy; rw [trim_snoc0]; exact ih
    · rw [trim_snoc hy, trim_snoc hy]
theorem trim_ext {a b : List Int} (h : ∀ i : Nat, getC a (i : Int) = getC b (i : Int)) : trimC a = trimC b := by
  have key : ∀ (n : Nat) (a b : List Int), a.length + b.length ≤ n → (∀ i : Nat, getC a (i : Int) = getC b (i : Int)) → trimC a = trimC b := by
    intro n
    induction n with
    | zero =>
      intro a b hn _
      have e1 := List.eq_nil_of_length_eq_zero (l := a) (by omega); have e2 := List.eq_nil_of_length_eq_zero (l := b) (by omega)
      subst e1; subst e2; rfl
    | succ n ih =>
      intro a b hn h
      have drop : ∀ (a b : List Int), a.length + b.length ≤ n + 1 → (∀ i : Nat, getC a (i : Int) = getC b (i : Int)) → b.length < a.length → trimC a = trimC b := by
        intro a b hn h hl
        have hne : a ≠ [] := by intro e; subst e; simp at hl
        obtain ⟨a', y, rfl⟩ : ∃ a' y, a = a' ++ [y] := ⟨a.dropLast, a.getLast hne, (List.dropLast_concat_getLast hne).symm⟩
        have hy : y = 0 := by
          have := h a'.length
          rw [getC_nat, getC_nat, List.getElem?_append_right (Nat.le_refl _), Nat.sub_self, List.getElem?_eq_none (l := b) (by simp at hl; omega)] at this
          simpa using this
        subst hy
        rw [trim_snoc0]
        refine ih _ _ (by simp at hn; omega) fun i => ?_
        rw [← h i, getC_nat, getC_nat]
        by_cases hi : i < a'.length
        · rw [List.getElem?_append_left hi]
        · rw [List.getElem?_eq_none (by omega), List.getElem?_append_right (by omega)]
          by_cases e : i = a'.length
          · subst e; simp
          · rw [List.getElem?_eq_none (by simp; omega)]
      by_cases h1 : b.length < a.length
      · exact drop a b hn h h1
      · by_cases h2 : a.length < b.length
        · exact (drop b a (by omega) (fun i => (h i).symm) h2).symm
        · congr 1
          refine List.ext_getElem (by omega) fun i hi hj => ?_
          have := h i
          rwa [getC_nat, getC_nat, List.getElem?_eq_getElem hi, List.getElem?_eq_getElem hj] at this
  exact key _ a b (Nat.le_refl _) h
theorem clk_trim {L : List Event} {j : Nat} (hj : j < L.length) : trimC (clk L j) = clk L j := by
  have key : ∀ (n : Nat), n ≤ L.length → ∀ (j : Nat) (c : List Int), (stOf (L.take n)).ck[j]? = some c → trimC c = c := by
    intro n
    induction n with
    | zero => intro _ j c h; simp [stOf] at h
    | succ n ih =>
      intro hn j c h
      obtain ⟨e, he⟩ : ∃ e, L[n]? = some e := ⟨_, List.getElem?_eq_getElem (by omega)⟩
      rw [tk_snoc he, stOf_snoc] at h
      have hck : (stOf (L.take n)).ck ++ [tick1 (accS (stOf (L.take n)) e) e.g] = (addS (stOf (L.take n)) e).ck := rfl
      rw [← hck, List.getElem?_append] at h
      split at h
      · exact ih (by omega) j c h
      · have := List.mem_of_getElem? h; rw [List.mem_singleton] at this; subst this; unfold tick1; exact trim_idem _
  have := key L.length (Nat.le_refl _) j (clk L j)
  rw [List.take_length] at this
  exact this (clk_at hj)
/-- The document's clock. -/
theorem clk_eq {L : List Event} (h : ∀ e ∈ L, EvOk e) {j : Nat} (hj : j < L.length) {c : List Int} (hc : ∀ g, getC c g = cntI L (siftL L j (j : Int) ++ [(j : Int)]) g) : trimC c = clk L j := by
  rw [← clk_trim hj]; exact trim_ext fun i => by rw [hc, clk_cnt h hj]
theorem getC_app0 (c : List Int) (g : Int) : getC (c ++ [0]) g = getC c g := by rw [← getC_trim, trim_snoc0, getC_trim]
theorem getC_set {c : List Int} {i y : Int} (h0 : 0 ≤ i) (hy : c[i.toNat]? = some y) (v g : Int) : getC (c.set i.toNat v) g = if g = i then v else getC c g := by
  have hl := (List.getElem?_eq_some_iff.1 hy).1
  unfold getC
  by_cases e : g = i
  · subst e; rw [if_neg (by omega), List.getElem?_set_self hl, if_pos rfl]; rfl
  · rw [if_neg e]
    by_cases q : g < 0
    · rw [if_pos q, if_pos q]
    · rw [if_neg q, if_neg q, List.getElem?_set_ne (by omega)]
theorem cntI_le (L : List Event) (l : List Int) (g : Int) : 0 ≤ cntI L l g ∧ cntI L l g ≤ l.length := by
  unfold cntI; have := List.length_filter_le (fun i : Int => gAt L i.toNat g) l; omega
theorem gAt_at {L : List Event} {i : Nat} {e : Event} (h : L[i]? = some e) (g : Int) : gAt L i g = (e.g == g) := by unfold gAt; rw [h]
set_option maxRecDepth 100000 in
theorem e_rall (A_L : Option Addr) (c_L : Nat) (L : List Event) (A_B : Option Addr) (c_B : Nat) (B : List BV) (j : Int) (w : World) (hr_L : RowAt w A_L 9 enEvent L) (hc_L : L.length ≤ c_L) (hr_B : RowAt w A_B 1 enBV B) (hc_B : B.length ≤ c_B) (hn_B : (nestR innerBV B).p w) (hk_B : ∀ x_ ∈ B, capBV x_) (hL : L.length ≤ 4096) (hev : ∀ e ∈ L, EvOk e) (hB : B.map BV.l = ahM L) (hj : -9223372036854775808 ≤ j ∧ j ≤ 9223372036854775807) : Calls Tryz.prog 21 #[vA #[vS A_L L.length c_L, vS A_B B.length c_B], vI .i64 j] w (Fresh 3 1 enI64 (siftL L (Int.toNat j) j) w) := by
 have _hu := hc_L; have _hv := hr_L; clear _hu _hv
 have _hu := hc_B; have _hv := hr_B; clear _hu _hv
 have _hu := hk_B; have _hv := hn_B; clear _hu _hv
 have _hu := hL; clear _hu
 have _hu := hev; clear _hu
 have _hu := hB; clear _hu
 have _hu := hj; clear _hu
 have hbl_ := ah_blen hB
 refine enter_E 32 Tryz.func21 rfl rfl (by kernel_rfl) (L := [(0, vA #[vS A_L L.length c_L, vS A_B B.length c_B]), (1, vI .i64 j)]) (by kernel_rfl) ?_
 intro ac hA
 have hW := Ws.start w No
 have hW := hW.arg hr_L
 have hW := hW.arg hr_B
 have hW := hW.addG _ hn_B (nest_ltBV hn_B) (by simp)
 refine wr <| st_s hA (Runs.cells (fun b => pA b 0) #[vS A_L L.length c_L, vS A_B B.length c_B] 31 (fun _ => by kernel_rfl) hW ?_); clear hA ac hW; intro b1 w2 hW hb1 hfw2 ac hA
 refine st_p (vS none 0 0) hA ?_; clear hA ac; intro ac hA
 refine wn <| wr <| st_p (vS none 0 0) hA ?_; clear hA ac; intro ac hA
 refine wn <| wp_seq <| wr <| st_p (vI .i64 0) hA ?_; clear hA ac; intro ac hA
 refine wn <| wp_block ?_
 have hW := hW.addNil 3 1 enI64
 refine wp_loop_m (fun m_ ac_ wl_ => ∃ k : Nat, ∃ d : List Int, ∃ A : Option Addr, ∃ cc : Nat, m_ = j.toNat - k ∧ (d = siftL L k j) ∧ (k = 0 ∨ (k : Int) ≤ j) ∧ (d.length ≤ cc) ∧ Fm 32 [] [(1, vI .i64 j), (2, pA b1 0), (5, vS A d.length cc), (6, vI .i64 (k : Int))] ac_ ∧ Ws w No [rowR 3 1 enI64 (vS A d.length cc) d, Cel b1 #[vS A_L L.length c_L, vS A_B B.length c_B] 31] [nestR innerBV B, roR A_B 1 enBV B, roR A_L 9 enEvent L] wl_) _ ⟨0, [], none, 0, rfl, by rfl, by omega, by simp, hA.sub (by and_intros <;> first | kernel_rfl | trivial), (hW.pick [0, 1] (by decide) rfl).pickG [0, 1, 2] rfl⟩ ?_
 clear hA ac hW; rintro m_ ac w3 ⟨k, d, A, cc, rfl, hd, hk, hcc, hA, hW⟩
 have hsl_ := sift_len L j k; rw [← hd] at hsl_
 refine wp_seq <| wr <| st_p (vI .i64 (k : Int)) hA fun ac hA => st_p (vI .i64 j) hA fun ac hA => st_p (vB (decide ((k : Int) < (j : Int)))) hA fun ac hA => st_p (vB (decide ((k : Int) < (j : Int)))) hA fun ac hA => ?_
 rcases Bool.eq_false_or_eq_true (decide ((k : Int) < (j : Int))) with h4 | h4
 ·
  rw [h4] at hA
  have h4 := of_decide_eq_true h4
  first
  | (exfalso; clear hA hW; omega)
  | (
   refine st_p (vI .i64 j) hA fun ac hA => st_p (pA b1 0) hA fun ac hA => st_q (vS A_L L.length c_L) hA hW.cls (rl b1 0 1) fun ac hA => st_p (vI .i64 (L.length : Int)) hA fun ac hA => st_p (vB (decide ((j : Int) < (L.length : Int)))) hA fun ac hA => st_p (vB (decide ((j : Int) < (L.length : Int)))) hA fun ac hA => wn <| wp_cond_split (t := decide ((j : Int) < (L.length : Int))) (hA.eval (by kernel_rfl)) (fun h5 => ?_) (fun h5 => ?_)
   ·
    have h5 := of_decide_eq_true h5
    first
    | (exfalso; clear hA hW; omega)
    | (
     refine wp_skip <| thenN <| wp_seq <| wp_block <| wr <| st_p (pA b1 1) hA fun ac hA => st_q (vS A_B B.length c_B) hA hW.cls (rl b1 1 1) fun ac hA => st_p (vI .i64 j) hA fun ac hA => ?_
     obtain ⟨y6, hy6⟩ : ∃ y, B[Int.toNat (j)]? = some y := ⟨_, List.getElem?_eq_getElem (by first | omega | (simp; done) | (simp; omega) | (have := ah_len hB (by assumption); omega))⟩
     rcases y6 with ⟨y6_l, y6_l_A, y6_l_c⟩
     obtain ⟨b7, o8, rfl, hbb7⟩ := row_some ((hW).getG 1 rfl) hy6
     refine st_q (vP (some ⟨b7, o8 + (Int.toNat (j)) * 1, none⟩)) hA hW.cls (Rd.indexAddrI (e := 76) (sz := 1) (b := b7) (off := o8) (n := B.length) (c := c_B) (k := j) (by kernel_rfl) (by kernel_rfl) (by omega) (by first | omega | (simp; done) | (simp; omega) | (have := ah_len hB (by assumption); omega)) (fun _ => by kernel_rfl) (fun _ => by kernel_rfl)) ?_; clear hA ac; intro ac hA
     have hW := hW.nestAt 0 rfl (List.mem_of_getElem? hy6)
     have hc_y6_l : y6_l.length ≤ y6_l_c := hk_B _ (List.mem_of_getElem? hy6)
     replace hW : Ws w No [rowR 3 1 enI64 (vS A d.length cc) d, Cel b1 #[vS A_L L.length c_L, vS (some ⟨b7, o8, none⟩) B.length c_B] 31] [roR y6_l_A 1 enBo y6_l, nestR innerBV B, roR (some ⟨b7, o8, none⟩) 1 enBV B, roR A_L 9 enEvent L] w3 := hW
     refine st_q (vS y6_l_A y6_l.length y6_l_c) hA hW.cls (Rd.loadRow (b := b7) (i := o8 + (Int.toNat (j)) * 1) (xs := [vS y6_l_A y6_l.length y6_l_c]) (by kernel_rfl) (fun _ hw => row_ld ((hw.1).getG 2 rfl) hy6 (Fr.refl No _) (fun h => h) 0 1 (by kernel_rfl)) (by kernel_rfl)) fun ac hA => st_p (vI .i64 (k : Int)) hA fun ac hA => ?_
     obtain ⟨y9, hy9⟩ : ∃ y, y6_l[k]? = some y := ⟨_, List.getElem?_eq_getElem (by first | omega | (simp; done) | (simp; omega) | (have := ah_len hB (by assumption); omega))⟩
     obtain ⟨b10, o11, rfl, hbb10⟩ := row_some ((hW).getG 0 rfl) hy9
     refine st_q (vP (some ⟨b10, o11 + k * 1, none⟩)) hA hW.cls (Rd.indexAddr (e := 4) (sz := 1) (b := b10) (off := o11) (n := y6_l.length) (c := y6_l_c) (k := k) (by kernel_rfl) (by kernel_rfl) (by first | omega | (simp; done) | (simp; omega) | (have := ah_len hB (by assumption); omega)) (fun _ => by kernel_rfl) (fun _ => by kernel_rfl)) fun ac hA => st_q (vB y9) hA hW.cls (Rd.loadRow (b := b10) (i := o11 + k * 1) (xs := [vB y9]) (by kernel_rfl) (fun _ hw => row_ld ((hw.1).getG 0 rfl) hy9 (Fr.refl No _) (fun h => h) 0 1 (by kernel_rfl)) (by kernel_rfl)) fun ac hA => wn <| wp_cond_split (t := y9) (hA.eval (by kernel_rfl)) (fun h12 => ?_) (fun h12 => ?_)
     ·
      first
      | (exfalso; clear hA hW; omega)
      | (
       refine wp_region_lit <| st_p (vS A d.length cc) hA fun ac hA => st_p (vI .i64 (k : Int)) hA fun ac hA => st_s hA (Runs.cells (fun b => vS (some ⟨b, 0, none⟩) 1 1) #[vI .i64 (k : Int)] 3 (fun _ => by kernel_rfl) hW ?_); clear hA ac hW; intro b13 w14 hW hb13 hfw14 ac hA
       refine st_s hA (Runs.appOwn (B := (some ⟨b13, 0, none⟩)) (k := 1) (E := 3) (sz := 1) (en := enI64) (l := d) (m := ([(k : Int)] : List Int)) (i := 1) (by kernel_rfl) (by kernel_rfl) elt_I64 (by kernel_rfl) hW rfl (rowAt_cel ((hW).cel 0 rfl) ([(k : Int)] : List Int) (by rfl) elt_I64.len) (by first | omega | (simp; done) | (simp; omega)) (by first | omega | (simp; done) | (simp; omega)) ?_); clear hA ac hW; intro A15 c16 w17 hW hcc16 ac hA
       refine st_p (vS A15 (d ++ ([(k : Int)] : List Int)).length c16) hA ?_; clear hA ac; intro ac hA
       refine wpList_nil <| blkN <| thenN <| wp_region_lit <| st_p (vI .i64 (k : Int)) hA fun ac hA => st_q (vI .i64 ((k + 1 : Nat) : Int)) hA hW.cls (Rd.pureE (v0 := vI .i64 (IntKind.i64.wrap ((k : Int) + 1))) (fun _ => by kernel_rfl) (congrArg (vI .i64) ((w_i64 (x := (k : Int) + 1) (by omega) (by omega)).trans (by omega)))) fun ac hA => st_p (vI .i64 ((k + 1 : Nat) : Int)) hA fun ac hA => wn ?_
       exact ⟨j.toNat - (k + 1), by omega, k + 1, d ++ ([(k : Int)] : List Int), A15, c16, rfl, by have q_ := ah_el hB hy6 hy9; rw [Int.toNat_of_nonneg (by omega)] at q_; rw [sift_snoc, if_pos (q_.symm.trans h12), hd], by omega, by exact hcc16, hA.sub (by and_intros <;> first | kernel_rfl | trivial), (hW.pick [1, 2] (by decide) rfl).pickG [1, 2, 3] rfl⟩)
     first
     | (exfalso; clear hA hW; omega)
     | (
      refine wp_skip <| blkN <| thenN <| wp_region_lit <| st_p (vI .i64 (k : Int)) hA fun ac hA => st_q (vI .i64 ((k + 1 : Nat) : Int)) hA hW.cls (Rd.pureE (v0 := vI .i64 (IntKind.i64.wrap ((k : Int) + 1))) (fun _ => by kernel_rfl) (congrArg (vI .i64) ((w_i64 (x := (k : Int) + 1) (by omega) (by omega)).trans (by omega)))) fun ac hA => st_p (vI .i64 ((k + 1 : Nat) : Int)) hA fun ac hA => wn ?_
      exact ⟨j.toNat - (k + 1), by omega, k + 1, d, A, cc, rfl, by have q_ := ah_el hB hy6 hy9; rw [Int.toNat_of_nonneg (by omega)] at q_; rw [sift_snoc, if_neg (by rw [← q_, h12]; decide), hd, List.append_nil], by omega, by exact hcc, hA.sub (by and_intros <;> first | kernel_rfl | trivial), (hW.pick [0, 1] (by decide) rfl).pickG [1, 2, 3] rfl⟩))
   have h5 := of_decide_eq_false h5
   first
   | (exfalso; clear hA hW; omega)
   | (
    refine wp_exit <| thenX <| thenX <| blkX <| thenN <| wr <| st_p (vS A d.length cc) hA fun ac hA => st_p (vS A d.length cc) hA fun ac hA => wn <| wp_ret <| r1 (vS A d.length cc) hA ?_
    clear hA
    have hq_ : siftL L j.toNat j = d := by
     by_cases q : (L.length : Int) ≤ j
     · rw [sift_none q, hd, sift_none q]
     · rw [hd, show k = j.toNat from by omega]
    rw [hq_]; exact ⟨_, rfl, hW.fresh 0 rfl (fun _ h => h), hW.fr⟩))
 rw [h4] at hA
 have h4 := of_decide_eq_false h4
 first
 | (exfalso; clear hA hW; omega)
 | (
  refine st_k hA fun ac hA => st_k hA fun ac hA => st_k hA fun ac hA => st_k hA fun ac hA => st_k hA fun ac hA => st_p (vB false) hA fun ac hA => wn <| wp_cond_false (hA.eval (by kernel_rfl)) <| wp_exit <| thenX <| thenX <| blkX <| thenN <| wr <| st_p (vS A d.length cc) hA fun ac hA => st_p (vS A d.length cc) hA fun ac hA => wn <| wp_ret <| r1 (vS A d.length cc) hA ?_
  clear hA
  have hq_ : siftL L j.toNat j = d := by
   by_cases q : (L.length : Int) ≤ j
   · rw [sift_none q, hd, sift_none q]
   · rw [hd, show k = j.toNat from by omega]
  rw [hq_]; exact ⟨_, rfl, hW.fresh 0 rfl (fun _ h => h), hW.fr⟩)

set_option maxRecDepth 100000 in
theorem e_r4trim (A_c : Option Addr) (c_c : Nat) (c : List Int) (w : World) (hr_c : RowAt w A_c 1 enU8 c) (hc_c : c.length ≤ c_c) (hl : c.length ≤ 100000) : Calls Tryz.prog 47 #[vS A_c c.length c_c] w (Fresh 51 1 enU8 (trimC c) w) := by
 have _hu := hc_c; have _hv := hr_c; clear _hu _hv
 have _hu := hl; clear _hu
 refine enter_E 22 Tryz.func47 rfl rfl (by kernel_rfl) (L := [(0, vS A_c c.length c_c)]) (by kernel_rfl) ?_
 intro ac hA
 have hW := Ws.start w No
 have hW := hW.arg hr_c
 refine wr <| st_p (vS none 0 0) hA ?_; clear hA ac; intro ac hA
 refine wn <| wr <| st_p (vS A_c c.length c_c) hA fun ac hA => st_p (vI .i64 (c.length : Int)) hA fun ac hA => st_p (vI .i64 (c.length : Int)) hA fun ac hA => wn <| wp_seq <| wp_block <| wp_loop_m (fun m_ ac_ wl_ => ∃ n : Nat, m_ = n + 0 * c.length ∧ (trimC (c.take n) = trimC c) ∧ (n ≤ c.length) ∧ Fm 22 [] [(0, vS A_c c.length c_c), (3, vI .i64 (n : Int))] ac_ ∧ Ws w No [] [roR A_c 1 enU8 c] wl_) _ ⟨c.length, rfl, by rw [List.take_length], by omega, hA.sub ⟨⟨by kernel_rfl, by kernel_rfl⟩, ⟨by kernel_rfl, by kernel_rfl⟩, trivial⟩, (hW.pick [] (by decide) rfl).pickG [0] rfl⟩ ?_
 clear hA ac hW; rintro m_ ac w1 ⟨n, rfl, hn, hnl, hA, hW⟩
 refine wp_seq <| wr <| st_p (vI .i64 (n : Int)) hA fun ac hA => st_p (vB (decide ((n : Int) > (0 : Int)))) hA fun ac hA => st_p (vB (decide ((n : Int) > (0 : Int)))) hA fun ac hA => ?_
 rcases Bool.eq_false_or_eq_true (decide ((n : Int) > (0 : Int))) with h2 | h2
 ·
  rw [h2] at hA
  have h2 := of_decide_eq_true h2
  first
  | (exfalso; clear hA hW; omega)
  | (
   refine st_p (vS A_c c.length c_c) hA fun ac hA => st_p (vI .i64 (n : Int)) hA fun ac hA => st_q (vI .i64 ((n - 1 : Nat) : Int)) hA hW.cls (Rd.pureE (v0 := vI .i64 (IntKind.i64.wrap ((n : Int) - 1))) (fun _ => by kernel_rfl) (congrArg (vI .i64) ((w_i64 (x := (n : Int) - 1) (by omega) (by omega)).trans (by omega)))) fun ac hA => ?_
   obtain ⟨y3, hy3⟩ : ∃ y, c[n - 1]? = some y := ⟨_, List.getElem?_eq_getElem (by first | omega | (simp; done) | (simp; omega))⟩
   obtain ⟨b4, o5, rfl, hbb4⟩ := row_some ((hW).getG 0 rfl) hy3
   refine st_q (vP (some ⟨b4, o5 + (n - 1) * 1, none⟩)) hA hW.cls (Rd.indexAddr (e := 51) (sz := 1) (b := b4) (off := o5) (n := c.length) (c := c_c) (k := n - 1) (by kernel_rfl) (by kernel_rfl) (by first | omega | (simp; done) | (simp; omega)) (fun _ => by kernel_rfl) (fun _ => by kernel_rfl)) fun ac hA => st_q (vI .u64 y3) hA hW.cls (Rd.loadRow (b := b4) (i := o5 + (n - 1) * 1) (xs := [vI .u64 y3]) (by kernel_rfl) (fun _ hw => row_ld ((hw.1).getG 0 rfl) hy3 (Fr.refl No _) (fun h => h) 0 1 (by kernel_rfl)) (by kernel_rfl)) fun ac hA => st_p (vB ((y3 : Int) == (0 : Int))) hA fun ac hA => st_p (vB ((y3 : Int) == (0 : Int))) hA fun ac hA => wn <| wp_cond_split (t := (y3 : Int) == (0 : Int)) (hA.eval (by kernel_rfl)) (fun h6 => ?_) (fun h6 => ?_)
   ·
    have h6 := eq_of_beq h6
    first
    | (exfalso; clear hA hW; omega)
    | (
     refine wp_skip <| thenN <| wp_block <| wp_region_lit <| st_p (vI .i64 (n : Int)) hA fun ac hA => st_q (vI .i64 ((n - 1 : Nat) : Int)) hA hW.cls (Rd.pureE (v0 := vI .i64 (IntKind.i64.wrap ((n : Int) - 1))) (fun _ => by kernel_rfl) (congrArg (vI .i64) ((w_i64 (x := (n : Int) - 1) (by omega) (by omega)).trans (by omega)))) fun ac hA => st_p (vI .i64 ((n - 1 : Nat) : Int)) hA fun ac hA => wpList_nil <| blkN <| thenN ?_
     exact ⟨(n - 1) + 0 * c.length, by omega, n - 1, rfl, by rw [← hn, ← trim_step (d := c.take n) (y := y3) (by rw [List.length_take, Nat.min_eq_left (by omega), List.getElem?_take, if_pos (by omega)]; exact hy3) (by omega), List.take_take, List.length_take, Nat.min_eq_left (by omega), Nat.min_eq_left (by omega)], by omega, hA.sub ⟨⟨by kernel_rfl, by kernel_rfl⟩, ⟨by kernel_rfl, by kernel_rfl⟩, trivial⟩, (hW.pick [] (by decide) rfl).pickG [0] rfl⟩)
   have h6 := ne_of_beq_false h6
   first
   | (exfalso; clear hA hW; omega)
   | (
    refine wp_exit <| thenX <| thenX <| blkX <| thenN <| wr <| st_p (vS (some ⟨b4, o5, none⟩) c.length c_c) hA fun ac hA => st_p (vI .i64 (n : Int)) hA fun ac hA => st_q (vS (some ⟨b4, o5, none⟩) (c.take n).length c_c) hA hW.cls ((Rd.slice (E := 51) (A := (some ⟨b4, o5, none⟩)) (n := c.length) (c := c_c) (l := 0) (h := n) (m := c_c) (sz := 1) (by kernel_rfl) (fun _ => by kernel_rfl) (fun _ => by kernel_rfl) (fun w => bounds_hi (by omega) w)).cast (slice_eq (addr_zero _ _ _) (by first | omega | (simp; done) | (simp; omega)) (by first | omega | (simp; done) | (simp; omega)))) fun ac hA => ?_
    have hW := hW.addNil 51 1 enU8
    refine st_s hA (Runs.appOwn (B := (some ⟨b4, o5, none⟩)) (k := c_c) (E := 51) (sz := 1) (en := enU8) (l := ([] : List Int)) (m := (c.take n)) (i := 0) (by kernel_rfl) (by kernel_rfl) elt_U8 (by kernel_rfl) hW rfl (((hW).getG 0 rfl).takeE n) (by first | omega | (simp; done) | (simp; omega)) (by first | omega | (simp; done) | (simp; omega)) ?_); clear hA ac hW; intro A8 c9 w10 hW hcc9 ac hA
    refine st_p (vS A8 (([] : List Int) ++ (c.take n)).length c9) hA ?_; clear hA ac; intro ac hA
    refine wn <| wp_ret <| r1 (vS A8 (([] : List Int) ++ (c.take n)).length c9) hA ?_
    clear hA
    have hq_ : trimC c = ([] : List Int) ++ (c.take n) := by rw [← hn]; exact trim_done (d := c.take n) (y := y3) (by rw [List.length_take, Nat.min_eq_left (by omega), List.getElem?_take, if_pos (by omega)]; exact hy3) (by omega)
    rw [hq_]; exact ⟨_, rfl, hW.fresh 0 rfl (fun _ h => h), hW.fr⟩))
 rw [h2] at hA
 have h2 := of_decide_eq_false h2
 first
 | (exfalso; clear hA hW; omega)
 | (
  refine st_k hA fun ac hA => st_k hA fun ac hA => st_k hA fun ac hA => st_k hA fun ac hA => st_k hA fun ac hA => st_k hA fun ac hA => st_p (vB false) hA fun ac hA => wn <| wp_cond_false (hA.eval (by kernel_rfl)) <| wp_exit <| thenX <| thenX <| blkX <| thenN <| wr <| st_p (vS A_c c.length c_c) hA fun ac hA => st_p (vI .i64 (n : Int)) hA fun ac hA => st_q (vS A_c (c.take n).length c_c) hA hW.cls ((Rd.slice (E := 51) (A := A_c) (n := c.length) (c := c_c) (l := 0) (h := n) (m := c_c) (sz := 1) (by kernel_rfl) (fun _ => by kernel_rfl) (fun _ => by kernel_rfl) (fun w => bounds_hi (by omega) w)).cast (slice_eq (addr_zero _ _ _) (by first | omega | (simp; done) | (simp; omega)) (by first | omega | (simp; done) | (simp; omega)))) fun ac hA => ?_
  have hW := hW.addNil 51 1 enU8
  refine st_s hA (Runs.appOwn (B := A_c) (k := c_c) (E := 51) (sz := 1) (en := enU8) (l := ([] : List Int)) (m := (c.take n)) (i := 0) (by kernel_rfl) (by kernel_rfl) elt_U8 (by kernel_rfl) hW rfl (((hW).getG 0 rfl).takeE n) (by first | omega | (simp; done) | (simp; omega)) (by first | omega | (simp; done) | (simp; omega)) ?_); clear hA ac hW; intro A12 c13 w14 hW hcc13 ac hA
  refine st_p (vS A12 (([] : List Int) ++ (c.take n)).length c13) hA ?_; clear hA ac; intro ac hA
  refine wn <| wp_ret <| r1 (vS A12 (([] : List Int) ++ (c.take n)).length c13) hA ?_
  clear hA
  have hq_ : trimC c = ([] : List Int) ++ (c.take n) := by rw [← hn, show n = 0 from by omega]; rfl
  rw [hq_]; exact ⟨_, rfl, hW.fresh 0 rfl (fun _ h => h), hW.fr⟩)

set_option maxRecDepth 100000 in
theorem e_rclock (A_L : Option Addr) (c_L : Nat) (L : List Event) (A_B : Option Addr) (c_B : Nat) (B : List BV) (j : Int) (w : World) (hr_L : RowAt w A_L 9 enEvent L) (hc_L : L.length ≤ c_L) (hr_B : RowAt w A_B 1 enBV B) (hc_B : B.length ≤ c_B) (hn_B : (nestR innerBV B).p w) (hk_B : ∀ x_ ∈ B, capBV x_) (hL : L.length ≤ 4096) (hev : ∀ e ∈ L, EvOk e) (hB : B.map BV.l = ahM L) (hj : -9223372036854775808 ≤ j ∧ j ≤ 9223372036854775807) : Calls Tryz.prog 25 #[vA #[vS A_L L.length c_L, vS A_B B.length c_B], vI .i64 j] w (Fresh 51 1 enU8 (clkE L j) w) := by
 have _hu := hc_L; have _hv := hr_L; clear _hu _hv
 have _hu := hc_B; have _hv := hr_B; clear _hu _hv
 have _hu := hk_B; have _hv := hn_B; clear _hu _hv
 have _hu := hL; clear _hu
 have _hu := hev; clear _hu
 have _hu := hB; clear _hu
 have _hu := hj; clear _hu
 have hbl_ := ah_blen hB
 refine enter_E 54 Tryz.func25 rfl rfl (by kernel_rfl) (L := [(0, vA #[vS A_L L.length c_L, vS A_B B.length c_B]), (1, vI .i64 j)]) (by kernel_rfl) ?_
 intro ac hA
 have hW := Ws.start w No
 have hW := hW.arg hr_L
 have hW := hW.arg hr_B
 have hW := hW.addG _ hn_B (nest_ltBV hn_B) (by simp)
 refine wr <| st_s hA (Runs.cells (fun b => pA b 0) #[vS A_L L.length c_L, vS A_B B.length c_B] 31 (fun _ => by kernel_rfl) hW ?_); clear hA ac hW; intro b1 w2 hW hb1 hfw2 ac hA
 refine st_p (vS none 0 0) hA ?_; clear hA ac; intro ac hA
 refine wn <| wp_seq <| wr <| st_p (vI .i64 j) hA fun ac hA => st_p (vB (decide ((j : Int) < (0 : Int)))) hA fun ac hA => st_p (vB (decide ((j : Int) < (0 : Int)))) hA fun ac hA => ?_
 rcases Bool.eq_false_or_eq_true (decide ((j : Int) < (0 : Int))) with h3 | h3
 ·
  rw [h3] at hA
  have h3 := of_decide_eq_true h3
  first
  | (exfalso; clear hA hW; omega)
  | (
   refine st_k hA fun ac hA => st_k hA fun ac hA => st_k hA fun ac hA => st_k hA fun ac hA => st_k hA fun ac hA => st_p (vB true) hA fun ac hA => wn <| wp_cond_true (hA.eval (by kernel_rfl)) <| wr <| st_p (vS none 0 0) hA ?_; clear hA ac; intro ac hA
   refine wn <| wp_ret <| thenR <| r1 (vS none 0 0) hA ?_
   clear hA
   rw [show clkE L j = [] from by unfold clkE; rw [if_neg (by omega)]]
   have hW := hW.addNil 51 1 enU8
   exact ⟨_, rfl, hW.fresh 0 rfl (fun _ h => h), hW.fr⟩)
 rw [h3] at hA
 have h3 := of_decide_eq_false h3
 first
 | (exfalso; clear hA hW; omega)
 | (
  refine st_p (vI .i64 j) hA fun ac hA => st_p (pA b1 0) hA fun ac hA => st_q (vS A_L L.length c_L) hA hW.cls (rl b1 0 0) fun ac hA => st_p (vI .i64 (L.length : Int)) hA fun ac hA => st_p (vB (decide ((j : Int) ≥ (L.length : Int)))) hA fun ac hA => st_p (vB (decide ((j : Int) ≥ (L.length : Int)))) hA fun ac hA => wn <| wp_cond_split (t := decide ((j : Int) ≥ (L.length : Int))) (hA.eval (by kernel_rfl)) (fun h4 => ?_) (fun h4 => ?_)
  ·
   have h4 := of_decide_eq_true h4
   first
   | (exfalso; clear hA hW; omega)
   | (
    refine wr <| st_p (vS none 0 0) hA ?_; clear hA ac; intro ac hA
    refine wn <| wp_ret <| thenR <| r1 (vS none 0 0) hA ?_
    clear hA
    rw [show clkE L j = [] from by unfold clkE; rw [if_neg (by omega)]]
    have hW := hW.addNil 51 1 enU8
    exact ⟨_, rfl, hW.fresh 0 rfl (fun _ h => h), hW.fr⟩)
  have h4 := of_decide_eq_false h4
  first
  | (exfalso; clear hA hW; omega)
  | (
   refine wp_skip <| thenN <| wr <| st_p (vS none 0 0) hA ?_; clear hA ac; intro ac hA
   refine wn <| wp_seq ?_
   have hsl0_ := sift_len L j (Int.toNat j)
   refine wp_region_lit <| st_q (vA #[vS A_L L.length c_L, vS A_B B.length c_B]) hA hW.cls (rl b1 0 0) fun ac hA => st_p (vI .i64 j) hA fun ac hA => st_s hA (Runs.callRow (E := 3) (sz := 1) (en := enI64) (l := (siftL L (Int.toNat (j)) (j))) (fun _ => by kernel_rfl) hW (e_rall A_L c_L L A_B c_B B (j) w2 ((hW).getG 2 rfl) (by first | assumption | omega | (simp; omega) | simp) ((hW).getG 1 rfl) (by first | assumption | omega | (simp; omega) | simp) ((hW).getG 0 rfl) hk_B (by first | omega | assumption | exact ⟨by omega, by omega⟩) (by first | omega | assumption | exact ⟨by omega, by omega⟩) (by first | omega | assumption | exact ⟨by omega, by omega⟩) (by first | omega | assumption | exact ⟨by omega, by omega⟩)) ?_); clear hA ac hW; intro A6 c7 w5 hW hcc7 hfw5 ac hA
   refine st_p (vI .i64 j) hA ?_; clear hA ac; intro ac hA
   refine st_s hA (Runs.cells (fun b => vS (some ⟨b, 0, none⟩) 1 1) #[vI .i64 j] 3 (fun _ => by kernel_rfl) hW ?_); clear hA ac hW; intro b9 w10 hW hb9 hfw10 ac hA
   refine st_s hA (Runs.appOwn (B := (some ⟨b9, 0, none⟩)) (k := 1) (E := 3) (sz := 1) (en := enI64) (l := (siftL L (Int.toNat (j)) (j))) (m := ([j] : List Int)) (i := 1) (by kernel_rfl) (by kernel_rfl) elt_I64 (by kernel_rfl) hW rfl (rowAt_cel ((hW).cel 0 rfl) ([j] : List Int) (by rfl) elt_I64.len) (by first | omega | (simp; done) | (simp; omega)) (by first | omega | (simp; done) | (simp; omega)) ?_); clear hA ac hW; intro A11 c12 w13 hW hcc12 ac hA
   refine st_p (vS A11 ((siftL L (Int.toNat (j)) (j)) ++ ([j] : List Int)).length c12) hA ?_; clear hA ac; intro ac hA
   refine wn <| wp_seq <| wr <| st_p (vI .i64 0) hA ?_; clear hA ac; intro ac hA
   refine wn <| wp_block ?_
   have hW := hW.addNil 51 1 enU8
   have hlr_ : ∀ x ∈ (siftL L (Int.toNat j) j ++ ([j] : List Int)), 0 ≤ x ∧ x < (L.length : Int) := fun x hx => by
    clear hA hW; rcases List.mem_append.1 hx with hx | hx
    · have q_ := sift_mem hx; have := bef_rng q_.2.2; omega
    · have := List.mem_singleton.1 hx; omega
   have hll2_ : (siftL L (Int.toNat j) j ++ ([j] : List Int)).length ≤ 4097 := by have := sift_len L j (Int.toNat j); simp; omega
   refine wp_loop_m (fun m_ ac_ wl_ => ∃ q : Nat, ∃ c : List Int, ∃ A : Option Addr, ∃ cc : Nat, m_ = (siftL L (Int.toNat j) j ++ ([j] : List Int)).length - q ∧ (∀ g, getC c g = cntI L ((siftL L (Int.toNat j) j ++ ([j] : List Int)).take q) g) ∧ (q ≤ (siftL L (Int.toNat j) j ++ ([j] : List Int)).length) ∧ (c.length ≤ 65536) ∧ (c.length ≤ cc) ∧ Fm 54 [] [(1, vI .i64 j), (2, pA b1 0), (5, vS A c.length cc), (6, vS A11 ((siftL L (Int.toNat (j)) (j)) ++ ([j] : List Int)).length c12), (7, vI .i64 (q : Int))] ac_ ∧ Ws w No [rowR 51 1 enU8 (vS A c.length cc) c, Cel b9 #[vI .i64 j] 3, rowR 3 1 enI64 (vS A11 ((siftL L (Int.toNat (j)) (j)) ++ ([j] : List Int)).length c12) ((siftL L (Int.toNat (j)) (j)) ++ ([j] : List Int)), Cel b1 #[vS A_L L.length c_L, vS A_B B.length c_B] 31] [nestR innerBV B, roR A_B 1 enBV B, roR A_L 9 enEvent L] wl_) _ ⟨0, [], none, 0, rfl, by intro g; rw [getC_nil]; simp [cntI], by omega, by simp, by simp, hA.sub (by and_intros <;> first | kernel_rfl | trivial), (hW.pick [0, 1, 2, 3] (by decide) rfl).pickG [0, 1, 2] rfl⟩ ?_
   clear hA ac hW; rintro m_ ac w14 ⟨q, c, A, cc, rfl, hcg, hq, hcl, hcc, hA, hW⟩
   refine wp_seq <| wr <| st_p (vI .i64 (q : Int)) hA fun ac hA => st_p (vS A11 ((siftL L (Int.toNat (j)) (j)) ++ ([j] : List Int)).length c12) hA fun ac hA => st_p (vI .i64 ((((siftL L (Int.toNat (j)) (j)) ++ ([j] : List Int)).length : Nat) : Int)) hA fun ac hA => st_p (vB (decide ((q : Int) < (((((siftL L (Int.toNat (j)) (j)) ++ ([j] : List Int)).length : Nat) : Int) : Int)))) hA fun ac hA => wn <| wp_cond_split (t := decide ((q : Int) < (((((siftL L (Int.toNat (j)) (j)) ++ ([j] : List Int)).length : Nat) : Int) : Int))) (hA.eval (by kernel_rfl)) (fun h15 => ?_) (fun h15 => ?_)
   ·
    have h15 := of_decide_eq_true h15
    first
    | (exfalso; clear hA hW; omega)
    | (
     refine wp_skip <| thenN <| wp_seq <| wp_block <| wp_seq ?_
     obtain ⟨y16, hy16⟩ : ∃ y, ((siftL L (Int.toNat (j)) (j)) ++ ([j] : List Int))[q]? = some y := ⟨_, List.getElem?_eq_getElem (by omega)⟩
     obtain ⟨b17, o18, rfl, hbb17⟩ := row_some (rowR_at ((hW).get 2 rfl) elt_I64.len) hy16
     have hy1_ := hlr_ _ (List.mem_of_getElem? hy16)
     refine q_region (by kernel_rfl) (by kernel_rfl) hW <| sq_p (pA b1 0) hA fun ac hA => sq_q (vS A_L L.length c_L) hA (rl b1 0 3) fun ac hA => sq_p (vS (some ⟨b17, o18, none⟩) ((siftL L (Int.toNat (j)) (j)) ++ ([j] : List Int)).length c12) hA fun ac hA => sq_p (vI .i64 (q : Int)) hA fun ac hA => sq_q (vP (some ⟨b17, o18 + q * 1, none⟩)) hA (Rd.indexAddr (e := 3) (sz := 1) (b := b17) (off := o18) (n := ((siftL L (Int.toNat (j)) (j)) ++ ([j] : List Int)).length) (c := c12) (k := q) (by kernel_rfl) (by kernel_rfl) (by first | omega | (simp; done) | (simp; omega) | (have := hlr_ _ (List.mem_of_getElem? (by assumption)); omega) | (have := hgc_; omega)) (fun _ => by kernel_rfl) (fun _ => by kernel_rfl)) fun ac hA => sq_q (vI .i64 y16) hA (Rd.loadRow (b := b17) (i := o18 + q * 1) (xs := [vI .i64 y16]) (by kernel_rfl) (fun _ hw => row_ld (rowR_at ((hw.1).get 2 rfl) elt_I64.len) hy16 (Fr.refl No _) (fun h => h) 0 1 (by kernel_rfl)) (by kernel_rfl)) fun ac hA => ?_
     obtain ⟨y19, hy19⟩ : ∃ y, L[Int.toNat (y16)]? = some y := ⟨_, List.getElem?_eq_getElem (by first | omega | (simp; done) | (simp; omega) | (have := hlr_ _ (List.mem_of_getElem? (by assumption)); omega) | (have := hgc_; omega))⟩
     obtain ⟨b20, o21, rfl, hbb20⟩ := row_some ((hW).getG 2 rfl) hy19
     refine sq_q (vP (some ⟨b20, o21 + (Int.toNat (y16)) * 9, none⟩)) hA (Rd.indexAddrI (e := 50) (sz := 9) (b := b20) (off := o21) (n := L.length) (c := c_L) (k := y16) (by kernel_rfl) (by kernel_rfl) (by omega) (by first | omega | (simp; done) | (simp; omega) | (have := hlr_ _ (List.mem_of_getElem? (by assumption)); omega) | (have := hgc_; omega)) (fun _ => by kernel_rfl) (fun _ => by kernel_rfl)) fun ac hA => sq_p (vP (some ⟨b20, o21 + (Int.toNat (y16)) * 9, none⟩)) hA fun ac hA => sq_q (vI .i64 y19.g) hA (Rd.loadRow (b := b20) (i := o21 + (Int.toNat (y16)) * 9) (xs := [vI .i64 y19.g]) (by kernel_rfl) (fun _ hw => row_ld ((hw.1).getG 2 rfl) hy19 (Fr.refl No _) (fun h => h) 0 1 (by kernel_rfl)) (by kernel_rfl)) fun ac hA => sq_p (vI .i64 y19.g) hA fun ac hA => sq_nil ?_; intro w22 hww22; have hW := hww22.1; have hfw22 := hww22.2; clear hww22
     refine thenN <| wp_seq <| wp_block ?_
     have hg_ : 0 ≤ y19.g ∧ y19.g ≤ 65535 := by have q_ := hev _ (List.mem_of_getElem? hy19); unfold EvOk at q_; omega
     have hcn_ := fun g => cntI_le L ((siftL L (Int.toNat j) j ++ ([j] : List Int)).take q) g; have htl_ : ((siftL L (Int.toNat j) j ++ ([j] : List Int)).take q).length ≤ 4097 := by rw [List.length_take]; omega
     refine wp_loop_m (fun m_ ac_ wl_ => ∃ c : List Int, ∃ A : Option Addr, ∃ cc : Nat, m_ = Int.toNat (y19.g) + 1 - c.length ∧ (∀ g, getC c g = cntI L ((siftL L (Int.toNat j) j ++ ([j] : List Int)).take q) g) ∧ (c.length ≤ 65536) ∧ (c.length ≤ cc) ∧ Fm 54 [] [(1, vI .i64 j), (2, pA b1 0), (5, vS A c.length cc), (6, vS (some ⟨b17, o18, none⟩) ((siftL L (Int.toNat (j)) (j)) ++ ([j] : List Int)).length c12), (7, vI .i64 (q : Int)), (8, vI .i64 y19.g)] ac_ ∧ Ws w No [rowR 51 1 enU8 (vS A c.length cc) c, Cel b9 #[vI .i64 j] 3, rowR 3 1 enI64 (vS (some ⟨b17, o18, none⟩) ((siftL L (Int.toNat (j)) (j)) ++ ([j] : List Int)).length c12) ((siftL L (Int.toNat (j)) (j)) ++ ([j] : List Int)), Cel b1 #[vS (some ⟨b20, o21, none⟩) L.length c_L, vS A_B B.length c_B] 31] [nestR innerBV B, roR A_B 1 enBV B, roR (some ⟨b20, o21, none⟩) 9 enEvent L] wl_) _ ⟨c, A, cc, rfl, by exact hcg, by omega, by exact hcc, hA.sub (by and_intros <;> first | kernel_rfl | trivial), (hW.pick [0, 1, 2, 3] (by decide) rfl).pickG [0, 1, 2] rfl⟩ ?_
     clear hA ac hW; rintro m_ ac w23 ⟨c, A, cc, rfl, hcg2, hcl2, hcc2, hA, hW⟩
     refine wp_seq <| wr <| st_p (vS A c.length cc) hA fun ac hA => st_p (vI .i64 (c.length : Int)) hA fun ac hA => st_p (vI .i64 y19.g) hA fun ac hA => st_p (vB (decide ((c.length : Int) ≤ (y19.g : Int)))) hA fun ac hA => wn <| wp_cond_split (t := decide ((c.length : Int) ≤ (y19.g : Int))) (hA.eval (by kernel_rfl)) (fun h24 => ?_) (fun h24 => ?_)
     ·
      have h24 := of_decide_eq_true h24
      first
      | (exfalso; clear hA hW; omega)
      | (
       refine wp_skip <| thenN <| wp_block <| wp_region_lit <| st_p (vS A c.length cc) hA ?_; clear hA ac; intro ac hA
       refine st_s hA (Runs.cells (fun b => vS (some ⟨b, 0, none⟩) 1 1) #[vI .u64 0] 51 (fun _ => by kernel_rfl) hW ?_); clear hA ac hW; intro b25 w26 hW hb25 hfw26 ac hA
       refine st_s hA (Runs.appOwn (B := (some ⟨b25, 0, none⟩)) (k := 1) (E := 51) (sz := 1) (en := enU8) (l := c) (m := ([0] : List Int)) (i := 1) (by kernel_rfl) (by kernel_rfl) elt_U8 (by kernel_rfl) hW rfl (rowAt_cel ((hW).cel 0 rfl) ([0] : List Int) (by rfl) elt_U8.len) (by first | omega | (simp; done) | (simp; omega)) (by first | omega | (simp; done) | (simp; omega)) ?_); clear hA ac hW; intro A27 c28 w29 hW hcc28 ac hA
       refine st_p (vS A27 (c ++ ([0] : List Int)).length c28) hA ?_; clear hA ac; intro ac hA
       refine wpList_nil <| blkN <| thenN ?_
       have hla_ : (c ++ ([0] : List Int)).length = c.length + 1 := by simp
       exact ⟨Int.toNat (y19.g) + 1 - (c ++ ([0] : List Int)).length, by omega, c ++ ([0] : List Int), A27, c28, rfl, by intro g; rw [getC_app0]; exact hcg2 g, by simp; omega, by exact hcc28, hA.sub (by and_intros <;> first | kernel_rfl | trivial), (hW.pick [1, 2, 3, 4] (by decide) rfl).pickG [0, 1, 2] rfl⟩)
     have h24 := of_decide_eq_false h24
     first
     | (exfalso; clear hA hW; omega)
     | (
      refine wp_exit <| thenX <| thenX <| blkX <| thenN ?_
      have hgc_ := hcg2 y19.g; have hgl_ := hcn_ y19.g
      obtain ⟨y30, hy30⟩ : ∃ y, c[Int.toNat (y19.g)]? = some y := ⟨_, List.getElem?_eq_getElem (by omega)⟩
      obtain ⟨b31, o32, rfl, hbb31⟩ := row_some (rowR_at ((hW).get 0 rfl) elt_U8.len) hy30
      have hyv_ := getC_at (c := c) (by omega) hy30
      refine wp_region_lit <| st_p (vS (some ⟨b31, o32, none⟩) c.length cc) hA fun ac hA => st_p (vI .i64 y19.g) hA fun ac hA => st_q (vP (some ⟨b31, o32 + (Int.toNat (y19.g)) * 1, none⟩)) hA hW.cls (Rd.indexAddrI (e := 51) (sz := 1) (b := b31) (off := o32) (n := c.length) (c := cc) (k := y19.g) (by kernel_rfl) (by kernel_rfl) (by omega) (by first | omega | (simp; done) | (simp; omega) | (have := hlr_ _ (List.mem_of_getElem? (by assumption)); omega) | (have := hgc_; omega)) (fun _ => by kernel_rfl) (fun _ => by kernel_rfl)) fun ac hA => st_q (vI .u64 y30) hA hW.cls (Rd.loadRow (b := b31) (i := o32 + (Int.toNat (y19.g)) * 1) (xs := [vI .u64 y30]) (by kernel_rfl) (fun _ hw => row_ld (rowR_at ((hw.1).get 0 rfl) elt_U8.len) hy30 (Fr.refl No _) (fun h => h) 0 1 (by kernel_rfl)) (by kernel_rfl)) fun ac hA => st_q (vI .u64 ((y30 : Int) + 1)) hA hW.cls (Rd.pureE (v0 := vI .u64 (IntKind.u64.wrap ((y30 : Int) + 1))) (fun _ => by kernel_rfl) (congrArg (vI .u64) ((w_u64 (x := (y30 : Int) + 1) (by omega) (by omega)).trans (by omega)))) fun ac hA => st_q (vP (some ⟨b31, o32 + (Int.toNat (y19.g)) * 1, none⟩)) hA hW.cls (Rd.indexAddrI (e := 51) (sz := 1) (b := b31) (off := o32) (n := c.length) (c := cc) (k := y19.g) (by kernel_rfl) (by kernel_rfl) (by omega) (by first | omega | (simp; done) | (simp; omega) | (have := hlr_ _ (List.mem_of_getElem? (by assumption)); omega) | (have := hgc_; omega)) (fun _ => by kernel_rfl) (fun _ => by kernel_rfl)) fun ac hA => st_s hA (Runs.storeRow (E := 51) (sz := 1) (en := enU8) (b := b31) (off := o32) (k := Int.toNat (y19.g)) (n := c.length) (c := cc) (v := vI .u64 ((y30 : Int) + 1)) ((y30 : Int) + 1 : Int) elt_U8 (by kernel_rfl) (by kernel_rfl) (by kernel_rfl) (by kernel_rfl) hW (i := 0) rfl (by first | omega | (simp; done) | (simp; omega)) (by first | rfl | omega | (simp; done) | (simp; omega)) ?_); clear hA ac hW; intro w33 hW ac hA
      refine wpList_nil <| blkN <| thenN <| wp_region_lit <| st_p (vI .i64 (q : Int)) hA fun ac hA => st_q (vI .i64 ((q + 1 : Nat) : Int)) hA hW.cls (Rd.pureE (v0 := vI .i64 (IntKind.i64.wrap ((q : Int) + 1))) (fun _ => by kernel_rfl) (congrArg (vI .i64) ((w_i64 (x := (q : Int) + 1) (by omega) (by omega)).trans (by omega)))) fun ac hA => st_p (vI .i64 ((q + 1 : Nat) : Int)) hA fun ac hA => wn ?_
      have el_ : c.length = (List.set c (Int.toNat (y19.g)) ((y30 : Int) + 1 : Int)).length := by simp
      rw [el_] at hA hW
      exact ⟨(siftL L (Int.toNat j) j ++ ([j] : List Int)).length - (q + 1), by omega, q + 1, List.set c (Int.toNat (y19.g)) ((y30 : Int) + 1 : Int), (some ⟨b31, o32, none⟩), cc, rfl, by intro g_; rw [getC_set (by omega) hy30, tk_snoc hy16, cntI_snoc, gAt_at hy19, ← hcg2]; have := getC_at (c := c) (by omega) hy30; by_cases e_ : g_ = y19.g; (subst e_; simp; omega); (rw [if_neg e_, if_neg (by simp; omega)]; omega), by omega, by rw [List.length_set]; omega, by rw [List.length_set]; omega, hA.sub (by and_intros <;> first | kernel_rfl | trivial), (hW.pick [0, 1, 2, 3] (by decide) rfl).pickG [0, 1, 2] rfl⟩))
   have h15 := of_decide_eq_false h15
   first
   | (exfalso; clear hA hW; omega)
   | (
    refine wp_exit <| thenX <| thenX <| blkX <| thenN <| wr <| st_p (vS A c.length cc) hA ?_; clear hA ac; intro ac hA
    refine st_s hA (Runs.callRow (E := 51) (sz := 1) (en := enU8) (l := (trimC c)) (fun _ => by kernel_rfl) hW (e_r4trim A cc c w14 (rowR_at ((hW).get 0 rfl) elt_U8.len) (own_cap ((hW).get 0 rfl)) (by first | omega | assumption | exact ⟨by omega, by omega⟩)) ?_); clear hA ac hW; intro A35 c36 w34 hW hcc36 hfw34 ac hA
    refine st_p (vS A35 (trimC c).length c36) hA ?_; clear hA ac; intro ac hA
    refine wn <| wp_ret <| r1 (vS A35 (trimC c).length c36) hA ?_
    clear hA
    rw [List.take_of_length_le (by omega)] at hcg
    rw [show clkE L j = trimC c from by unfold clkE; rw [if_pos (by omega)]; exact (clk_eq hev (j := j.toNat) (by omega) (fun g => by rw [hcg, Int.toNat_of_nonneg (by omega)])).symm]
    exact ⟨_, rfl, hW.fresh 0 rfl (fun _ h => h), hW.fr⟩)))

end Go.Proofs.YtefmglgejjaipaaGreatDoor.L
