/- Contracts, walked by program over the engine's laws. -/
import Derived.Test.YtfkbjfbbigbacaaGreatDoorProg
import Derived.Test.YtfkbjfbbigbacaaGreatDoorT23
namespace Go.Proofs.YtfkbjfbbigbacaaGreatDoor.L
open Go.RowKit
open Go.Value renaming int → vI, slice → vS, bool → vB, pointer → vP, func → vF, agg → vA, map → vM, tuple → vT

/-- How many are of an address. -/
def cntA (R : List Race) (a : Int) : Int := ((R.filter fun r => decide (r.addr = a)).length : Nat)
theorem cntA_snoc (R : List Race) (x : Race) (a : Int) : cntA (R ++ [x]) a = cntA R a + if x.addr = a then 1 else 0 := by
  unfold cntA; rw [List.filter_append, List.length_append]
  by_cases h : x.addr = a
  · rw [if_pos h, List.filter_cons_of_pos (by simpa using h)]; simp
  · rw [if_neg h, List.filter_cons_of_neg (by simpa using h)]; simp
theorem cntA_nn (R : List Race) (a : Int) : 0 ≤ cntA R a := by unfold cntA; omega
theorem cntA_le (R : List Race) (a : Int) : cntA R a ≤ R.length := by unfold cntA; have := List.length_filter_le (fun r => decide (r.addr = a)) R; omega
/-- Of each address the first one, as they come. -/
def fstL (R : List Race) : List Race := R.foldl (fun acc x => if acc.any (fun y => decide (y.addr = x.addr)) then acc else acc ++ [x]) []
theorem fstL_snoc' (R : List Race) (x : Race) : fstL (R ++ [x]) = if (fstL R).any (fun y => decide (y.addr = x.addr)) then fstL R else fstL R ++ [x] := by simp [fstL]
theorem rev_ind {P : List Race → Prop} (h0 : P []) (h1 : ∀ R x, P R → P (R ++ [x])) : ∀ R, P R := by
  intro R; rw [← List.reverse_reverse R]
  generalize R.reverse = Q
  induction Q with
  | nil => exact h0
  | cons x Q ih => rw [List.reverse_cons]; exact h1 _ _ ih
theorem fst_any (a : Int) : ∀ R, ((fstL R).any (fun y => decide (y.addr = a)) = true ↔ cntA R a ≠ 0) := by
  refine rev_ind (by simp [fstL, cntA]) fun R x ih => ?_
  have hn := cntA_nn R a
  rw [fstL_snoc', cntA_snoc]
  by_cases h : (fstL R).any (fun y => decide (y.addr = x.addr)) = true
  · rw [if_pos h, ih]
    by_cases q : x.addr = a
    · rw [if_pos q]; subst q; have := ih.1 h; constructor <;> intro _ <;> omega
    · rw [if_neg q]; constructor <;> intro _ <;> omega
  · rw [if_neg h, List.any_append, Bool.or_eq_true, ih]
    by_cases q : x.addr = a
    · rw [if_pos q]; simp [q]; omega
    · rw [if_neg q]; simp [q]
theorem fstL_snoc (R : List Race) (x : Race) : fstL (R ++ [x]) = if cntA R x.addr = 0 then fstL R ++ [x] else fstL R := by
  rw [fstL_snoc']
  by_cases h : cntA R x.addr = 0
  · rw [if_pos h, if_neg (fun q => (fst_any x.addr R).1 q h)]
  · rw [if_neg h, if_pos ((fst_any x.addr R).2 h)]
theorem fst_len : ∀ R, (fstL R).length ≤ R.length := by
  refine rev_ind (by simp [fstL]) fun R x ih => ?_
  rw [fstL_snoc]; split <;> simp <;> omega
theorem fst_dist : ∀ R, (fstL R).Pairwise (fun x y => x.addr ≠ y.addr) := by
  refine rev_ind (by simp [fstL]) fun R x ih => ?_
  rw [fstL_snoc]
  by_cases h : cntA R x.addr = 0
  · rw [if_pos h]
    refine List.pairwise_append.2 ⟨ih, by simp, fun y hy z hz => ?_⟩
    rw [List.mem_singleton.1 hz]
    intro e
    exact (fst_any x.addr R).1 (List.any_eq_true.2 ⟨y, hy, decide_eq_true e⟩) h
  · rw [if_neg h]; exact ih
/-- One more among those that rise, unless its address is there. -/
def insR : List Race → Race → List Race
  | [], x => [x]
  | y :: l, x => if y.addr < x.addr then y :: insR l x else if y.addr = x.addr then y :: l else x :: y :: l
def refL (R : List Race) : List Race := R.foldl insR []
theorem refL_snoc (R : List Race) (x : Race) : refL (R ++ [x]) = insR (refL R) x := by simp [refL]
theorem ins_yes {x : Race} : ∀ {l : List Race} {p : Nat}, (∀ i y, i < p → l[i]? = some y → y.addr < x.addr) → (p = l.length ∨ ∃ y, l[p]? = some y ∧ ¬ y.addr < x.addr ∧ y.addr ≠ x.addr) → insR l x = l.take p ++ x :: l.drop p
  | [], p, _, h => by
    rcases h with h | ⟨y, h, _⟩
    · subst h; rfl
    · simp at h
  | z :: l, 0, _, h => by
    rcases h with h | ⟨y, h, h1, h2⟩
    · simp at h
    · obtain rfl : z = y := by simpa using h
      unfold insR; rw [if_neg h1, if_neg h2]; rfl
  | z :: l, p + 1, h1, h => by
    have hz := h1 0 z (by omega) rfl
    unfold insR; rw [if_pos hz, ins_yes (p := p) (fun i y hi hy => h1 (i + 1) y (by omega) (by simpa using hy)) (by simpa using h)]; rfl
theorem ins_no {x y : Race} : ∀ {l : List Race} {p : Nat}, (∀ i y, i < p → l[i]? = some y → y.addr < x.addr) → l[p]? = some y → y.addr = x.addr → insR l x = l
  | [], p, _, h, _ => by simp at h
  | z :: l, 0, _, h, e => by
    obtain rfl : z = y := by simpa using h
    unfold insR; rw [if_neg (by omega), if_pos e]
  | z :: l, p + 1, h1, h, e => by
    have hz := h1 0 z (by omega) rfl
    unfold insR; rw [if_pos hz, ins_no (p := p) (fun i y hi hy => h1 (i + 1) y (by omega) (by simpa using hy)) (by simpa using h) e]
def SrtR (l : List Race) : Prop := l.Pairwise (fun x y => x.addr < y.addr)
theorem ins_mem {x z : Race} : ∀ {l : List Race}, z ∈ insR l x → z = x ∨ z ∈ l
  | [], h => by simp [insR] at h; exact .inl h
  | y :: l, h => by
    unfold insR at h
    split at h
    · rcases List.mem_cons.1 h with rfl | h
      · exact .inr (.head _)
      · exact (ins_mem h).imp id (.tail _)
    · split at h
      · exact .inr h
      · exact (List.mem_cons.1 h).imp id id
theorem ins_srt {x : Race} : ∀ {l : List Race}, SrtR l → SrtR (insR l x)
  | [], _ => by simp [insR, SrtR]
  | y :: l, h => by
    have hp := List.pairwise_cons.1 h
    unfold insR
    split
    · rename_i q
      refine List.pairwise_cons.2 ⟨fun z hz => ?_, ins_srt hp.2⟩
      rcases ins_mem hz with rfl | hz
      · exact q
      · exact hp.1 z hz
    · split
      · exact h
      · rename_i q1 q2
        refine List.pairwise_cons.2 ⟨fun z hz => ?_, h⟩
        rcases List.mem_cons.1 hz with rfl | hz
        · omega
        · have := hp.1 z hz; omega
theorem ins_in {x : Race} : ∀ {l : List Race}, SrtR l → (∃ y ∈ l, y.addr = x.addr) → insR l x = l
  | [], _, h => by obtain ⟨y, hy, _⟩ := h; cases hy
  | y :: l, h, ⟨z, hz, e⟩ => by
    have hp := List.pairwise_cons.1 h
    unfold insR
    rcases List.mem_cons.1 hz with rfl | hz
    · rw [if_neg (by omega), if_pos e]
    · have := hp.1 z hz
      rw [if_pos (by omega), ins_in hp.2 ⟨z, hz, e⟩]
theorem ins_out {x : Race} : ∀ {l : List Race}, (∀ y ∈ l, y.addr ≠ x.addr) → (insR l x).Perm (x :: l)
  | [], _ => List.Perm.refl _
  | y :: l, h => by
    unfold insR
    split
    · exact ((ins_out (fun z hz => h z (.tail _ hz))).cons y).trans (List.Perm.swap x y l)
    · rw [if_neg (h y (.head _))]
theorem ref_srt : ∀ R, SrtR (refL R) ∧ (refL R).Perm (fstL R) := by
  refine rev_ind ⟨by simp [refL, SrtR], by simp [refL, fstL]⟩ fun R x ih => ?_
  rw [refL_snoc, fstL_snoc']
  refine ⟨ins_srt ih.1, ?_⟩
  by_cases h : (fstL R).any (fun y => decide (y.addr = x.addr)) = true
  · rw [if_pos h]
    obtain ⟨y, hy, e⟩ := List.any_eq_true.1 h
    rw [ins_in ih.1 ⟨y, ih.2.mem_iff.2 hy, of_decide_eq_true e⟩]; exact ih.2
  · rw [if_neg h]
    refine (ins_out fun y hy e => h (List.any_eq_true.2 ⟨y, ih.2.mem_iff.1 hy, decide_eq_true e⟩)).trans ?_
    exact (ih.2.cons x).trans (List.perm_append_singleton x (fstL R)).symm
theorem srt_uniq : ∀ {a b : List Race}, SrtR a → SrtR b → a.Perm b → a = b
  | [], b, _, _, h => (h.symm.eq_nil).symm
  | x :: a, b, ha, hb, h => by
    cases b with
    | nil => exact absurd h.length_eq (by simp)
    | cons y b =>
      have pa := List.pairwise_cons.1 ha; have pb := List.pairwise_cons.1 hb
      have hxy : x = y := by
        rcases List.mem_cons.1 (h.mem_iff.1 (.head _)) with e | hx
        · exact e
        · rcases List.mem_cons.1 (h.mem_iff.2 (.head _)) with e | hy
          · exact e.symm
          · have := pb.1 x hx; have := pa.1 y hy; omega
      subst hxy
      rw [srt_uniq pa.2 pb.2 (List.Perm.cons_inv h)]
/-- What is sorted of the first ones is what the document lists. -/
theorem first_srt {R l : List Race} (hp : l.Perm (fstL R)) (hs : l.Pairwise (fun x y => x.addr ≤ y.addr)) : l = refL R := by
  have hd : l.Pairwise (fun x y => x.addr ≠ y.addr) := hp.symm.pairwise (fst_dist R) (fun h e => h e.symm)
  have : SrtR l := (hs.and hd).imp fun h => by omega
  exact srt_uniq this (ref_srt R).1 (hp.trans (ref_srt R).2.symm)
set_option maxRecDepth 100000 in
theorem e_r21firsts (A_L : Option Addr) (c_L : Nat) (L : List Event) (A_B : Option Addr) (c_B : Nat) (B : List BV) (w : World) (hr_L : RowAt w A_L 9 enEvent L) (hc_L : L.length ≤ c_L) (hr_B : RowAt w A_B 1 enBV B) (hc_B : B.length ≤ c_B) (hn_B : (nestR innerBV B).p w) (hk_B : ∀ x_ ∈ B, capBV x_) (hL : L.length ≤ 4096) (hev : ∀ e ∈ L, EvOk e) (hB : B.map BV.l = ahM L) (hE100 : L.length ≤ 100) : Calls Tryz.prog 21 #[vA #[vS A_L L.length c_L, vS A_B B.length c_B]] w (Fresh 47 7 enRace (refL (raceL L)) w) := by
 have _hu := hc_L; have _hv := hr_L; clear _hu _hv
 have _hu := hc_B; have _hv := hr_B; clear _hu _hv
 have _hu := hk_B; have _hv := hn_B; clear _hu _hv
 have _hu := hL; clear _hu
 have _hu := hev; clear _hu
 have _hu := hB; clear _hu
 have _hu := hE100; clear _hu
 have hbl_ := ah_blen hB
 have hbg_ := race_lil hE100
 refine enter_E 67 Tryz.func21 rfl rfl (by kernel_rfl) (L := [(0, vA #[vS A_L L.length c_L, vS A_B B.length c_B])]) (by kernel_rfl) ?_
 intro ac hA
 have hW := Ws.start w No
 have hW := hW.arg hr_L
 have hW := hW.arg hr_B
 have hW := hW.addG _ hn_B (nest_ltBV hn_B) (by simp)
 refine wr <| st_s hA (Runs.cells (fun b => pA b 0) #[vS A_L L.length c_L, vS A_B B.length c_B] 31 (fun _ => by kernel_rfl) hW ?_); clear hA ac hW; intro b1 w2 hW hb1 hfw2 ac hA
 refine st_p (vS none 0 0) hA ?_; clear hA ac; intro ac hA
 refine wn <| wr <| st_p (vS none 0 0) hA ?_; clear hA ac; intro ac hA
 refine wn <| wr <| st_q (vA #[vS A_L L.length c_L, vS A_B B.length c_B]) hA hW.cls (rl b1 0 0) ?_; clear hA ac; intro ac hA
 refine st_s hA (Runs.callRow (E := 47) (sz := 7) (en := enRace) (l := (raceL L)) (fun _ => by kernel_rfl) hW (e_r21all A_L c_L L A_B c_B B w2 ((hW).getG 2 rfl) (by first | assumption | omega | (simp; omega) | simp) ((hW).getG 1 rfl) (by first | assumption | omega | (simp; omega) | simp) ((hW).getG 0 rfl) hk_B (by first | omega | assumption | exact ⟨by omega, by omega⟩) (by first | omega | assumption | exact ⟨by omega, by omega⟩) (by first | omega | assumption | exact ⟨by omega, by omega⟩) (by first | omega | assumption | exact ⟨by omega, by omega⟩)) ?_); clear hA ac hW; intro A4 c5 w3 hW hcc5 hfw3 ac hA
 refine st_p (vS A4 (raceL L).length c5) hA ?_; clear hA ac; intro ac hA
 refine wn <| wp_seq <| wr <| st_p (vI .i64 0) hA ?_; clear hA ac; intro ac hA
 refine wn <| wp_block ?_
 have hW := hW.addNil 47 7 enRace
 refine wp_loop_m (fun m_ ac_ wl_ => ∃ k : Nat, ∃ d : List Race, ∃ A : Option Addr, ∃ cc : Nat, m_ = (raceL L).length - k ∧ (k ≤ (raceL L).length) ∧ (d = refL ((raceL L).take k)) ∧ (d.length ≤ cc) ∧ (d.length ≤ k) ∧ Fm 67 [] [(0, vA #[vS A_L L.length c_L, vS A_B B.length c_B]), (1, pA b1 0), (3, vS A d.length cc), (4, vS A4 (raceL L).length c5), (5, vI .i64 (k : Int))] ac_ ∧ Ws w No [rowR 47 7 enRace (vS A d.length cc) d, rowR 47 7 enRace (vS A4 (raceL L).length c5) (raceL L), Cel b1 #[vS A_L L.length c_L, vS A_B B.length c_B] 31] [nestR innerBV B, roR A_B 1 enBV B, roR A_L 9 enEvent L] wl_) _ ⟨0, [], none, 0, rfl, by omega, by rfl, by simp, by simp, hA.sub (by and_intros <;> first | kernel_rfl | trivial), (hW.pick [0, 1, 2] (by decide) rfl).pickG [0, 1, 2] rfl⟩ ?_
 clear hA ac hW; rintro m_ ac w7 ⟨k, d, A, cc, rfl, hk, hd, hcc, hdk, hA, hW⟩
 refine wp_seq <| wr <| st_p (vI .i64 (k : Int)) hA fun ac hA => st_p (vS A4 (raceL L).length c5) hA fun ac hA => st_p (vI .i64 (((raceL L).length : Nat) : Int)) hA fun ac hA => st_p (vB (decide ((k : Int) < ((((raceL L).length : Nat) : Int) : Int)))) hA fun ac hA => wn <| wp_cond_split (t := decide ((k : Int) < ((((raceL L).length : Nat) : Int) : Int))) (hA.eval (by kernel_rfl)) (fun h8 => ?_) (fun h8 => ?_)
 ·
  have h8 := of_decide_eq_true h8
  refine wp_skip <| thenN <| wp_seq <| wp_block <| wr <| st_p (vI .i64 0) hA ?_; clear hA ac; intro ac hA
  refine wn <| wp_seq <| wp_cut (fun ac_ wl_ => ∃ p : Nat, (p ≤ d.length) ∧ (∀ (i : Nat) (y x : Race), i < p → d[i]? = some y → (raceL L)[k]? = some x → y.addr < x.addr) ∧ (p = d.length ∨ ∃ y x, d[p]? = some y ∧ (raceL L)[k]? = some x ∧ ¬ y.addr < x.addr) ∧ Fm 67 [] [(0, vA #[vS A_L L.length c_L, vS A_B B.length c_B]), (1, pA b1 0), (3, vS A d.length cc), (4, vS A4 (raceL L).length c5), (5, vI .i64 (k : Int)), (6, vI .i64 (p : Int))] ac_ ∧ Ws w No [rowR 47 7 enRace (vS A d.length cc) d, rowR 47 7 enRace (vS A4 (raceL L).length c5) (raceL L), Cel b1 #[vS A_L L.length c_L, vS A_B B.length c_B] 31] [nestR innerBV B, roR A_B 1 enBV B, roR A_L 9 enEvent L] wl_) ?_ ?_
  ·
   refine wp_block <| wp_loop_m (fun m_ ac_ wl_ => ∃ p : Nat, m_ = d.length - p ∧ (p ≤ d.length) ∧ (∀ (i : Nat) (y x : Race), i < p → d[i]? = some y → (raceL L)[k]? = some x → y.addr < x.addr) ∧ Fm 67 [] [(0, vA #[vS A_L L.length c_L, vS A_B B.length c_B]), (1, pA b1 0), (3, vS A d.length cc), (4, vS A4 (raceL L).length c5), (5, vI .i64 (k : Int)), (6, vI .i64 (p : Int))] ac_ ∧ Ws w No [rowR 47 7 enRace (vS A d.length cc) d, rowR 47 7 enRace (vS A4 (raceL L).length c5) (raceL L), Cel b1 #[vS A_L L.length c_L, vS A_B B.length c_B] 31] [nestR innerBV B, roR A_B 1 enBV B, roR A_L 9 enEvent L] wl_) _ ⟨0, rfl, by omega, by intro i_ y_ x_ h_; omega, hA.sub (by and_intros <;> first | kernel_rfl | trivial), (hW.pick [0, 1, 2] (by decide) rfl).pickG [0, 1, 2] rfl⟩ ?_
   clear hA ac hW; rintro m_ ac w9 ⟨p, rfl, hp, hlt, hA, hW⟩
   refine wp_seq <| wp_seq <| q_region (by kernel_rfl) (by kernel_rfl) hW <| sq_p (vI .i64 (p : Int)) hA fun ac hA => sq_p (vS A d.length cc) hA fun ac hA => sq_p (vI .i64 (d.length : Int)) hA fun ac hA => sq_p (vB (decide ((p : Int) < (d.length : Int)))) hA fun ac hA => sq_p (vB (decide ((p : Int) < (d.length : Int)))) hA fun ac hA => ?_
   rcases Bool.eq_false_or_eq_true (decide ((p : Int) < (d.length : Int))) with h10 | h10
   ·
    rw [h10] at hA
    have h10 := of_decide_eq_true h10
    refine sq_p (vS A d.length cc) hA fun ac hA => sq_p (vI .i64 (p : Int)) hA fun ac hA => ?_
    obtain ⟨y11, hy11⟩ : ∃ y, d[p]? = some y := ⟨_, List.getElem?_eq_getElem (by first | omega | (simp; done) | (simp; omega) | (have := ah_len hB (by assumption); omega))⟩
    obtain ⟨b12, o13, rfl, hbb12⟩ := row_some (rowR_at ((hW).get 0 rfl) elt_Race.len) hy11
    refine sq_q (vP (some ⟨b12, o13 + p * 7, none⟩)) hA (Rd.indexAddr (e := 47) (sz := 7) (b := b12) (off := o13) (n := d.length) (c := cc) (k := p) (by kernel_rfl) (by kernel_rfl) (by first | omega | (simp; done) | (simp; omega) | (have := ah_len hB (by assumption); omega)) (fun _ => by kernel_rfl) (fun _ => by kernel_rfl)) fun ac hA => sq_p (vP (some ⟨b12, o13 + p * 7 + 2, none⟩)) hA fun ac hA => sq_q (vI .u32 y11.addr) hA (Rd.loadRow (b := b12) (i := o13 + p * 7 + 2) (xs := [vI .u32 y11.addr]) (by kernel_rfl) (fun _ hw => row_ld (rowR_at ((hw.1).get 0 rfl) elt_Race.len) hy11 (Fr.refl No _) (fun h => h) 2 1 (by kernel_rfl)) (by kernel_rfl)) fun ac hA => sq_p (vS A4 (raceL L).length c5) hA fun ac hA => sq_p (vI .i64 (k : Int)) hA fun ac hA => ?_
    obtain ⟨y14, hy14⟩ : ∃ y, (raceL L)[k]? = some y := ⟨_, List.getElem?_eq_getElem (by first | omega | (simp; done) | (simp; omega) | (have := ah_len hB (by assumption); omega))⟩
    obtain ⟨b15, o16, rfl, hbb15⟩ := row_some (rowR_at ((hW).get 1 rfl) elt_Race.len) hy14
    refine sq_q (vP (some ⟨b15, o16 + k * 7, none⟩)) hA (Rd.indexAddr (e := 47) (sz := 7) (b := b15) (off := o16) (n := (raceL L).length) (c := c5) (k := k) (by kernel_rfl) (by kernel_rfl) (by first | omega | (simp; done) | (simp; omega) | (have := ah_len hB (by assumption); omega)) (fun _ => by kernel_rfl) (fun _ => by kernel_rfl)) fun ac hA => sq_p (vP (some ⟨b15, o16 + k * 7 + 2, none⟩)) hA fun ac hA => sq_q (vI .u32 y14.addr) hA (Rd.loadRow (b := b15) (i := o16 + k * 7 + 2) (xs := [vI .u32 y14.addr]) (by kernel_rfl) (fun _ hw => row_ld (rowR_at ((hw.1).get 1 rfl) elt_Race.len) hy14 (Fr.refl No _) (fun h => h) 2 1 (by kernel_rfl)) (by kernel_rfl)) fun ac hA => sq_p (vB (decide ((y11.addr : Int) < (y14.addr : Int)))) hA fun ac hA => sq_p (vB (decide ((y11.addr : Int) < (y14.addr : Int)))) hA fun ac hA => sq_nil ?_; intro w17 hww17; have hW := hww17.1; have hfw17 := hww17.2; clear hww17
    refine thenN <| wp_cond_split (t := decide ((y11.addr : Int) < (y14.addr : Int))) (hA.eval (by kernel_rfl)) (fun h18 => ?_) (fun h18 => ?_)
    ·
     have h18 := of_decide_eq_true h18
     refine wp_skip <| thenN <| wp_block <| wp_region_lit <| st_p (vI .i64 (p : Int)) hA fun ac hA => st_q (vI .i64 ((p + 1 : Nat) : Int)) hA hW.cls (Rd.pureE (v0 := vI .i64 (IntKind.i64.wrap ((p : Int) + 1))) (fun _ => by kernel_rfl) (congrArg (vI .i64) ((w_i64 (x := (p : Int) + 1) (by omega) (by omega)).trans (by omega)))) fun ac hA => st_p (vI .i64 ((p + 1 : Nat) : Int)) hA fun ac hA => wpList_nil <| blkN <| thenN ?_
     exact ⟨d.length - (p + 1), by omega, p + 1, rfl, by omega, by intro i_ y_ x_ h1_ h2_ h3_; by_cases e_ : i_ < p; exact hlt i_ y_ x_ e_ h2_ h3_; (obtain rfl : i_ = p := by omega); (have q1_ := Option.some.inj (hy11.symm.trans h2_)); (have q2_ := Option.some.inj (hy14.symm.trans h3_)); subst q1_ q2_; omega, hA.sub (by and_intros <;> first | kernel_rfl | trivial), (hW.pick [0, 1, 2] (by decide) rfl).pickG [0, 1, 2] rfl⟩
    have h18 := of_decide_eq_false h18
    refine wp_exit <| thenX <| thenX <| blkX ?_
    exact ⟨p, by omega, by exact hlt, by exact .inr ⟨_, _, hy11, hy14, by omega⟩, hA.sub (by and_intros <;> first | kernel_rfl | trivial), (hW.pick [0, 1, 2] (by decide) rfl).pickG [0, 1, 2] rfl⟩
   rw [h10] at hA
   have h10 := of_decide_eq_false h10
   refine sq_k hA fun ac hA => sq_k hA fun ac hA => sq_k hA fun ac hA => sq_k hA fun ac hA => sq_k hA fun ac hA => sq_k hA fun ac hA => sq_k hA fun ac hA => sq_k hA fun ac hA => sq_k hA fun ac hA => sq_k hA fun ac hA => sq_k hA fun ac hA => sq_p (vB false) hA fun ac hA => sq_nil ?_; intro w19 hww19; have hW := hww19.1; have hfw19 := hww19.2; clear hww19
   refine thenN <| wp_cond_false (hA.eval (by kernel_rfl)) <| wp_exit <| thenX <| thenX <| blkX ?_
   exact ⟨p, by omega, by exact hlt, by exact .inl (by omega), hA.sub (by and_intros <;> first | kernel_rfl | trivial), (hW.pick [0, 1, 2] (by decide) rfl).pickG [0, 1, 2] rfl⟩
  clear hA ac hW; rintro ac w20 ⟨p, hp2, hlt2, hex, hA, hW⟩
  refine thenN <| wp_seq ?_
  obtain ⟨y21, hy21⟩ : ∃ y, (raceL L)[k]? = some y := ⟨_, List.getElem?_eq_getElem (by omega)⟩
  obtain ⟨b22, o23, rfl, hbb22⟩ := row_some (rowR_at ((hW).get 1 rfl) elt_Race.len) hy21
  refine q_region (by kernel_rfl) (by kernel_rfl) hW <| sq_p (vI .i64 (p : Int)) hA fun ac hA => sq_p (vS A d.length cc) hA fun ac hA => sq_p (vI .i64 (d.length : Int)) hA fun ac hA => sq_p (vB ((p : Int) == (d.length : Int))) hA fun ac hA => sq_p (vB ((p : Int) == (d.length : Int))) hA fun ac hA => ?_
  rcases Bool.eq_false_or_eq_true ((p : Int) == (d.length : Int)) with h24 | h24
  ·
   rw [h24] at hA
   have h24 := eq_of_beq h24
   refine sq_k hA fun ac hA => sq_k hA fun ac hA => sq_k hA fun ac hA => sq_k hA fun ac hA => sq_k hA fun ac hA => sq_k hA fun ac hA => sq_k hA fun ac hA => sq_k hA fun ac hA => sq_k hA fun ac hA => sq_k hA fun ac hA => sq_k hA fun ac hA => sq_p (vB true) hA fun ac hA => sq_nil ?_; intro w25 hww25; have hW := hww25.1; have hfw25 := hww25.2; clear hww25
   refine thenN <| wp_cond_true (hA.eval (by kernel_rfl)) <| wp_cut (fun ac_ wl_ => ∃ Ar10_10 : Option Addr, ∃ Ar10_14 : Option Addr, ∃ Ar10_4 : Option Addr, ∃ br10_0 : Nat, ∃ br10_9 : Nat, ∃ cr10_10 : Nat, ∃ cr10_14 : Nat, ∃ cr10_4 : Nat, (((([] : List Race) ++ (d.take p)) ++ ([y21] : List Race)).length ≤ cr10_10) ∧ ((((([] : List Race) ++ (d.take p)) ++ ([y21] : List Race)) ++ (d.drop p)).length ≤ cr10_14) ∧ ((([] : List Race) ++ (d.take p)).length ≤ cr10_4) ∧ Fm 67 [] [(0, vA #[vS A_L L.length c_L, vS A_B B.length c_B]), (1, pA b1 0), (3, vS Ar10_14 (((([] : List Race) ++ (d.take p)) ++ ([y21] : List Race)) ++ (d.drop p)).length cr10_14), (4, vS (some ⟨b22, o23, none⟩) (raceL L).length c5), (5, vI .i64 (k : Int)), (6, vI .i64 (p : Int)), (34, vI .i64 (p : Int)), (35, vS A d.length cc), (36, vI .i64 (d.length : Int)), (37, vB true), (38, vB true), (39, undef), (40, undef), (41, undef), (42, undef), (43, undef), (44, undef), (45, undef), (46, undef), (47, undef), (48, undef), (49, undef), (50, vB true)] ac_ ∧ Ws w No [Cel br10_9 #[vI .i64 y21.i, vI .i64 y21.j, vI .u32 y21.addr, vI .i64 y21.p.a.f, vI .i64 y21.p.a.pc, vI .i64 y21.p.b.f, vI .i64 y21.p.b.pc] 47, rowR 47 7 enRace (vS Ar10_14 (((([] : List Race) ++ (d.take p)) ++ ([y21] : List Race)) ++ (d.drop p)).length cr10_14) (((([] : List Race) ++ (d.take p)) ++ ([y21] : List Race)) ++ (d.drop p)), rowR 47 7 enRace (vS A d.length cc) d, rowR 47 7 enRace (vS (some ⟨b22, o23, none⟩) (raceL L).length c5) (raceL L), Cel b1 #[vS A_L L.length c_L, vS A_B B.length c_B] 31] [nestR innerBV B, roR A_B 1 enBV B, roR A_L 9 enEvent L] wl_) ?_ ?_
   · refine sr_region (m := 16) (C := Ws w No [rowR 47 7 enRace (vS A d.length cc) d, rowR 47 7 enRace (vS (some ⟨b22, o23, none⟩) (raceL L).length c5) (raceL L), Cel b1 #[vS A_L L.length c_L, vS A_B B.length c_B] 31] [nestR innerBV B, roR A_B 1 enBV B, roR A_L 9 enEvent L]) (fun i => [8].contains i) (fun i => [0, 4, 8].contains i) (fun i => [1, 2, 3, 5, 6, 7, 11, 12, 13, 15].contains i) (by kernel_rfl) (by kernel_rfl) (by kernel_rfl) (by kernel_rfl) hW ?_; clear hW; intro w26 hW hfw26 hR; have hC : Ws w No [rowR 47 7 enRace (vS A d.length cc) d, rowR 47 7 enRace (vS (some ⟨b22, o23, none⟩) (raceL L).length c5) (raceL L), Cel b1 #[vS A_L L.length c_L, vS A_B B.length c_B] 31] [nestR innerBV B, roR A_B 1 enBV B, roR A_L 9 enEvent L] w26 := hW.pick [0, 1, 2] (by decide) rfl
     refine sr_p 1 (vS A d.length cc) hR rfl hA fun ac hA => sr_p 2 (vI .i64 (p : Int)) hR rfl hA fun ac hA => sr_q 3 (vS A (d.take p).length cc) hR rfl hA ((Rd.slice (E := 47) (A := A) (n := d.length) (c := cc) (l := 0) (h := p) (m := cc) (sz := 7) (by kernel_rfl) (fun _ => by kernel_rfl) (fun _ => by kernel_rfl) (fun w => bounds_hi (by omega) w)).cast (slice_eq (addr_zero _ _ _) (by first | omega | (simp; done) | (simp; omega)) (by first | omega | (simp; done) | (simp; omega)))) fun ac hA => sr_p 5 (vS (some ⟨b22, o23, none⟩) (raceL L).length c5) hR rfl hA fun ac hA => sr_p 6 (vI .i64 (k : Int)) hR rfl hA fun ac hA => sr_q 7 (vP (some ⟨b22, o23 + k * 7, none⟩)) hR rfl hA (Rd.indexAddr (e := 47) (sz := 7) (b := b22) (off := o23) (n := (raceL L).length) (c := c5) (k := k) (by kernel_rfl) (by kernel_rfl) (by first | omega | (simp; done) | (simp; omega) | (have := ah_len hB (by assumption); omega)) (fun _ => by kernel_rfl) (fun _ => by kernel_rfl)) fun ac hA => sr_t 8 (vA #[vI .i64 y21.i, vI .i64 y21.j, vI .u32 y21.addr, vI .i64 y21.p.a.f, vI .i64 y21.p.a.pc, vI .i64 y21.p.b.f, vI .i64 y21.p.b.pc]) hR rfl hA hC (Rd.loadRow (b := b22) (i := o23 + k * 7) (xs := [vI .i64 y21.i, vI .i64 y21.j, vI .u32 y21.addr, vI .i64 y21.p.a.f, vI .i64 y21.p.a.pc, vI .i64 y21.p.b.f, vI .i64 y21.p.b.pc]) (by kernel_rfl) (fun _ hw => row_ld (rowR_at ((hw).get 1 rfl) elt_Race.len) hy21 (Fr.refl No _) (fun h => h) 0 7 (by kernel_rfl)) (by kernel_rfl)) fun ac hA => sr_p 11 (vS A d.length cc) hR rfl hA fun ac hA => sr_p 12 (vI .i64 (p : Int)) hR rfl hA fun ac hA => sr_q 13 (vS (if cc = p then (A : Option Addr) else Option.map (fun a_ => Addr.add a_ (p * 7)) (A : Option Addr)) (d.drop p).length (cc - p)) hR rfl hA ((Rd.slice (E := 47) (A := A) (n := d.length) (c := cc) (l := p) (h := d.length) (m := cc) (sz := 7) (by kernel_rfl) (fun _ => by kernel_rfl) (fun _ => by kernel_rfl) (fun w => bounds_lo (by omega) w)).cast (slice_eq rfl (by first | omega | (simp; done) | (simp; omega)) rfl)) fun ac hA => sr_two (i := 0) (j := 9) (by kernel_rfl) ?_ ?_
     ·
      refine (sr_d rfl hA (Runs.cells (fun b => vS (some ⟨b, 0, none⟩) 0 0) #[] 47 (fun _ => by kernel_rfl) hW ?_)); clear hA ac hW; intro br10_0 w27 hW hbr10_0 hfw27 ac hA
      refine ⟨⟨fun _ => (hW.pick [1, 2, 3] (by decide) rfl).pickG [0, 1, 2] rfl, fun h => absurd h (by decide)⟩, ?_⟩; have hC : Ws w No [rowR 47 7 enRace (vS A d.length cc) d, rowR 47 7 enRace (vS (some ⟨b22, o23, none⟩) (raceL L).length c5) (raceL L), Cel b1 #[vS A_L L.length c_L, vS A_B B.length c_B] 31] [nestR innerBV B, roR A_B 1 enBV B, roR A_L 9 enEvent L] w27 := (hW.pick [1, 2, 3] (by decide) rfl).pickG [0, 1, 2] rfl
      refine sr_two (i := 4) (j := 9) (by kernel_rfl) ?_ ?_
      ·
       have hW := hW.celRow (en := enRace) (H' := [rowR 47 7 enRace (vS (some ⟨br10_0, 0, none⟩) ([] : List Race).length ([] : List Race).length) ([] : List Race), rowR 47 7 enRace (vS A d.length cc) d, rowR 47 7 enRace (vS (some ⟨b22, o23, none⟩) (raceL L).length c5) (raceL L), Cel b1 #[vS A_L L.length c_L, vS A_B B.length c_B] 31]) 0 rfl ([] : List Race) (by rfl) elt_Race.len (by decide) rfl
       refine (sr_d rfl hA (Runs.appOwn (B := A) (k := cc) (E := 47) (sz := 7) (en := enRace) (l := ([] : List Race)) (m := (d.take p)) (i := 0) (by kernel_rfl) (by kernel_rfl) elt_Race (by kernel_rfl) hW rfl ((rowR_at ((hW).get 1 rfl) elt_Race.len).takeE p) (by first | omega | (simp; done) | (simp; omega)) (by first | omega | (simp; done) | (simp; omega)) ?_)); clear hA ac hW; intro Ar10_4 cr10_4 w28 hW hccr10_4 ac hA
       refine ⟨⟨fun _ => (hW.pick [1, 2, 3] (by decide) rfl).pickG [0, 1, 2] rfl, fun h => absurd h (by decide)⟩, ?_⟩; have hC : Ws w No [rowR 47 7 enRace (vS A d.length cc) d, rowR 47 7 enRace (vS (some ⟨b22, o23, none⟩) (raceL L).length c5) (raceL L), Cel b1 #[vS A_L L.length c_L, vS A_B B.length c_B] 31] [nestR innerBV B, roR A_B 1 enBV B, roR A_L 9 enEvent L] w28 := (hW.pick [1, 2, 3] (by decide) rfl).pickG [0, 1, 2] rfl
       refine sr_one (i := 9) (by kernel_rfl) (sr_d rfl hA (Runs.cells (fun b => vS (some ⟨b, 0, none⟩) 1 1) #[vI .i64 y21.i, vI .i64 y21.j, vI .u32 y21.addr, vI .i64 y21.p.a.f, vI .i64 y21.p.a.pc, vI .i64 y21.p.b.f, vI .i64 y21.p.b.pc] 47 (fun _ => by kernel_rfl) hW ?_)); clear hA ac hW; intro br10_9 w29 hW hbr10_9 hfw29 ac hA
       refine qn <| sr_one (i := 10) (by kernel_rfl) (sr_d rfl hA (Runs.appOwn (B := (some ⟨br10_9, 0, none⟩)) (k := 1) (E := 47) (sz := 7) (en := enRace) (l := (([] : List Race) ++ (d.take p))) (m := ([y21] : List Race)) (i := 1) (by kernel_rfl) (by kernel_rfl) elt_Race (by kernel_rfl) hW rfl (rowAt_cel ((hW).cel 0 rfl) ([y21] : List Race) (by rfl) elt_Race.len) (by first | omega | (simp; done) | (simp; omega)) (by first | omega | (simp; done) | (simp; omega)) ?_)); clear hA ac hW; intro Ar10_10 cr10_10 w30 hW hccr10_10 ac hA
       refine qn <| sr_one (i := 14) (by kernel_rfl) (sr_d rfl hA (Runs.appOwn (B := (if cc = p then (A : Option Addr) else Option.map (fun a_ => Addr.add a_ (p * 7)) (A : Option Addr))) (k := cc - p) (E := 47) (sz := 7) (en := enRace) (l := ((([] : List Race) ++ (d.take p)) ++ ([y21] : List Race))) (m := (d.drop p)) (i := 1) (by kernel_rfl) (by kernel_rfl) elt_Race (by kernel_rfl) hW rfl ((rowR_at ((hW).get 2 rfl) elt_Race.len).dropE (by first | assumption | omega) p) (by first | omega | (simp; done) | (simp; omega)) (by first | omega | (simp; done) | (simp; omega)) ?_)); clear hA ac hW; intro Ar10_14 cr10_14 w31 hW hccr10_14 ac hA
       refine qn <| sr_p 15 (vS Ar10_14 (((([] : List Race) ++ (d.take p)) ++ ([y21] : List Race)) ++ (d.drop p)).length cr10_14) hR rfl hA ?_; clear hA ac; intro ac hA
       refine sr_done (by kernel_rfl) ?_ _
       exact ⟨Ar10_10, Ar10_14, Ar10_4, br10_0, br10_9, cr10_10, cr10_14, cr10_4, hccr10_10, hccr10_14, hccr10_4, hA.sub (by and_intros <;> first | kernel_rfl | trivial), (hW.pick [0, 1, 2, 3, 4] (by decide) rfl).pickG [0, 1, 2] rfl⟩
      ·
       refine (sr_d rfl hA (Runs.cells (fun b => vS (some ⟨b, 0, none⟩) 1 1) #[vI .i64 y21.i, vI .i64 y21.j, vI .u32 y21.addr, vI .i64 y21.p.a.f, vI .i64 y21.p.a.pc, vI .i64 y21.p.b.f, vI .i64 y21.p.b.pc] 47 (fun _ => by kernel_rfl) hW ?_)); clear hA ac hW; intro br10_9 w32 hW hbr10_9 hfw32 ac hA
       refine qn ?_
       have hW := hW.celRow (en := enRace) (H' := [Cel br10_9 #[vI .i64 y21.i, vI .i64 y21.j, vI .u32 y21.addr, vI .i64 y21.p.a.f, vI .i64 y21.p.a.pc, vI .i64 y21.p.b.f, vI .i64 y21.p.b.pc] 47, rowR 47 7 enRace (vS (some ⟨br10_0, 0, none⟩) ([] : List Race).length ([] : List Race).length) ([] : List Race), rowR 47 7 enRace (vS A d.length cc) d, rowR 47 7 enRace (vS (some ⟨b22, o23, none⟩) (raceL L).length c5) (raceL L), Cel b1 #[vS A_L L.length c_L, vS A_B B.length c_B] 31]) 1 rfl ([] : List Race) (by rfl) elt_Race.len (by decide) rfl
       refine sr_one (i := 4) (by kernel_rfl) (sr_d rfl hA (Runs.appOwn (B := A) (k := cc) (E := 47) (sz := 7) (en := enRace) (l := ([] : List Race)) (m := (d.take p)) (i := 1) (by kernel_rfl) (by kernel_rfl) elt_Race (by kernel_rfl) hW rfl ((rowR_at ((hW).get 2 rfl) elt_Race.len).takeE p) (by first | omega | (simp; done) | (simp; omega)) (by first | omega | (simp; done) | (simp; omega)) ?_)); clear hA ac hW; intro Ar10_4 cr10_4 w33 hW hccr10_4 ac hA
       refine ⟨⟨fun _ => (hW.pick [2, 3, 4] (by decide) rfl).pickG [0, 1, 2] rfl, fun h => absurd h (by decide)⟩, ?_⟩; have hC : Ws w No [rowR 47 7 enRace (vS A d.length cc) d, rowR 47 7 enRace (vS (some ⟨b22, o23, none⟩) (raceL L).length c5) (raceL L), Cel b1 #[vS A_L L.length c_L, vS A_B B.length c_B] 31] [nestR innerBV B, roR A_B 1 enBV B, roR A_L 9 enEvent L] w33 := (hW.pick [2, 3, 4] (by decide) rfl).pickG [0, 1, 2] rfl
       refine sr_one (i := 10) (by kernel_rfl) (sr_d rfl hA (Runs.appOwn (B := (some ⟨br10_9, 0, none⟩)) (k := 1) (E := 47) (sz := 7) (en := enRace) (l := (([] : List Race) ++ (d.take p))) (m := ([y21] : List Race)) (i := 1) (by kernel_rfl) (by kernel_rfl) elt_Race (by kernel_rfl) hW rfl (rowAt_cel ((hW).cel 0 rfl) ([y21] : List Race) (by rfl) elt_Race.len) (by first | omega | (simp; done) | (simp; omega)) (by first | omega | (simp; done) | (simp; omega)) ?_)); clear hA ac hW; intro Ar10_10 cr10_10 w34 hW hccr10_10 ac hA
       refine qn <| sr_one (i := 14) (by kernel_rfl) (sr_d rfl hA (Runs.appOwn (B := (if cc = p then (A : Option Addr) else Option.map (fun a_ => Addr.add a_ (p * 7)) (A : Option Addr))) (k := cc - p) (E := 47) (sz := 7) (en := enRace) (l := ((([] : List Race) ++ (d.take p)) ++ ([y21] : List Race))) (m := (d.drop p)) (i := 1) (by kernel_rfl) (by kernel_rfl) elt_Race (by kernel_rfl) hW rfl ((rowR_at ((hW).get 2 rfl) elt_Race.len).dropE (by first | assumption | omega) p) (by first | omega | (simp; done) | (simp; omega)) (by first | omega | (simp; done) | (simp; omega)) ?_)); clear hA ac hW; intro Ar10_14 cr10_14 w35 hW hccr10_14 ac hA
       refine qn <| sr_p 15 (vS Ar10_14 (((([] : List Race) ++ (d.take p)) ++ ([y21] : List Race)) ++ (d.drop p)).length cr10_14) hR rfl hA ?_; clear hA ac; intro ac hA
       refine sr_done (by kernel_rfl) ?_ _
       exact ⟨Ar10_10, Ar10_14, Ar10_4, br10_0, br10_9, cr10_10, cr10_14, cr10_4, hccr10_10, hccr10_14, hccr10_4, hA.sub (by and_intros <;> first | kernel_rfl | trivial), (hW.pick [0, 1, 2, 3, 4] (by decide) rfl).pickG [0, 1, 2] rfl⟩
     ·
      refine (sr_d rfl hA (Runs.cells (fun b => vS (some ⟨b, 0, none⟩) 1 1) #[vI .i64 y21.i, vI .i64 y21.j, vI .u32 y21.addr, vI .i64 y21.p.a.f, vI .i64 y21.p.a.pc, vI .i64 y21.p.b.f, vI .i64 y21.p.b.pc] 47 (fun _ => by kernel_rfl) hW ?_)); clear hA ac hW; intro br10_9 w36 hW hbr10_9 hfw36 ac hA
      refine qn <| sr_one (i := 0) (by kernel_rfl) (sr_d rfl hA (Runs.cells (fun b => vS (some ⟨b, 0, none⟩) 0 0) #[] 47 (fun _ => by kernel_rfl) hW ?_)); clear hA ac hW; intro br10_0 w37 hW hbr10_0 hfw37 ac hA
      refine ⟨⟨fun _ => (hW.pick [2, 3, 4] (by decide) rfl).pickG [0, 1, 2] rfl, fun h => absurd h (by decide)⟩, ?_⟩; have hC : Ws w No [rowR 47 7 enRace (vS A d.length cc) d, rowR 47 7 enRace (vS (some ⟨b22, o23, none⟩) (raceL L).length c5) (raceL L), Cel b1 #[vS A_L L.length c_L, vS A_B B.length c_B] 31] [nestR innerBV B, roR A_B 1 enBV B, roR A_L 9 enEvent L] w37 := (hW.pick [2, 3, 4] (by decide) rfl).pickG [0, 1, 2] rfl
      have hW := hW.celRow (en := enRace) (H' := [rowR 47 7 enRace (vS (some ⟨br10_0, 0, none⟩) ([] : List Race).length ([] : List Race).length) ([] : List Race), Cel br10_9 #[vI .i64 y21.i, vI .i64 y21.j, vI .u32 y21.addr, vI .i64 y21.p.a.f, vI .i64 y21.p.a.pc, vI .i64 y21.p.b.f, vI .i64 y21.p.b.pc] 47, rowR 47 7 enRace (vS A d.length cc) d, rowR 47 7 enRace (vS (some ⟨b22, o23, none⟩) (raceL L).length c5) (raceL L), Cel b1 #[vS A_L L.length c_L, vS A_B B.length c_B] 31]) 0 rfl ([] : List Race) (by rfl) elt_Race.len (by decide) rfl
      refine sr_one (i := 4) (by kernel_rfl) (sr_d rfl hA (Runs.appOwn (B := A) (k := cc) (E := 47) (sz := 7) (en := enRace) (l := ([] : List Race)) (m := (d.take p)) (i := 0) (by kernel_rfl) (by kernel_rfl) elt_Race (by kernel_rfl) hW rfl ((rowR_at ((hW).get 2 rfl) elt_Race.len).takeE p) (by first | omega | (simp; done) | (simp; omega)) (by first | omega | (simp; done) | (simp; omega)) ?_)); clear hA ac hW; intro Ar10_4 cr10_4 w38 hW hccr10_4 ac hA
      refine ⟨⟨fun _ => (hW.pick [2, 3, 4] (by decide) rfl).pickG [0, 1, 2] rfl, fun h => absurd h (by decide)⟩, ?_⟩; have hC : Ws w No [rowR 47 7 enRace (vS A d.length cc) d, rowR 47 7 enRace (vS (some ⟨b22, o23, none⟩) (raceL L).length c5) (raceL L), Cel b1 #[vS A_L L.length c_L, vS A_B B.length c_B] 31] [nestR innerBV B, roR A_B 1 enBV B, roR A_L 9 enEvent L] w38 := (hW.pick [2, 3, 4] (by decide) rfl).pickG [0, 1, 2] rfl
      refine sr_one (i := 10) (by kernel_rfl) (sr_d rfl hA (Runs.appOwn (B := (some ⟨br10_9, 0, none⟩)) (k := 1) (E := 47) (sz := 7) (en := enRace) (l := (([] : List Race) ++ (d.take p))) (m := ([y21] : List Race)) (i := 0) (by kernel_rfl) (by kernel_rfl) elt_Race (by kernel_rfl) hW rfl (rowAt_cel ((hW).cel 1 rfl) ([y21] : List Race) (by rfl) elt_Race.len) (by first | omega | (simp; done) | (simp; omega)) (by first | omega | (simp; done) | (simp; omega)) ?_)); clear hA ac hW; intro Ar10_10 cr10_10 w39 hW hccr10_10 ac hA
      refine qn <| sr_one (i := 14) (by kernel_rfl) (sr_d rfl hA (Runs.appOwn (B := (if cc = p then (A : Option Addr) else Option.map (fun a_ => Addr.add a_ (p * 7)) (A : Option Addr))) (k := cc - p) (E := 47) (sz := 7) (en := enRace) (l := ((([] : List Race) ++ (d.take p)) ++ ([y21] : List Race))) (m := (d.drop p)) (i := 0) (by kernel_rfl) (by kernel_rfl) elt_Race (by kernel_rfl) hW rfl ((rowR_at ((hW).get 2 rfl) elt_Race.len).dropE (by first | assumption | omega) p) (by first | omega | (simp; done) | (simp; omega)) (by first | omega | (simp; done) | (simp; omega)) ?_)); clear hA ac hW; intro Ar10_14 cr10_14 w40 hW hccr10_14 ac hA
      refine qn <| sr_p 15 (vS Ar10_14 (((([] : List Race) ++ (d.take p)) ++ ([y21] : List Race)) ++ (d.drop p)).length cr10_14) hR rfl hA ?_; clear hA ac; intro ac hA
      refine sr_done (by kernel_rfl) ?_ _
      exact ⟨Ar10_10, Ar10_14, Ar10_4, br10_0, br10_9, cr10_10, cr10_14, cr10_4, hccr10_10, hccr10_14, hccr10_4, hA.sub (by and_intros <;> first | kernel_rfl | trivial), (hW.pick [1, 0, 2, 3, 4] (by decide) rfl).pickG [0, 1, 2] rfl⟩
   clear hA ac hW; rintro ac w41 ⟨Ar10_10, Ar10_14, Ar10_4, br10_0, br10_9, cr10_10, cr10_14, cr10_4, hccr10_10, hccr10_14, hccr10_4, hA, hW⟩
   refine blkN <| thenN <| wp_region_lit <| st_p (vI .i64 (k : Int)) hA fun ac hA => st_q (vI .i64 ((k + 1 : Nat) : Int)) hA hW.cls (Rd.pureE (v0 := vI .i64 (IntKind.i64.wrap ((k : Int) + 1))) (fun _ => by kernel_rfl) (congrArg (vI .i64) ((w_i64 (x := (k : Int) + 1) (by omega) (by omega)).trans (by omega)))) fun ac hA => st_p (vI .i64 ((k + 1 : Nat) : Int)) hA fun ac hA => wn ?_
   exact ⟨(raceL L).length - (k + 1), by omega, k + 1, ((([] : List Race) ++ (d.take p)) ++ ([y21] : List Race)) ++ (d.drop p), Ar10_14, cr10_14, rfl, by omega, by rw [tk_snoc hy21, refL_snoc, ← hd, ins_yes (p := p) (fun i_ y_ q1_ q2_ => hlt2 _ _ _ q1_ q2_ hy21) (.inl (by omega))]; simp, by exact (own_cap ((hW).get 1 rfl)), by simp; omega, hA.sub (by and_intros <;> first | kernel_rfl | trivial), (hW.pick [1, 3, 4] (by decide) rfl).pickG [0, 1, 2] rfl⟩
  rw [h24] at hA
  have h24 := ne_of_beq_false h24
  refine sq_p (vS A d.length cc) hA fun ac hA => sq_p (vI .i64 (p : Int)) hA fun ac hA => ?_
  obtain ⟨y42, hy42⟩ : ∃ y, d[p]? = some y := ⟨_, List.getElem?_eq_getElem (by first | omega | (simp; done) | (simp; omega) | (have := ah_len hB (by assumption); omega))⟩
  obtain ⟨b43, o44, rfl, hbb43⟩ := row_some (rowR_at ((hW).get 0 rfl) elt_Race.len) hy42
  refine sq_q (vP (some ⟨b43, o44 + p * 7, none⟩)) hA (Rd.indexAddr (e := 47) (sz := 7) (b := b43) (off := o44) (n := d.length) (c := cc) (k := p) (by kernel_rfl) (by kernel_rfl) (by first | omega | (simp; done) | (simp; omega) | (have := ah_len hB (by assumption); omega)) (fun _ => by kernel_rfl) (fun _ => by kernel_rfl)) fun ac hA => sq_p (vP (some ⟨b43, o44 + p * 7 + 2, none⟩)) hA fun ac hA => sq_q (vI .u32 y42.addr) hA (Rd.loadRow (b := b43) (i := o44 + p * 7 + 2) (xs := [vI .u32 y42.addr]) (by kernel_rfl) (fun _ hw => row_ld (rowR_at ((hw.1).get 0 rfl) elt_Race.len) hy42 (Fr.refl No _) (fun h => h) 2 1 (by kernel_rfl)) (by kernel_rfl)) fun ac hA => sq_p (vS (some ⟨b22, o23, none⟩) (raceL L).length c5) hA fun ac hA => sq_p (vI .i64 (k : Int)) hA fun ac hA => sq_q (vP (some ⟨b22, o23 + k * 7, none⟩)) hA (Rd.indexAddr (e := 47) (sz := 7) (b := b22) (off := o23) (n := (raceL L).length) (c := c5) (k := k) (by kernel_rfl) (by kernel_rfl) (by first | omega | (simp; done) | (simp; omega) | (have := ah_len hB (by assumption); omega)) (fun _ => by kernel_rfl) (fun _ => by kernel_rfl)) fun ac hA => sq_p (vP (some ⟨b22, o23 + k * 7 + 2, none⟩)) hA fun ac hA => sq_q (vI .u32 y21.addr) hA (Rd.loadRow (b := b22) (i := o23 + k * 7 + 2) (xs := [vI .u32 y21.addr]) (by kernel_rfl) (fun _ hw => row_ld (rowR_at ((hw.1).get 1 rfl) elt_Race.len) hy21 (Fr.refl No _) (fun h => h) 2 1 (by kernel_rfl)) (by kernel_rfl)) fun ac hA => sq_p (vB ((y42.addr : Int) != (y21.addr : Int))) hA fun ac hA => sq_p (vB ((y42.addr : Int) != (y21.addr : Int))) hA fun ac hA => sq_nil ?_; intro w45 hww45; have hW := hww45.1; have hfw45 := hww45.2; clear hww45
  refine thenN <| wp_cond_split (t := (y42.addr : Int) != (y21.addr : Int)) (hA.eval (by kernel_rfl)) (fun h46 => ?_) (fun h46 => ?_)
  ·
   have h46 := bne_iff_ne.1 h46
   refine wp_cut (fun ac_ wl_ => ∃ Ar10_10 : Option Addr, ∃ Ar10_14 : Option Addr, ∃ Ar10_4 : Option Addr, ∃ br10_0 : Nat, ∃ br10_9 : Nat, ∃ cr10_10 : Nat, ∃ cr10_14 : Nat, ∃ cr10_4 : Nat, (((([] : List Race) ++ (d.take p)) ++ ([y21] : List Race)).length ≤ cr10_10) ∧ ((((([] : List Race) ++ (d.take p)) ++ ([y21] : List Race)) ++ (d.drop p)).length ≤ cr10_14) ∧ ((([] : List Race) ++ (d.take p)).length ≤ cr10_4) ∧ Fm 67 [] [(0, vA #[vS A_L L.length c_L, vS A_B B.length c_B]), (1, pA b1 0), (3, vS Ar10_14 (((([] : List Race) ++ (d.take p)) ++ ([y21] : List Race)) ++ (d.drop p)).length cr10_14), (4, vS (some ⟨b22, o23, none⟩) (raceL L).length c5), (5, vI .i64 (k : Int)), (6, vI .i64 (p : Int)), (34, vI .i64 (p : Int)), (35, vS (some ⟨b43, o44, none⟩) d.length cc), (36, vI .i64 (d.length : Int)), (37, vB false), (38, vB false), (39, vS (some ⟨b43, o44, none⟩) d.length cc), (40, vI .i64 (p : Int)), (41, vP (some ⟨b43, o44 + p * 7, none⟩)), (42, vP (some ⟨b43, o44 + p * 7 + 2, none⟩)), (43, vI .u32 y42.addr), (44, vS (some ⟨b22, o23, none⟩) (raceL L).length c5), (45, vI .i64 (k : Int)), (46, vP (some ⟨b22, o23 + k * 7, none⟩)), (47, vP (some ⟨b22, o23 + k * 7 + 2, none⟩)), (48, vI .u32 y21.addr), (49, vB ((y42.addr : Int) != (y21.addr : Int))), (50, vB ((y42.addr : Int) != (y21.addr : Int)))] ac_ ∧ Ws w No [Cel br10_9 #[vI .i64 y21.i, vI .i64 y21.j, vI .u32 y21.addr, vI .i64 y21.p.a.f, vI .i64 y21.p.a.pc, vI .i64 y21.p.b.f, vI .i64 y21.p.b.pc] 47, rowR 47 7 enRace (vS Ar10_14 (((([] : List Race) ++ (d.take p)) ++ ([y21] : List Race)) ++ (d.drop p)).length cr10_14) (((([] : List Race) ++ (d.take p)) ++ ([y21] : List Race)) ++ (d.drop p)), rowR 47 7 enRace (vS (some ⟨b43, o44, none⟩) d.length cc) d, rowR 47 7 enRace (vS (some ⟨b22, o23, none⟩) (raceL L).length c5) (raceL L), Cel b1 #[vS A_L L.length c_L, vS A_B B.length c_B] 31] [nestR innerBV B, roR A_B 1 enBV B, roR A_L 9 enEvent L] wl_) ?_ ?_
   · refine sr_region (m := 16) (C := Ws w No [rowR 47 7 enRace (vS (some ⟨b43, o44, none⟩) d.length cc) d, rowR 47 7 enRace (vS (some ⟨b22, o23, none⟩) (raceL L).length c5) (raceL L), Cel b1 #[vS A_L L.length c_L, vS A_B B.length c_B] 31] [nestR innerBV B, roR A_B 1 enBV B, roR A_L 9 enEvent L]) (fun i => [8].contains i) (fun i => [0, 4, 8].contains i) (fun i => [1, 2, 3, 5, 6, 7, 11, 12, 13, 15].contains i) (by kernel_rfl) (by kernel_rfl) (by kernel_rfl) (by kernel_rfl) hW ?_; clear hW; intro w47 hW hfw47 hR; have hC : Ws w No [rowR 47 7 enRace (vS (some ⟨b43, o44, none⟩) d.length cc) d, rowR 47 7 enRace (vS (some ⟨b22, o23, none⟩) (raceL L).length c5) (raceL L), Cel b1 #[vS A_L L.length c_L, vS A_B B.length c_B] 31] [nestR innerBV B, roR A_B 1 enBV B, roR A_L 9 enEvent L] w47 := hW.pick [0, 1, 2] (by decide) rfl
     refine sr_p 1 (vS (some ⟨b43, o44, none⟩) d.length cc) hR rfl hA fun ac hA => sr_p 2 (vI .i64 (p : Int)) hR rfl hA fun ac hA => sr_q 3 (vS (some ⟨b43, o44, none⟩) (d.take p).length cc) hR rfl hA ((Rd.slice (E := 47) (A := (some ⟨b43, o44, none⟩)) (n := d.length) (c := cc) (l := 0) (h := p) (m := cc) (sz := 7) (by kernel_rfl) (fun _ => by kernel_rfl) (fun _ => by kernel_rfl) (fun w => bounds_hi (by omega) w)).cast (slice_eq (addr_zero _ _ _) (by first | omega | (simp; done) | (simp; omega)) (by first | omega | (simp; done) | (simp; omega)))) fun ac hA => sr_p 5 (vS (some ⟨b22, o23, none⟩) (raceL L).length c5) hR rfl hA fun ac hA => sr_p 6 (vI .i64 (k : Int)) hR rfl hA fun ac hA => sr_q 7 (vP (some ⟨b22, o23 + k * 7, none⟩)) hR rfl hA (Rd.indexAddr (e := 47) (sz := 7) (b := b22) (off := o23) (n := (raceL L).length) (c := c5) (k := k) (by kernel_rfl) (by kernel_rfl) (by first | omega | (simp; done) | (simp; omega) | (have := ah_len hB (by assumption); omega)) (fun _ => by kernel_rfl) (fun _ => by kernel_rfl)) fun ac hA => sr_t 8 (vA #[vI .i64 y21.i, vI .i64 y21.j, vI .u32 y21.addr, vI .i64 y21.p.a.f, vI .i64 y21.p.a.pc, vI .i64 y21.p.b.f, vI .i64 y21.p.b.pc]) hR rfl hA hC (Rd.loadRow (b := b22) (i := o23 + k * 7) (xs := [vI .i64 y21.i, vI .i64 y21.j, vI .u32 y21.addr, vI .i64 y21.p.a.f, vI .i64 y21.p.a.pc, vI .i64 y21.p.b.f, vI .i64 y21.p.b.pc]) (by kernel_rfl) (fun _ hw => row_ld (rowR_at ((hw).get 1 rfl) elt_Race.len) hy21 (Fr.refl No _) (fun h => h) 0 7 (by kernel_rfl)) (by kernel_rfl)) fun ac hA => sr_p 11 (vS (some ⟨b43, o44, none⟩) d.length cc) hR rfl hA fun ac hA => sr_p 12 (vI .i64 (p : Int)) hR rfl hA fun ac hA => sr_q 13 (vS (if cc = p then ((some ⟨b43, o44, none⟩) : Option Addr) else Option.map (fun a_ => Addr.add a_ (p * 7)) ((some ⟨b43, o44, none⟩) : Option Addr)) (d.drop p).length (cc - p)) hR rfl hA ((Rd.slice (E := 47) (A := (some ⟨b43, o44, none⟩)) (n := d.length) (c := cc) (l := p) (h := d.length) (m := cc) (sz := 7) (by kernel_rfl) (fun _ => by kernel_rfl) (fun _ => by kernel_rfl) (fun w => bounds_lo (by omega) w)).cast (slice_eq rfl (by first | omega | (simp; done) | (simp; omega)) rfl)) fun ac hA => sr_two (i := 0) (j := 9) (by kernel_rfl) ?_ ?_
     ·
      refine (sr_d rfl hA (Runs.cells (fun b => vS (some ⟨b, 0, none⟩) 0 0) #[] 47 (fun _ => by kernel_rfl) hW ?_)); clear hA ac hW; intro br10_0 w48 hW hbr10_0 hfw48 ac hA
      refine ⟨⟨fun _ => (hW.pick [1, 2, 3] (by decide) rfl).pickG [0, 1, 2] rfl, fun h => absurd h (by decide)⟩, ?_⟩; have hC : Ws w No [rowR 47 7 enRace (vS (some ⟨b43, o44, none⟩) d.length cc) d, rowR 47 7 enRace (vS (some ⟨b22, o23, none⟩) (raceL L).length c5) (raceL L), Cel b1 #[vS A_L L.length c_L, vS A_B B.length c_B] 31] [nestR innerBV B, roR A_B 1 enBV B, roR A_L 9 enEvent L] w48 := (hW.pick [1, 2, 3] (by decide) rfl).pickG [0, 1, 2] rfl
      refine sr_two (i := 4) (j := 9) (by kernel_rfl) ?_ ?_
      ·
       have hW := hW.celRow (en := enRace) (H' := [rowR 47 7 enRace (vS (some ⟨br10_0, 0, none⟩) ([] : List Race).length ([] : List Race).length) ([] : List Race), rowR 47 7 enRace (vS (some ⟨b43, o44, none⟩) d.length cc) d, rowR 47 7 enRace (vS (some ⟨b22, o23, none⟩) (raceL L).length c5) (raceL L), Cel b1 #[vS A_L L.length c_L, vS A_B B.length c_B] 31]) 0 rfl ([] : List Race) (by rfl) elt_Race.len (by decide) rfl
       refine (sr_d rfl hA (Runs.appOwn (B := (some ⟨b43, o44, none⟩)) (k := cc) (E := 47) (sz := 7) (en := enRace) (l := ([] : List Race)) (m := (d.take p)) (i := 0) (by kernel_rfl) (by kernel_rfl) elt_Race (by kernel_rfl) hW rfl ((rowR_at ((hW).get 1 rfl) elt_Race.len).takeE p) (by first | omega | (simp; done) | (simp; omega)) (by first | omega | (simp; done) | (simp; omega)) ?_)); clear hA ac hW; intro Ar10_4 cr10_4 w49 hW hccr10_4 ac hA
       refine ⟨⟨fun _ => (hW.pick [1, 2, 3] (by decide) rfl).pickG [0, 1, 2] rfl, fun h => absurd h (by decide)⟩, ?_⟩; have hC : Ws w No [rowR 47 7 enRace (vS (some ⟨b43, o44, none⟩) d.length cc) d, rowR 47 7 enRace (vS (some ⟨b22, o23, none⟩) (raceL L).length c5) (raceL L), Cel b1 #[vS A_L L.length c_L, vS A_B B.length c_B] 31] [nestR innerBV B, roR A_B 1 enBV B, roR A_L 9 enEvent L] w49 := (hW.pick [1, 2, 3] (by decide) rfl).pickG [0, 1, 2] rfl
       refine sr_one (i := 9) (by kernel_rfl) (sr_d rfl hA (Runs.cells (fun b => vS (some ⟨b, 0, none⟩) 1 1) #[vI .i64 y21.i, vI .i64 y21.j, vI .u32 y21.addr, vI .i64 y21.p.a.f, vI .i64 y21.p.a.pc, vI .i64 y21.p.b.f, vI .i64 y21.p.b.pc] 47 (fun _ => by kernel_rfl) hW ?_)); clear hA ac hW; intro br10_9 w50 hW hbr10_9 hfw50 ac hA
       refine qn <| sr_one (i := 10) (by kernel_rfl) (sr_d rfl hA (Runs.appOwn (B := (some ⟨br10_9, 0, none⟩)) (k := 1) (E := 47) (sz := 7) (en := enRace) (l := (([] : List Race) ++ (d.take p))) (m := ([y21] : List Race)) (i := 1) (by kernel_rfl) (by kernel_rfl) elt_Race (by kernel_rfl) hW rfl (rowAt_cel ((hW).cel 0 rfl) ([y21] : List Race) (by rfl) elt_Race.len) (by first | omega | (simp; done) | (simp; omega)) (by first | omega | (simp; done) | (simp; omega)) ?_)); clear hA ac hW; intro Ar10_10 cr10_10 w51 hW hccr10_10 ac hA
       refine qn <| sr_one (i := 14) (by kernel_rfl) (sr_d rfl hA (Runs.appOwn (B := (if cc = p then ((some ⟨b43, o44, none⟩) : Option Addr) else Option.map (fun a_ => Addr.add a_ (p * 7)) ((some ⟨b43, o44, none⟩) : Option Addr))) (k := cc - p) (E := 47) (sz := 7) (en := enRace) (l := ((([] : List Race) ++ (d.take p)) ++ ([y21] : List Race))) (m := (d.drop p)) (i := 1) (by kernel_rfl) (by kernel_rfl) elt_Race (by kernel_rfl) hW rfl ((rowR_at ((hW).get 2 rfl) elt_Race.len).dropE (by first | assumption | omega) p) (by first | omega | (simp; done) | (simp; omega)) (by first | omega | (simp; done) | (simp; omega)) ?_)); clear hA ac hW; intro Ar10_14 cr10_14 w52 hW hccr10_14 ac hA
       refine qn <| sr_p 15 (vS Ar10_14 (((([] : List Race) ++ (d.take p)) ++ ([y21] : List Race)) ++ (d.drop p)).length cr10_14) hR rfl hA ?_; clear hA ac; intro ac hA
       refine sr_done (by kernel_rfl) ?_ _
       exact ⟨Ar10_10, Ar10_14, Ar10_4, br10_0, br10_9, cr10_10, cr10_14, cr10_4, hccr10_10, hccr10_14, hccr10_4, hA.sub (by and_intros <;> first | kernel_rfl | trivial), (hW.pick [0, 1, 2, 3, 4] (by decide) rfl).pickG [0, 1, 2] rfl⟩
      ·
       refine (sr_d rfl hA (Runs.cells (fun b => vS (some ⟨b, 0, none⟩) 1 1) #[vI .i64 y21.i, vI .i64 y21.j, vI .u32 y21.addr, vI .i64 y21.p.a.f, vI .i64 y21.p.a.pc, vI .i64 y21.p.b.f, vI .i64 y21.p.b.pc] 47 (fun _ => by kernel_rfl) hW ?_)); clear hA ac hW; intro br10_9 w53 hW hbr10_9 hfw53 ac hA
       refine qn ?_
       have hW := hW.celRow (en := enRace) (H' := [Cel br10_9 #[vI .i64 y21.i, vI .i64 y21.j, vI .u32 y21.addr, vI .i64 y21.p.a.f, vI .i64 y21.p.a.pc, vI .i64 y21.p.b.f, vI .i64 y21.p.b.pc] 47, rowR 47 7 enRace (vS (some ⟨br10_0, 0, none⟩) ([] : List Race).length ([] : List Race).length) ([] : List Race), rowR 47 7 enRace (vS (some ⟨b43, o44, none⟩) d.length cc) d, rowR 47 7 enRace (vS (some ⟨b22, o23, none⟩) (raceL L).length c5) (raceL L), Cel b1 #[vS A_L L.length c_L, vS A_B B.length c_B] 31]) 1 rfl ([] : List Race) (by rfl) elt_Race.len (by decide) rfl
       refine sr_one (i := 4) (by kernel_rfl) (sr_d rfl hA (Runs.appOwn (B := (some ⟨b43, o44, none⟩)) (k := cc) (E := 47) (sz := 7) (en := enRace) (l := ([] : List Race)) (m := (d.take p)) (i := 1) (by kernel_rfl) (by kernel_rfl) elt_Race (by kernel_rfl) hW rfl ((rowR_at ((hW).get 2 rfl) elt_Race.len).takeE p) (by first | omega | (simp; done) | (simp; omega)) (by first | omega | (simp; done) | (simp; omega)) ?_)); clear hA ac hW; intro Ar10_4 cr10_4 w54 hW hccr10_4 ac hA
       refine ⟨⟨fun _ => (hW.pick [2, 3, 4] (by decide) rfl).pickG [0, 1, 2] rfl, fun h => absurd h (by decide)⟩, ?_⟩; have hC : Ws w No [rowR 47 7 enRace (vS (some ⟨b43, o44, none⟩) d.length cc) d, rowR 47 7 enRace (vS (some ⟨b22, o23, none⟩) (raceL L).length c5) (raceL L), Cel b1 #[vS A_L L.length c_L, vS A_B B.length c_B] 31] [nestR innerBV B, roR A_B 1 enBV B, roR A_L 9 enEvent L] w54 := (hW.pick [2, 3, 4] (by decide) rfl).pickG [0, 1, 2] rfl
       refine sr_one (i := 10) (by kernel_rfl) (sr_d rfl hA (Runs.appOwn (B := (some ⟨br10_9, 0, none⟩)) (k := 1) (E := 47) (sz := 7) (en := enRace) (l := (([] : List Race) ++ (d.take p))) (m := ([y21] : List Race)) (i := 1) (by kernel_rfl) (by kernel_rfl) elt_Race (by kernel_rfl) hW rfl (rowAt_cel ((hW).cel 0 rfl) ([y21] : List Race) (by rfl) elt_Race.len) (by first | omega | (simp; done) | (simp; omega)) (by first | omega | (simp; done) | (simp; omega)) ?_)); clear hA ac hW; intro Ar10_10 cr10_10 w55 hW hccr10_10 ac hA
       refine qn <| sr_one (i := 14) (by kernel_rfl) (sr_d rfl hA (Runs.appOwn (B := (if cc = p then ((some ⟨b43, o44, none⟩) : Option Addr) else Option.map (fun a_ => Addr.add a_ (p * 7)) ((some ⟨b43, o44, none⟩) : Option Addr))) (k := cc - p) (E := 47) (sz := 7) (en := enRace) (l := ((([] : List Race) ++ (d.take p)) ++ ([y21] : List Race))) (m := (d.drop p)) (i := 1) (by kernel_rfl) (by kernel_rfl) elt_Race (by kernel_rfl) hW rfl ((rowR_at ((hW).get 2 rfl) elt_Race.len).dropE (by first | assumption | omega) p) (by first | omega | (simp; done) | (simp; omega)) (by first | omega | (simp; done) | (simp; omega)) ?_)); clear hA ac hW; intro Ar10_14 cr10_14 w56 hW hccr10_14 ac hA
       refine qn <| sr_p 15 (vS Ar10_14 (((([] : List Race) ++ (d.take p)) ++ ([y21] : List Race)) ++ (d.drop p)).length cr10_14) hR rfl hA ?_; clear hA ac; intro ac hA
       refine sr_done (by kernel_rfl) ?_ _
       exact ⟨Ar10_10, Ar10_14, Ar10_4, br10_0, br10_9, cr10_10, cr10_14, cr10_4, hccr10_10, hccr10_14, hccr10_4, hA.sub (by and_intros <;> first | kernel_rfl | trivial), (hW.pick [0, 1, 2, 3, 4] (by decide) rfl).pickG [0, 1, 2] rfl⟩
     ·
      refine (sr_d rfl hA (Runs.cells (fun b => vS (some ⟨b, 0, none⟩) 1 1) #[vI .i64 y21.i, vI .i64 y21.j, vI .u32 y21.addr, vI .i64 y21.p.a.f, vI .i64 y21.p.a.pc, vI .i64 y21.p.b.f, vI .i64 y21.p.b.pc] 47 (fun _ => by kernel_rfl) hW ?_)); clear hA ac hW; intro br10_9 w57 hW hbr10_9 hfw57 ac hA
      refine qn <| sr_one (i := 0) (by kernel_rfl) (sr_d rfl hA (Runs.cells (fun b => vS (some ⟨b, 0, none⟩) 0 0) #[] 47 (fun _ => by kernel_rfl) hW ?_)); clear hA ac hW; intro br10_0 w58 hW hbr10_0 hfw58 ac hA
      refine ⟨⟨fun _ => (hW.pick [2, 3, 4] (by decide) rfl).pickG [0, 1, 2] rfl, fun h => absurd h (by decide)⟩, ?_⟩; have hC : Ws w No [rowR 47 7 enRace (vS (some ⟨b43, o44, none⟩) d.length cc) d, rowR 47 7 enRace (vS (some ⟨b22, o23, none⟩) (raceL L).length c5) (raceL L), Cel b1 #[vS A_L L.length c_L, vS A_B B.length c_B] 31] [nestR innerBV B, roR A_B 1 enBV B, roR A_L 9 enEvent L] w58 := (hW.pick [2, 3, 4] (by decide) rfl).pickG [0, 1, 2] rfl
      have hW := hW.celRow (en := enRace) (H' := [rowR 47 7 enRace (vS (some ⟨br10_0, 0, none⟩) ([] : List Race).length ([] : List Race).length) ([] : List Race), Cel br10_9 #[vI .i64 y21.i, vI .i64 y21.j, vI .u32 y21.addr, vI .i64 y21.p.a.f, vI .i64 y21.p.a.pc, vI .i64 y21.p.b.f, vI .i64 y21.p.b.pc] 47, rowR 47 7 enRace (vS (some ⟨b43, o44, none⟩) d.length cc) d, rowR 47 7 enRace (vS (some ⟨b22, o23, none⟩) (raceL L).length c5) (raceL L), Cel b1 #[vS A_L L.length c_L, vS A_B B.length c_B] 31]) 0 rfl ([] : List Race) (by rfl) elt_Race.len (by decide) rfl
      refine sr_one (i := 4) (by kernel_rfl) (sr_d rfl hA (Runs.appOwn (B := (some ⟨b43, o44, none⟩)) (k := cc) (E := 47) (sz := 7) (en := enRace) (l := ([] : List Race)) (m := (d.take p)) (i := 0) (by kernel_rfl) (by kernel_rfl) elt_Race (by kernel_rfl) hW rfl ((rowR_at ((hW).get 2 rfl) elt_Race.len).takeE p) (by first | omega | (simp; done) | (simp; omega)) (by first | omega | (simp; done) | (simp; omega)) ?_)); clear hA ac hW; intro Ar10_4 cr10_4 w59 hW hccr10_4 ac hA
      refine ⟨⟨fun _ => (hW.pick [2, 3, 4] (by decide) rfl).pickG [0, 1, 2] rfl, fun h => absurd h (by decide)⟩, ?_⟩; have hC : Ws w No [rowR 47 7 enRace (vS (some ⟨b43, o44, none⟩) d.length cc) d, rowR 47 7 enRace (vS (some ⟨b22, o23, none⟩) (raceL L).length c5) (raceL L), Cel b1 #[vS A_L L.length c_L, vS A_B B.length c_B] 31] [nestR innerBV B, roR A_B 1 enBV B, roR A_L 9 enEvent L] w59 := (hW.pick [2, 3, 4] (by decide) rfl).pickG [0, 1, 2] rfl
      refine sr_one (i := 10) (by kernel_rfl) (sr_d rfl hA (Runs.appOwn (B := (some ⟨br10_9, 0, none⟩)) (k := 1) (E := 47) (sz := 7) (en := enRace) (l := (([] : List Race) ++ (d.take p))) (m := ([y21] : List Race)) (i := 0) (by kernel_rfl) (by kernel_rfl) elt_Race (by kernel_rfl) hW rfl (rowAt_cel ((hW).cel 1 rfl) ([y21] : List Race) (by rfl) elt_Race.len) (by first | omega | (simp; done) | (simp; omega)) (by first | omega | (simp; done) | (simp; omega)) ?_)); clear hA ac hW; intro Ar10_10 cr10_10 w60 hW hccr10_10 ac hA
      refine qn <| sr_one (i := 14) (by kernel_rfl) (sr_d rfl hA (Runs.appOwn (B := (if cc = p then ((some ⟨b43, o44, none⟩) : Option Addr) else Option.map (fun a_ => Addr.add a_ (p * 7)) ((some ⟨b43, o44, none⟩) : Option Addr))) (k := cc - p) (E := 47) (sz := 7) (en := enRace) (l := ((([] : List Race) ++ (d.take p)) ++ ([y21] : List Race))) (m := (d.drop p)) (i := 0) (by kernel_rfl) (by kernel_rfl) elt_Race (by kernel_rfl) hW rfl ((rowR_at ((hW).get 2 rfl) elt_Race.len).dropE (by first | assumption | omega) p) (by first | omega | (simp; done) | (simp; omega)) (by first | omega | (simp; done) | (simp; omega)) ?_)); clear hA ac hW; intro Ar10_14 cr10_14 w61 hW hccr10_14 ac hA
      refine qn <| sr_p 15 (vS Ar10_14 (((([] : List Race) ++ (d.take p)) ++ ([y21] : List Race)) ++ (d.drop p)).length cr10_14) hR rfl hA ?_; clear hA ac; intro ac hA
      refine sr_done (by kernel_rfl) ?_ _
      exact ⟨Ar10_10, Ar10_14, Ar10_4, br10_0, br10_9, cr10_10, cr10_14, cr10_4, hccr10_10, hccr10_14, hccr10_4, hA.sub (by and_intros <;> first | kernel_rfl | trivial), (hW.pick [1, 0, 2, 3, 4] (by decide) rfl).pickG [0, 1, 2] rfl⟩
   clear hA ac hW; rintro ac w62 ⟨Ar10_10, Ar10_14, Ar10_4, br10_0, br10_9, cr10_10, cr10_14, cr10_4, hccr10_10, hccr10_14, hccr10_4, hA, hW⟩
   refine blkN <| thenN <| wp_region_lit <| st_p (vI .i64 (k : Int)) hA fun ac hA => st_q (vI .i64 ((k + 1 : Nat) : Int)) hA hW.cls (Rd.pureE (v0 := vI .i64 (IntKind.i64.wrap ((k : Int) + 1))) (fun _ => by kernel_rfl) (congrArg (vI .i64) ((w_i64 (x := (k : Int) + 1) (by omega) (by omega)).trans (by omega)))) fun ac hA => st_p (vI .i64 ((k + 1 : Nat) : Int)) hA fun ac hA => wn ?_
   exact ⟨(raceL L).length - (k + 1), by omega, k + 1, ((([] : List Race) ++ (d.take p)) ++ ([y21] : List Race)) ++ (d.drop p), Ar10_14, cr10_14, rfl, by omega, by rw [tk_snoc hy21, refL_snoc, ← hd, ins_yes (p := p) (fun i_ y_ q1_ q2_ => hlt2 _ _ _ q1_ q2_ hy21) (.inr ⟨_, hy42, by rcases hex with q_ | ⟨y_, x_, q1_, q2_, q3_⟩; omega; (have e1_ := Option.some.inj (hy42.symm.trans q1_)); (have e2_ := Option.some.inj (hy21.symm.trans q2_)); subst e1_ e2_; exact q3_, by omega⟩)]; simp, by exact (own_cap ((hW).get 1 rfl)), by simp; omega, hA.sub (by and_intros <;> first | kernel_rfl | trivial), (hW.pick [1, 3, 4] (by decide) rfl).pickG [0, 1, 2] rfl⟩
  have h46 := of_bne_f h46
  refine wp_skip <| blkN <| thenN <| wp_region_lit <| st_p (vI .i64 (k : Int)) hA fun ac hA => st_q (vI .i64 ((k + 1 : Nat) : Int)) hA hW.cls (Rd.pureE (v0 := vI .i64 (IntKind.i64.wrap ((k : Int) + 1))) (fun _ => by kernel_rfl) (congrArg (vI .i64) ((w_i64 (x := (k : Int) + 1) (by omega) (by omega)).trans (by omega)))) fun ac hA => st_p (vI .i64 ((k + 1 : Nat) : Int)) hA fun ac hA => wn ?_
  exact ⟨(raceL L).length - (k + 1), by omega, k + 1, d, (some ⟨b43, o44, none⟩), cc, rfl, by omega, by rw [tk_snoc hy21, refL_snoc, ← hd, ins_no (p := p) (fun i_ y_ q1_ q2_ => hlt2 _ _ _ q1_ q2_ hy21) hy42 (by omega)], by exact hcc, by omega, hA.sub (by and_intros <;> first | kernel_rfl | trivial), (hW.pick [0, 1, 2] (by decide) rfl).pickG [0, 1, 2] rfl⟩
 have h8 := of_decide_eq_false h8
 refine wp_exit <| thenX <| thenX <| blkX <| thenN <| wr <| st_p (vS A d.length cc) hA fun ac hA => st_p (vS A d.length cc) hA fun ac hA => wn <| wp_ret <| r1 (vS A d.length cc) hA ?_
 clear hA
 rw [List.take_of_length_le (by omega)] at hd; subst hd; exact ⟨_, rfl, hW.fresh 0 rfl (fun _ h => h), hW.fr⟩

set_option maxRecDepth 100000 in
theorem e_r21same (A_a : Option Addr) (c_a : Nat) (a : List Race) (A_b : Option Addr) (c_b : Nat) (b : List Race) (w : World) (hr_a : RowAt w A_a 7 enRace a) (hc_a : a.length ≤ c_a) (hr_b : RowAt w A_b 7 enRace b) (hc_b : b.length ≤ c_b) (hla : a.length ≤ 100000) (hlb : b.length ≤ 100000) : Calls Tryz.prog 18 #[vS A_a a.length c_a, vS A_b b.length c_b] w (fun e w' => e = .returned (vB (decide (a = b))) ∧ Fr No w w') := by
 have _hu := hc_a; have _hv := hr_a; clear _hu _hv
 have _hu := hc_b; have _hv := hr_b; clear _hu _hv
 have _hu := hla; clear _hu
 have _hu := hlb; clear _hu
 refine enter_E 26 Tryz.func18 rfl rfl (by kernel_rfl) (L := [(0, vS A_a a.length c_a), (1, vS A_b b.length c_b)]) (by kernel_rfl) ?_
 intro ac hA
 have hW := Ws.start w No
 have hW := hW.arg hr_a
 have hW := hW.arg hr_b
 refine wr <| st_p (vB false) hA ?_; clear hA ac; intro ac hA
 refine wn <| wp_seq <| wr <| st_p (vS A_a a.length c_a) hA fun ac hA => st_p (vI .i64 (a.length : Int)) hA fun ac hA => st_p (vS A_b b.length c_b) hA fun ac hA => st_p (vI .i64 (b.length : Int)) hA fun ac hA => st_p (vB ((a.length : Int) != (b.length : Int))) hA fun ac hA => wn <| wp_cond_split (t := (a.length : Int) != (b.length : Int)) (hA.eval (by kernel_rfl)) (fun h1 => ?_) (fun h1 => ?_)
 ·
  have h1 := bne_iff_ne.1 h1
  refine wr <| st_p (vB false) hA ?_; clear hA ac; intro ac hA
  refine wn <| wp_ret <| thenR <| r1 (vB false) hA ?_
  clear hA
  refine ⟨retv (congrArg vB (decide_eq_false ?_).symm), hW.fr⟩
  intro e; subst e; exact absurd rfl (by omega)
 have h1 := of_bne_f h1
 refine wp_skip <| thenN <| wp_seq <| wr <| st_p (vI .i64 0) hA ?_; clear hA ac; intro ac hA
 refine wn <| wp_block <| wp_loop_m (fun m_ ac_ wl_ => ∃ k : Nat, m_ = a.length - k ∧ (k ≤ a.length) ∧ (a.take k = b.take k) ∧ Fm 26 [] [(0, vS A_a a.length c_a), (1, vS A_b b.length c_b), (5, vI .i64 (k : Int))] ac_ ∧ Ws w No [] [roR A_b 7 enRace b, roR A_a 7 enRace a] wl_) _ ⟨0, rfl, by omega, by rfl, hA.sub (by and_intros <;> first | kernel_rfl | trivial), (hW.pick [] (by decide) rfl).pickG [0, 1] rfl⟩ ?_
 clear hA ac hW; rintro m_ ac w2 ⟨k, rfl, hk, hn, hA, hW⟩
 refine wp_seq <| wr <| st_p (vI .i64 (k : Int)) hA fun ac hA => st_p (vS A_a a.length c_a) hA fun ac hA => st_p (vI .i64 (a.length : Int)) hA fun ac hA => st_p (vB (decide ((k : Int) < (a.length : Int)))) hA fun ac hA => wn <| wp_cond_split (t := decide ((k : Int) < (a.length : Int))) (hA.eval (by kernel_rfl)) (fun h3 => ?_) (fun h3 => ?_)
 ·
  have h3 := of_decide_eq_true h3
  refine wp_skip <| thenN <| wp_seq <| wp_block <| wp_seq <| q_region (by kernel_rfl) (by kernel_rfl) hW <| sq_p (vS A_a a.length c_a) hA fun ac hA => sq_p (vI .i64 (k : Int)) hA fun ac hA => ?_
  obtain ⟨y4, hy4⟩ : ∃ y, a[k]? = some y := ⟨_, List.getElem?_eq_getElem (by first | omega | (simp; done) | (simp; omega))⟩
  obtain ⟨b5, o6, rfl, hbb5⟩ := row_some ((hW).getG 1 rfl) hy4
  refine sq_q (vP (some ⟨b5, o6 + k * 7, none⟩)) hA (Rd.indexAddr (e := 47) (sz := 7) (b := b5) (off := o6) (n := a.length) (c := c_a) (k := k) (by kernel_rfl) (by kernel_rfl) (by first | omega | (simp; done) | (simp; omega)) (fun _ => by kernel_rfl) (fun _ => by kernel_rfl)) fun ac hA => sq_q (vA #[vI .i64 y4.i, vI .i64 y4.j, vI .u32 y4.addr, vI .i64 y4.p.a.f, vI .i64 y4.p.a.pc, vI .i64 y4.p.b.f, vI .i64 y4.p.b.pc]) hA (Rd.loadRow (b := b5) (i := o6 + k * 7) (xs := [vI .i64 y4.i, vI .i64 y4.j, vI .u32 y4.addr, vI .i64 y4.p.a.f, vI .i64 y4.p.a.pc, vI .i64 y4.p.b.f, vI .i64 y4.p.b.pc]) (by kernel_rfl) (fun _ hw => row_ld ((hw.1).getG 1 rfl) hy4 (Fr.refl No _) (fun h => h) 0 7 (by kernel_rfl)) (by kernel_rfl)) fun ac hA => sq_p (vS A_b b.length c_b) hA fun ac hA => sq_p (vI .i64 (k : Int)) hA fun ac hA => ?_
  obtain ⟨y7, hy7⟩ : ∃ y, b[k]? = some y := ⟨_, List.getElem?_eq_getElem (by first | omega | (simp; done) | (simp; omega))⟩
  obtain ⟨b8, o9, rfl, hbb8⟩ := row_some ((hW).getG 0 rfl) hy7
  refine sq_q (vP (some ⟨b8, o9 + k * 7, none⟩)) hA (Rd.indexAddr (e := 47) (sz := 7) (b := b8) (off := o9) (n := b.length) (c := c_b) (k := k) (by kernel_rfl) (by kernel_rfl) (by first | omega | (simp; done) | (simp; omega)) (fun _ => by kernel_rfl) (fun _ => by kernel_rfl)) fun ac hA => sq_q (vA #[vI .i64 y7.i, vI .i64 y7.j, vI .u32 y7.addr, vI .i64 y7.p.a.f, vI .i64 y7.p.a.pc, vI .i64 y7.p.b.f, vI .i64 y7.p.b.pc]) hA (Rd.loadRow (b := b8) (i := o9 + k * 7) (xs := [vI .i64 y7.i, vI .i64 y7.j, vI .u32 y7.addr, vI .i64 y7.p.a.f, vI .i64 y7.p.a.pc, vI .i64 y7.p.b.f, vI .i64 y7.p.b.pc]) (by kernel_rfl) (fun _ hw => row_ld ((hw.1).getG 0 rfl) hy7 (Fr.refl No _) (fun h => h) 0 7 (by kernel_rfl)) (by kernel_rfl)) fun ac hA => sq_q (vB (!decide (y4 = y7))) hA (Rd.neS (u := y4.v) (v := y7.v) (by kernel_rfl) (by kernel_rfl) rfl rfl (by kernel_rfl) (fun w => eq_Race w y4 y7)) fun ac hA => sq_nil ?_; intro w10 hww10; have hW := hww10.1; have hfw10 := hww10.2; clear hww10
  refine thenN <| wp_cond_split (t := !decide (y4 = y7)) (hA.eval (by kernel_rfl)) (fun h11 => ?_) (fun h11 => ?_)
  ·
   have h11 := not_t h11
   have h11 := of_decide_eq_false h11
   have h11e := fun e => h11 ((Race.eqi _ _).2 e)
   refine wr <| st_p (vB false) hA ?_; clear hA ac; intro ac hA
   refine wn <| wp_ret <| blkR <| thenR <| thenR <| blkR <| thenR <| r1 (vB false) hA ?_
   clear hA
   refine ⟨retv (congrArg vB (decide_eq_false ?_).symm), hW.fr⟩
   intro e; subst e; rw [hy4] at hy7; exact h11 (Option.some.inj hy7)
  have h11 := not_f h11
  have h11 := of_decide_eq_true h11
  have h11e := (Race.eqi _ _).1 h11
  refine wp_skip <| blkN <| thenN <| wp_region_lit <| st_p (vI .i64 (k : Int)) hA fun ac hA => st_q (vI .i64 ((k + 1 : Nat) : Int)) hA hW.cls (Rd.pureE (v0 := vI .i64 (IntKind.i64.wrap ((k : Int) + 1))) (fun _ => by kernel_rfl) (congrArg (vI .i64) ((w_i64 (x := (k : Int) + 1) (by omega) (by omega)).trans (by omega)))) fun ac hA => st_p (vI .i64 ((k + 1 : Nat) : Int)) hA fun ac hA => wn ?_
  exact ⟨a.length - (k + 1), by omega, k + 1, rfl, by omega, by rw [tk_snoc hy4, tk_snoc hy7, hn, h11], hA.sub (by and_intros <;> first | kernel_rfl | trivial), (hW.pick [] (by decide) rfl).pickG [0, 1] rfl⟩
 have h3 := of_decide_eq_false h3
 refine wp_exit <| thenX <| thenX <| blkX <| thenN <| wr <| st_p (vB true) hA ?_; clear hA ac; intro ac hA
 refine wn <| wp_ret <| r1 (vB true) hA ?_
 clear hA
 refine ⟨retv (congrArg vB (decide_eq_true ?_).symm), hW.fr⟩
 rwa [List.take_of_length_le (by omega), List.take_of_length_le (by omega)] at hn

end Go.Proofs.YtfkbjfbbigbacaaGreatDoor.L
