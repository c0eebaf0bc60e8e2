/- Contracts, walked by program over the engine's laws. -/
import Derived.Test.YtfkbjfbbigbacaaGreatDoorProg
import Derived.Test.YtfkbjfbbigbacaaGreatDoorT19
namespace Go.Proofs.YtfkbjfbbigbacaaGreatDoor.L
open Go.RowKit
open Go.Value renaming int → vI, slice → vS, bool → vB, pointer → vP, func → vF, agg → vA, map → vM, tuple → vT

theorem race_mem {E : List Event} {y : Race} (h : y ∈ raceL E) : ∃ i j : Nat, y.i = i ∧ y.j = j ∧ i < j ∧ j < E.length ∧ raceY E (evAt E (j : Int)) (i : Int) (j : Int) = true := by
  unfold raceL raceP at h
  obtain ⟨j, hj, h⟩ := List.mem_flatMap.1 h
  obtain ⟨x, hx, rfl⟩ := List.mem_map.1 h
  have hj := List.mem_range.1 hj
  unfold withE at hx
  rw [if_pos (by omega), Int.toNat_natCast] at hx
  obtain ⟨q1, q2, q3⟩ := with_mem hx
  exact ⟨x.toNat, j, by show x = _; omega, rfl, by omega, hj, by rw [Int.toNat_of_nonneg q1]; exact q3⟩
theorem race_fact {E : List Event} (hev : ∀ e ∈ E, EvOk e) {y : Race} (h : y ∈ raceL E) : 0 ≤ y.i ∧ y.i < y.j ∧ y.j < (E.length : Int) ∧ ∀ a b, E[y.i.toNat]? = some a → E[y.j.toNat]? = some b → a.g ≠ b.g ∧ (a.kind = 3 ∨ b.kind = 3) := by
  obtain ⟨i, j, e1, e2, hij, hj, hr⟩ := race_mem h
  refine ⟨by omega, by omega, by omega, fun a b ha hb => ?_⟩
  rw [e1, Int.toNat_natCast] at ha; rw [e2, Int.toNat_natCast] at hb
  rw [raceY_at ha hb, Bool.and_eq_true] at hr
  have hc : EvConf a b := of_decide_eq_true hr.1
  refine ⟨fun hg => ?_, hc.2.2.2⟩
  have hb' := bef_leads hev hij ha hb (.inl hg)
  have ha' := hr.2
  unfold apartE at ha'; rw [hb'] at ha'; simp at ha'
theorem race_in {E : List Event} {i j : Nat} (hij : i < j) (hj : j < E.length) (h : raceY E (evAt E (j : Int)) (i : Int) (j : Int) = true) : mkR E (i : Int) (j : Int) ∈ raceL E := by
  unfold raceL raceP
  refine List.mem_flatMap.2 ⟨j, List.mem_range.2 hj, List.mem_map.2 ⟨(i : Int), ?_, rfl⟩⟩
  unfold withE; rw [if_pos (by omega), Int.toNat_natCast]
  unfold withY
  exact List.mem_map.2 ⟨i, List.mem_filter.2 ⟨List.mem_range.2 hij, h⟩, rfl⟩
theorem bef_gt {E : List Event} {i j : Int} (h : j ≤ i) : befE E i j = false := by unfold befE; rw [decide_eq_false (by omega)]; rfl
theorem race_clear {E : List Event} {i j : Nat} (hij : i < j) {a b : Event} (ha : E[i]? = some a) (hb : E[j]? = some b) (hno : ∀ y ∈ raceL E, (j : Int) < y.j) (hc : evConf a b = true) : befE E (i : Int) (j : Int) = true := by
  have hj := (List.getElem?_eq_some_iff.1 hb).1
  cases h : befE E (i : Int) (j : Int) with
  | true => rfl
  | false =>
    have hr : raceY E (evAt E (j : Int)) (i : Int) (j : Int) = true := by
      rw [raceY_at ha hb, hc]; unfold apartE
      rw [decide_eq_true (by omega), h, bef_gt (by omega)]; rfl
    have := hno _ (race_in hij hj hr)
    exact absurd (show (j : Int) < (j : Int) from this) (by omega)
def firstJ (R : List Race) (n : Int) : Int := R.foldl (fun a r => min a r.j) n
theorem firstJ_snoc (R : List Race) (y : Race) (n : Int) : firstJ (R ++ [y]) n = min (firstJ R n) y.j := by simp [firstJ]
theorem firstJ_le : ∀ (R : List Race) (n : Int), firstJ R n ≤ n ∧ ∀ y ∈ R, firstJ R n ≤ y.j
  | [], n => ⟨Int.le_refl _, by simp⟩
  | x :: R, n => by
    have ih := firstJ_le R (min n x.j)
    have e : firstJ (x :: R) n = firstJ R (min n x.j) := rfl
    rw [e]
    refine ⟨by omega, fun y hy => ?_⟩
    rcases List.mem_cons.1 hy with rfl | hy
    · omega
    · exact ih.2 y hy
theorem bef_take {E : List Event} (hev : ∀ e ∈ E, EvOk e) {c i j : Nat} (hj : j < c) (hc : c ≤ E.length) : befE (E.take c) (i : Int) (j : Int) = befE E (i : Int) (j : Int) := by
  have key : ∀ d, c + d ≤ E.length → befE (E.take (c + d)) (i : Int) (j : Int) = befE (E.take c) (i : Int) (j : Int) := by
    intro d
    induction d with
    | zero => intro _; rfl
    | succ d ih =>
      intro h
      obtain ⟨e, he⟩ : ∃ e, E[c + d]? = some e := ⟨_, List.getElem?_eq_getElem (by omega)⟩
      rw [← Nat.add_assoc, tk_snoc he, bef_snoc (fun x hx => hev x (List.mem_of_mem_take hx)) (hev e (List.mem_of_getElem? he)) (by rw [List.length_take]; omega)]
      exact ih (by omega)
  have := key (E.length - c) (by omega)
  rw [show c + (E.length - c) = E.length from by omega, List.take_length] at this
  exact this.symm
theorem evAt_take {E : List Event} {c i : Nat} (hi : i < c) (hc : c ≤ E.length) : evAt (E.take c) (i : Int) = evAt E (i : Int) := by
  obtain ⟨e, he⟩ : ∃ e, E[i]? = some e := ⟨_, List.getElem?_eq_getElem (by omega)⟩
  rw [evAt_yes (E := E) (y := e) (by omega) (by rwa [Int.toNat_natCast]), evAt_yes (E := E.take c) (y := e) (by rw [List.length_take]; omega) (by rw [Int.toNat_natCast, List.getElem?_take, if_pos hi]; exact he)]
theorem raceY_take {E : List Event} (hev : ∀ e ∈ E, EvOk e) {c i j : Nat} (hij : i < j) (hj : j < c) (hc : c ≤ E.length) : raceY (E.take c) (evAt (E.take c) (j : Int)) (i : Int) (j : Int) = raceY E (evAt E (j : Int)) (i : Int) (j : Int) := by
  unfold raceY apartE
  rw [evAt_take (by omega) hc, evAt_take hj hc, bef_take hev hj hc, bef_gt (E := E.take c) (by omega), bef_gt (E := E) (i := (j : Int)) (by omega), decide_eq_true (by rw [List.length_take]; omega), decide_eq_true (by omega)]
theorem withE_take {E : List Event} (hev : ∀ e ∈ E, EvOk e) {c j : Nat} (hj : j < c) (hc : c ≤ E.length) : withE (E.take c) (j : Int) = withE E (j : Int) := by
  unfold withE
  rw [if_pos (by rw [List.length_take]; omega), if_pos (by omega), Int.toNat_natCast]
  unfold withY
  congr 1
  refine List.filter_congr fun i hi => ?_
  exact raceY_take hev (List.mem_range.1 hi) hj hc
theorem raceP_take {E : List Event} (hev : ∀ e ∈ E, EvOk e) {c : Nat} (hc : c ≤ E.length) : ∀ n, n ≤ c → raceP (E.take c) n = raceP E n
  | 0, _ => rfl
  | n + 1, h => by
    rw [raceP_snoc, raceP_snoc, raceP_take hev hc n (by omega), withE_take hev (by omega) hc]
    congr 1
    refine List.map_congr_left fun x hx => ?_
    have hm := withE_mem hx
    have ex : x = ((x.toNat : Nat) : Int) := by omega
    rw [ex]; unfold mkR
    rw [evAt_take (by omega) hc, evAt_take (by omega) hc]
theorem race_filter {E : List Event} {c : Nat} : ∀ n, (raceP E n).filter (fun r => decide (r.j < (c : Int))) = raceP E (min c n)
  | 0 => by rw [Nat.min_zero]; rfl
  | n + 1 => by
    rw [raceP_snoc, List.filter_append, race_filter n]
    by_cases h : n < c
    · rw [show min c (n + 1) = min c n + 1 from by omega, raceP_snoc, show min c n = n from by omega]
      congr 1
      refine List.filter_eq_self.2 fun r hr => ?_
      obtain ⟨x, _, rfl⟩ := List.mem_map.1 hr
      exact decide_eq_true (show (n : Int) < c from by omega)
    · rw [show min c (n + 1) = min c n from by omega, List.filter_eq_nil_iff.2, List.append_nil]
      intro r hr
      obtain ⟨x, _, rfl⟩ := List.mem_map.1 hr
      show ¬ decide ((n : Int) < c) = true
      rw [decide_eq_false (by omega)]; decide
/-- The races of a trace that is cut are those of it that lie ahead of the cut. -/
theorem race_cut {E : List Event} (hev : ∀ e ∈ E, EvOk e) {c : Nat} (hc : c ≤ E.length) : (raceL E).filter (fun r => decide (r.j < (c : Int))) = raceL (E.take c) := by
  unfold raceL
  rw [race_filter, List.length_take, show min c E.length = c from by omega, raceP_take hev hc c (Nat.le_refl _)]
theorem filt_snoc {R : List Race} {k : Nat} {y : Race} (h : R[k]? = some y) (c : Int) : (R.take (k + 1)).filter (fun r => decide (r.j < c)) = (R.take k).filter (fun r => decide (r.j < c)) ++ if y.j < c then [y] else [] := by
  rw [tk_snoc h, List.filter_append]; congr 1
  by_cases q : y.j < c
  · rw [if_pos q, List.filter_cons_of_pos (by simpa using q)]; rfl
  · rw [if_neg q, List.filter_cons_of_neg (by simpa using q)]; rfl
set_option maxRecDepth 100000 in
theorem e_r21same (A_a : Option Addr) (c_a : Nat) (a : List Race) (A_b : Option Addr) (c_b : Nat) (b : List Race) (w : World) (hr_a : RowAt w A_a 7 enRace a) (hc_a : a.length ≤ c_a) (hr_b : RowAt w A_b 7 enRace b) (hc_b : b.length ≤ c_b) (hla : a.length ≤ 100000) (hlb : b.length ≤ 100000) : Calls Tryz.prog 18 #[vS A_a a.length c_a, vS A_b b.length c_b] w (fun e w' => e = .returned (vB (decide (a = b))) ∧ Fr No w w') := by
 have _hu := hc_a; have _hv := hr_a; clear _hu _hv
 have _hu := hc_b; have _hv := hr_b; clear _hu _hv
 have _hu := hla; clear _hu
 have _hu := hlb; clear _hu
 refine enter_E 26 Tryz.func18 rfl rfl (by kernel_rfl) (L := [(0, vS A_a a.length c_a), (1, vS A_b b.length c_b)]) (by kernel_rfl) ?_
 intro ac hA
 have hW := Ws.start w No
 have hW := hW.arg hr_a
 have hW := hW.arg hr_b
 refine wr <| st_p (vB false) hA ?_; clear hA ac; intro ac hA
 refine wn <| wp_seq <| wr <| st_p (vS A_a a.length c_a) hA fun ac hA => st_p (vI .i64 (a.length : Int)) hA fun ac hA => st_p (vS A_b b.length c_b) hA fun ac hA => st_p (vI .i64 (b.length : Int)) hA fun ac hA => st_p (vB ((a.length : Int) != (b.length : Int))) hA fun ac hA => wn <| wp_cond_split (t := (a.length : Int) != (b.length : Int)) (hA.eval (by kernel_rfl)) (fun h1 => ?_) (fun h1 => ?_)
 ·
  have h1 := bne_iff_ne.1 h1
  first
  | (exfalso; clear hA hW; omega)
  | (
   refine wr <| st_p (vB false) hA ?_; clear hA ac; intro ac hA
   refine wn <| wp_ret <| thenR <| r1 (vB false) hA ?_
   clear hA
   refine ⟨retv (congrArg vB (decide_eq_false ?_).symm), hW.fr⟩
   intro e; subst e; exact absurd rfl (by omega))
 have h1 := of_bne_f h1
 first
 | (exfalso; clear hA hW; omega)
 | (
  refine wp_skip <| thenN <| wp_seq <| wr <| st_p (vI .i64 0) hA ?_; clear hA ac; intro ac hA
  refine wn <| wp_block <| wp_loop_m (fun m_ ac_ wl_ => ∃ k : Nat, m_ = a.length - k ∧ (k ≤ a.length) ∧ (a.take k = b.take k) ∧ Fm 26 [] [(0, vS A_a a.length c_a), (1, vS A_b b.length c_b), (5, vI .i64 (k : Int))] ac_ ∧ Ws w No [] [roR A_b 7 enRace b, roR A_a 7 enRace a] wl_) _ ⟨0, rfl, by omega, by rfl, hA.sub (by and_intros <;> first | kernel_rfl | trivial), (hW.pick [] (by decide) rfl).pickG [0, 1] rfl⟩ ?_
  clear hA ac hW; rintro m_ ac w2 ⟨k, rfl, hk, hn, hA, hW⟩
  refine wp_seq <| wr <| st_p (vI .i64 (k : Int)) hA fun ac hA => st_p (vS A_a a.length c_a) hA fun ac hA => st_p (vI .i64 (a.length : Int)) hA fun ac hA => st_p (vB (decide ((k : Int) < (a.length : Int)))) hA fun ac hA => wn <| wp_cond_split (t := decide ((k : Int) < (a.length : Int))) (hA.eval (by kernel_rfl)) (fun h3 => ?_) (fun h3 => ?_)
  ·
   have h3 := of_decide_eq_true h3
   first
   | (exfalso; clear hA hW; omega)
   | (
    refine wp_skip <| thenN <| wp_seq <| wp_block <| wp_seq <| q_region (by kernel_rfl) (by kernel_rfl) hW <| sq_p (vS A_a a.length c_a) hA fun ac hA => sq_p (vI .i64 (k : Int)) hA fun ac hA => ?_
    obtain ⟨y4, hy4⟩ : ∃ y, a[k]? = some y := ⟨_, List.getElem?_eq_getElem (by first | omega | (simp; done) | (simp; omega))⟩
    obtain ⟨b5, o6, rfl, hbb5⟩ := row_some ((hW).getG 1 rfl) hy4
    refine sq_q (vP (some ⟨b5, o6 + k * 7, none⟩)) hA (Rd.indexAddr (e := 47) (sz := 7) (b := b5) (off := o6) (n := a.length) (c := c_a) (k := k) (by kernel_rfl) (by kernel_rfl) (by first | omega | (simp; done) | (simp; omega)) (fun _ => by kernel_rfl) (fun _ => by kernel_rfl)) fun ac hA => sq_q (vA #[vI .i64 y4.i, vI .i64 y4.j, vI .u32 y4.addr, vI .i64 y4.p.a.f, vI .i64 y4.p.a.pc, vI .i64 y4.p.b.f, vI .i64 y4.p.b.pc]) hA (Rd.loadRow (b := b5) (i := o6 + k * 7) (xs := [vI .i64 y4.i, vI .i64 y4.j, vI .u32 y4.addr, vI .i64 y4.p.a.f, vI .i64 y4.p.a.pc, vI .i64 y4.p.b.f, vI .i64 y4.p.b.pc]) (by kernel_rfl) (fun _ hw => row_ld ((hw.1).getG 1 rfl) hy4 (Fr.refl No _) (fun h => h) 0 7 (by kernel_rfl)) (by kernel_rfl)) fun ac hA => sq_p (vS A_b b.length c_b) hA fun ac hA => sq_p (vI .i64 (k : Int)) hA fun ac hA => ?_
    obtain ⟨y7, hy7⟩ : ∃ y, b[k]? = some y := ⟨_, List.getElem?_eq_getElem (by first | omega | (simp; done) | (simp; omega))⟩
    obtain ⟨b8, o9, rfl, hbb8⟩ := row_some ((hW).getG 0 rfl) hy7
    refine sq_q (vP (some ⟨b8, o9 + k * 7, none⟩)) hA (Rd.indexAddr (e := 47) (sz := 7) (b := b8) (off := o9) (n := b.length) (c := c_b) (k := k) (by kernel_rfl) (by kernel_rfl) (by first | omega | (simp; done) | (simp; omega)) (fun _ => by kernel_rfl) (fun _ => by kernel_rfl)) fun ac hA => sq_q (vA #[vI .i64 y7.i, vI .i64 y7.j, vI .u32 y7.addr, vI .i64 y7.p.a.f, vI .i64 y7.p.a.pc, vI .i64 y7.p.b.f, vI .i64 y7.p.b.pc]) hA (Rd.loadRow (b := b8) (i := o9 + k * 7) (xs := [vI .i64 y7.i, vI .i64 y7.j, vI .u32 y7.addr, vI .i64 y7.p.a.f, vI .i64 y7.p.a.pc, vI .i64 y7.p.b.f, vI .i64 y7.p.b.pc]) (by kernel_rfl) (fun _ hw => row_ld ((hw.1).getG 0 rfl) hy7 (Fr.refl No _) (fun h => h) 0 7 (by kernel_rfl)) (by kernel_rfl)) fun ac hA => sq_q (vB (!decide (y4 = y7))) hA (Rd.neS (u := y4.v) (v := y7.v) (by kernel_rfl) (by kernel_rfl) rfl rfl (by kernel_rfl) (fun w => eq_Race w y4 y7)) fun ac hA => sq_nil ?_; intro w10 hww10; have hW := hww10.1; have hfw10 := hww10.2; clear hww10
    refine thenN <| wp_cond_split (t := !decide (y4 = y7)) (hA.eval (by kernel_rfl)) (fun h11 => ?_) (fun h11 => ?_)
    ·
     have h11 := not_t h11
     have h11 := of_decide_eq_false h11
     have h11e := fun e => h11 ((Race.eqi _ _).2 e)
     first
     | (exfalso; clear hA hW; omega)
     | (
      refine wr <| st_p (vB false) hA ?_; clear hA ac; intro ac hA
      refine wn <| wp_ret <| blkR <| thenR <| thenR <| blkR <| thenR <| r1 (vB false) hA ?_
      clear hA
      refine ⟨retv (congrArg vB (decide_eq_false ?_).symm), hW.fr⟩
      intro e; subst e; rw [hy4] at hy7; exact h11 (Option.some.inj hy7))
    have h11 := not_f h11
    have h11 := of_decide_eq_true h11
    have h11e := (Race.eqi _ _).1 h11
    first
    | (exfalso; clear hA hW; omega)
    | (
     refine wp_skip <| blkN <| thenN <| wp_region_lit <| st_p (vI .i64 (k : Int)) hA fun ac hA => st_q (vI .i64 ((k + 1 : Nat) : Int)) hA hW.cls (Rd.pureE (v0 := vI .i64 (IntKind.i64.wrap ((k : Int) + 1))) (fun _ => by kernel_rfl) (congrArg (vI .i64) ((w_i64 (x := (k : Int) + 1) (by omega) (by omega)).trans (by omega)))) fun ac hA => st_p (vI .i64 ((k + 1 : Nat) : Int)) hA fun ac hA => wn ?_
     exact ⟨a.length - (k + 1), by omega, k + 1, rfl, by omega, by rw [tk_snoc hy4, tk_snoc hy7, hn, h11], hA.sub (by and_intros <;> first | kernel_rfl | trivial), (hW.pick [] (by decide) rfl).pickG [0, 1] rfl⟩))
  have h3 := of_decide_eq_false h3
  first
  | (exfalso; clear hA hW; omega)
  | (
   refine wp_exit <| thenX <| thenX <| blkX <| thenN <| wr <| st_p (vB true) hA ?_; clear hA ac; intro ac hA
   refine wn <| wp_ret <| r1 (vB true) hA ?_
   clear hA
   refine ⟨retv (congrArg vB (decide_eq_true ?_).symm), hW.fr⟩
   rwa [List.take_of_length_le (by omega), List.take_of_length_le (by omega)] at hn))

end Go.Proofs.YtfkbjfbbigbacaaGreatDoor.L
