/- Contracts, walked by program over the engine's laws. -/
import Derived.Test.YtoakhhilmnfpkaaGreatDoorProg
import Derived.Test.YtoakhhilmnfpkaaGreatDoorT5
namespace Go.Proofs.YtoakhhilmnfpkaaGreatDoor.L
open Go.RowKit
open Go.Value renaming int → vI, slice → vS, bool → vB, pointer → vP, func → vF, agg → vA, map → vM, tuple → vT

theorem site_ok0 {x : Site} : argErr (Site.ok x) = 0 ↔ (0 ≤ x.f ∧ x.f < 32 ∧ 0 ≤ x.pc ∧ x.pc < 512) := by
  unfold argErr Site.ok; simp
theorem ba_at {s : ByteArray} {i : Nat} : s[i]? = s.data.toList[i]? := by
  rw [Array.getElem?_toList]
  by_cases h : i < s.size
  · rw [getElem?_pos s i h, getElem?_pos s.data i h]; rfl
  · rw [getElem?_neg s i h, getElem?_neg s.data i h]
theorem ba_len {s : ByteArray} : s.data.toList.length = s.size := Array.length_toList
theorem namesS_len {k : Int} : (namesS k).size ≤ 2 := by
  refine in_cases (k := k) (p := fun k => (namesS k).size ≤ 2) (by decide) fun h => ?_
  rw [namesS_no h]; decide
def CutP (M : Act → World → Prop) (Q : Exit → Act → World → Prop) : Exit → Act → World → Prop := fun e a w => match e with
  | .normal => M a w
  | .ret => Q .ret a w
  | _ => False
theorem wp_cutR {P : Program} {c : Code} {Q : Exit → Act → World → Prop} {a : Act} {w : World} (M : Act → World → Prop) (h : c.wp P (CutP M Q) a w) (next : ∀ a w, M a w → Q .normal a w) : c.wp P Q a w :=
  wp_mono h fun e a w hq => by cases e <;> first | exact next _ _ hq | exact hq | exact (show False from hq).elim
theorem cutN {M : Act → World → Prop} {Q : Exit → Act → World → Prop} {a : Act} {w : World} (h : M a w) : CutP M Q .normal a w := h
theorem cutR {M : Act → World → Prop} {Q : Exit → Act → World → Prop} {a : Act} {w : World} (h : Q .ret a w) : CutP M Q .ret a w := h
set_option maxRecDepth 100000 in
theorem e_r07right (x : Site) (w : World)  : Calls Tryz.prog 63 #[x.v] w (fun e w' => e = .returned (vB (decide (argErr (Site.ok x) = 0))) ∧ Fr No w w') := by
 refine enter_E 21 Tryz.func63 rfl rfl (by kernel_rfl) (L := [(0, x.v)]) (by kernel_rfl) ?_
 intro ac hA
 have hW := Ws.start w No
 refine wr <| st_s hA (Runs.cells (fun b => pA b 0) #[vI .i64 x.f, vI .i64 x.pc] 40 (fun _ => by kernel_rfl) hW ?_); clear hA ac hW; intro b1 w2 hW hb1 hfw2 ac hA
 refine st_p (vB false) hA ?_; clear hA ac; intro ac hA
 refine wn <| wr <| st_p (pA b1 0) hA fun ac hA => st_q (vI .i64 x.f) hA hW.cls (rl b1 0 0) fun ac hA => st_p (vB (decide ((x.f : Int) ≥ (0 : Int)))) hA fun ac hA => st_p (vB (decide ((x.f : Int) ≥ (0 : Int)))) hA fun ac hA => ?_
 rcases Bool.eq_false_or_eq_true (decide ((x.f : Int) ≥ (0 : Int))) with h3 | h3
 ·
  rw [h3] at hA
  have h3 := of_decide_eq_true h3
  refine st_p (pA b1 0) hA fun ac hA => st_q (vI .i64 x.f) hA hW.cls (rl b1 0 0) fun ac hA => st_p (vB (decide ((x.f : Int) < (32 : Int)))) hA fun ac hA => st_p (vB (decide ((x.f : Int) < (32 : Int)))) hA fun ac hA => st_p (vB (decide ((x.f : Int) < (32 : Int)))) hA fun ac hA => ?_
  rcases Bool.eq_false_or_eq_true (decide ((x.f : Int) < (32 : Int))) with h4 | h4
  ·
   rw [h4] at hA
   have h4 := of_decide_eq_true h4
   refine st_p (pA b1 1) hA fun ac hA => st_q (vI .i64 x.pc) hA hW.cls (rl b1 1 0) fun ac hA => st_p (vB (decide ((x.pc : Int) ≥ (0 : Int)))) hA fun ac hA => st_p (vB (decide ((x.pc : Int) ≥ (0 : Int)))) hA fun ac hA => st_p (vB (decide ((x.pc : Int) ≥ (0 : Int)))) hA fun ac hA => ?_
   rcases Bool.eq_false_or_eq_true (decide ((x.pc : Int) ≥ (0 : Int))) with h5 | h5
   ·
    rw [h5] at hA
    have h5 := of_decide_eq_true h5
    refine st_p (pA b1 1) hA fun ac hA => st_q (vI .i64 x.pc) hA hW.cls (rl b1 1 0) fun ac hA => st_p (vB (decide ((x.pc : Int) < (512 : Int)))) hA fun ac hA => st_p (vB (decide ((x.pc : Int) < (512 : Int)))) hA fun ac hA => st_p (vB (decide ((x.pc : Int) < (512 : Int)))) hA fun ac hA => wn <| wp_ret <| r1 (vB (decide ((x.pc : Int) < (512 : Int)))) hA ?_
    clear hA
    refine ⟨retv (congrArg vB ?_), hW.fr⟩
    rcases Bool.eq_false_or_eq_true (decide ((x.pc : Int) < (512 : Int))) with q_ | q_
    · rw [q_]
      have q_ := of_decide_eq_true q_
      exact (decide_eq_true (by rw [site_ok0]; omega)).symm
    · rw [q_]
      have q_ := of_decide_eq_false q_
      exact (decide_eq_false (by rw [site_ok0]; omega)).symm
   rw [h5] at hA
   have h5 := of_decide_eq_false h5
   refine st_k hA fun ac hA => st_k hA fun ac hA => st_k hA fun ac hA => st_p (vB false) hA fun ac hA => st_p (vB false) hA fun ac hA => wn <| wp_ret <| r1 (vB false) hA ?_
   clear hA
   exact ⟨retv (congrArg vB (decide_eq_false (by rw [site_ok0]; omega)).symm), hW.fr⟩
  rw [h4] at hA
  have h4 := of_decide_eq_false h4
  refine st_k hA fun ac hA => st_k hA fun ac hA => st_k hA fun ac hA => st_p (vB false) hA fun ac hA => st_p (vB false) hA fun ac hA => st_k hA fun ac hA => st_k hA fun ac hA => st_k hA fun ac hA => st_p (vB false) hA fun ac hA => st_p (vB false) hA fun ac hA => wn <| wp_ret <| r1 (vB false) hA ?_
  clear hA
  exact ⟨retv (congrArg vB (decide_eq_false (by rw [site_ok0]; omega)).symm), hW.fr⟩
 rw [h3] at hA
 have h3 := of_decide_eq_false h3
 refine st_k hA fun ac hA => st_k hA fun ac hA => st_k hA fun ac hA => st_p (vB false) hA fun ac hA => st_p (vB false) hA fun ac hA => st_k hA fun ac hA => st_k hA fun ac hA => st_k hA fun ac hA => st_p (vB false) hA fun ac hA => st_p (vB false) hA fun ac hA => st_k hA fun ac hA => st_k hA fun ac hA => st_k hA fun ac hA => st_p (vB false) hA fun ac hA => st_p (vB false) hA fun ac hA => wn <| wp_ret <| r1 (vB false) hA ?_
 clear hA
 exact ⟨retv (congrArg vB (decide_eq_false (by rw [site_ok0]; omega)).symm), hW.fr⟩

set_option maxRecDepth 100000 in
theorem e_names (k : Int) (w : World) (hk : -9223372036854775808 ≤ k ∧ k ≤ 9223372036854775807) : Calls Tryz.prog 102 #[vI .i64 k] w (fun e w' => e = .returned (Value.string (namesS k)) ∧ Fr No w w') := by
 have _hu := hk; clear _hu
 refine enter_E 14 Tryz.func102 rfl rfl (by kernel_rfl) (L := [(0, vI .i64 k)]) (by kernel_rfl) ?_
 intro ac hA
 have hW := Ws.start w No
 refine wr <| st_p (Value.string (ByteArray.mk #[])) hA ?_; clear hA ac; intro ac hA
 refine wn <| wp_seq <| wr <| st_p (vI .i64 k) hA fun ac hA => st_p (vB (decide ((k : Int) < (1 : Int)))) hA fun ac hA => st_p (vB (decide ((k : Int) < (1 : Int)))) hA fun ac hA => ?_
 rcases Bool.eq_false_or_eq_true (decide ((k : Int) < (1 : Int))) with h1 | h1
 ·
  rw [h1] at hA
  have h1 := of_decide_eq_true h1
  refine st_k hA fun ac hA => st_k hA fun ac hA => st_p (vB true) hA fun ac hA => wn <| wp_cond_true (hA.eval (by kernel_rfl)) <| wr <| st_p (Value.string (ByteArray.mk #[45])) hA ?_; clear hA ac; intro ac hA
  refine wn <| wp_ret <| thenR <| r1 (Value.string (ByteArray.mk #[45])) hA ?_
  clear hA
  exact ⟨retv (congrArg Value.string (namesS_no (by omega)).symm), hW.fr⟩
 rw [h1] at hA
 have h1 := of_decide_eq_false h1
 refine st_p (vI .i64 k) hA fun ac hA => st_p (vB (decide ((k : Int) > (14 : Int)))) hA fun ac hA => st_p (vB (decide ((k : Int) > (14 : Int)))) hA fun ac hA => wn <| wp_cond_split (t := decide ((k : Int) > (14 : Int))) (hA.eval (by kernel_rfl)) (fun h2 => ?_) (fun h2 => ?_)
 ·
  have h2 := of_decide_eq_true h2
  refine wr <| st_p (Value.string (ByteArray.mk #[45])) hA ?_; clear hA ac; intro ac hA
  refine wn <| wp_ret <| thenR <| r1 (Value.string (ByteArray.mk #[45])) hA ?_
  clear hA
  exact ⟨retv (congrArg Value.string (namesS_no (by omega)).symm), hW.fr⟩
 have h2 := of_decide_eq_false h2
 refine wp_skip <| thenN <| wr <| st_s hA (Runs.cells (fun b => vS (some ⟨b, 0, none⟩) 14 14) #[Value.string (ByteArray.mk #[]), Value.string (ByteArray.mk #[97]), Value.string (ByteArray.mk #[97]), Value.string (ByteArray.mk #[99]), Value.string (ByteArray.mk #[111]), Value.string (ByteArray.mk #[111]), Value.string (ByteArray.mk #[111]), Value.string (ByteArray.mk #[111]), Value.string (ByteArray.mk #[111]), Value.string (ByteArray.mk #[111]), Value.string (ByteArray.mk #[111, 110]), Value.string (ByteArray.mk #[111]), Value.string (ByteArray.mk #[]), Value.string (ByteArray.mk #[116])] 9 (fun _ => by kernel_rfl) hW ?_); clear hA ac hW; intro b3 w4 hW hb3 hfw4 ac hA
 refine st_p (vI .i64 k) hA fun ac hA => st_q (vI .i64 ((k : Int) - 1)) hA hW.cls (Rd.pureE (v0 := vI .i64 (IntKind.i64.wrap ((k : Int) - 1))) (fun _ => by kernel_rfl) (congrArg (vI .i64) ((w_i64 (x := (k : Int) - 1) (by omega) (by omega)).trans (by omega)))) fun ac hA => ?_
 obtain ⟨y5, hy5⟩ : ∃ y, ([(ByteArray.mk #[]), (ByteArray.mk #[97]), (ByteArray.mk #[97]), (ByteArray.mk #[99]), (ByteArray.mk #[111]), (ByteArray.mk #[111]), (ByteArray.mk #[111]), (ByteArray.mk #[111]), (ByteArray.mk #[111]), (ByteArray.mk #[111]), (ByteArray.mk #[111, 110]), (ByteArray.mk #[111]), (ByteArray.mk #[]), (ByteArray.mk #[116])] : List ByteArray)[Int.toNat ((k : Int) - 1)]? = some y := ⟨_, List.getElem?_eq_getElem (by first | omega | (simp; done) | (simp; omega))⟩
 refine st_q (vP (some ⟨b3, 0 + (Int.toNat ((k : Int) - 1)) * 1, none⟩)) hA hW.cls (Rd.indexAddrI (e := 9) (sz := 1) (b := b3) (off := 0) (n := 14) (c := 14) (k := (k : Int) - 1) (by kernel_rfl) (by kernel_rfl) (by omega) (by first | omega | (simp; done) | (simp; omega)) (fun _ => by kernel_rfl) (fun _ => by kernel_rfl)) fun ac hA => st_q (Value.string y5) hA hW.cls (Rd.loadRow (b := b3) (i := 0 + (Int.toNat ((k : Int) - 1)) * 1) (xs := [Value.string y5]) (by kernel_rfl) (fun _ hw => row_ld (rowAt_cel ((hw.1).cel 0 rfl) ([(ByteArray.mk #[]), (ByteArray.mk #[97]), (ByteArray.mk #[97]), (ByteArray.mk #[99]), (ByteArray.mk #[111]), (ByteArray.mk #[111]), (ByteArray.mk #[111]), (ByteArray.mk #[111]), (ByteArray.mk #[111]), (ByteArray.mk #[111]), (ByteArray.mk #[111, 110]), (ByteArray.mk #[111]), (ByteArray.mk #[]), (ByteArray.mk #[116])] : List ByteArray) (by rfl) elt_Str.len) hy5 (Fr.refl No _) (fun h => h) 0 1 (by kernel_rfl)) (by kernel_rfl)) fun ac hA => st_p (Value.string y5) hA fun ac hA => wn <| wp_ret <| r1 (Value.string y5) hA ?_
 clear hA
 exact ⟨retv (congrArg Value.string (by unfold namesS namesL; rw [if_neg (by omega), hy5]; rfl)), hW.fr⟩

set_option maxRecDepth 100000 in
theorem e_in (k : Int) (c : Int) (w : World) (hk : -9223372036854775808 ≤ k ∧ k ≤ 9223372036854775807) : Calls Tryz.prog 64 #[vI .i64 k, vI .u8 c] w (fun e w' => e = .returned (vB (inN k c)) ∧ Fr No w w') := by
 have _hu := hk; clear _hu
 have hsz_ := namesS_len (k := k)
 refine enter_E 20 Tryz.func64 rfl rfl (by kernel_rfl) (L := [(0, vI .i64 k), (1, vI .u8 c)]) (by kernel_rfl) ?_
 intro ac hA
 have hW := Ws.start w No
 refine wr <| st_p (vB false) hA ?_; clear hA ac; intro ac hA
 refine wn <| wr <| st_p (vI .i64 k) hA ?_; clear hA ac; intro ac hA
 refine st_s hA (Runs.callN (v := Value.string (namesS (k))) (fun _ => by kernel_rfl) hW (e_names (k) w (by omega)) ?_); clear hA ac hW; intro w1 hW hfw1 ac hA
 refine st_p (Value.string (namesS (k))) hA ?_; clear hA ac; intro ac hA
 refine wn <| wp_seq <| wr <| st_p (vI .i64 0) hA ?_; clear hA ac; intro ac hA
 refine wn <| wp_block <| wp_loop_m (fun m_ ac_ wl_ => ∃ i : Nat, m_ = (namesS k).size - i ∧ (i ≤ (namesS k).size) ∧ (((namesS k).data.toList.take i).any (fun b => (b.toNat : Int) == c) = false) ∧ Fm 20 [] [(0, vI .i64 k), (1, vI .u8 c), (5, Value.string (namesS (k))), (6, vI .i64 (i : Int))] ac_ ∧ Ws w No [] [] wl_) _ ⟨0, rfl, by omega, by simp, hA.sub (by and_intros <;> first | kernel_rfl | trivial), (hW.pick [] (by decide) rfl).pickG [] rfl⟩ ?_
 clear hA ac hW; rintro m_ ac w2 ⟨i, rfl, hi, hn, hA, hW⟩
 refine wp_seq <| wr <| st_p (vI .i64 (i : Int)) hA fun ac hA => st_p (Value.string (namesS (k))) hA fun ac hA => st_p (vI .i64 (((namesS (k)).size : Nat) : Int)) hA fun ac hA => st_p (vB (decide ((i : Int) < ((((namesS (k)).size : Nat) : Int) : Int)))) hA fun ac hA => wn <| wp_cond_split (t := decide ((i : Int) < ((((namesS (k)).size : Nat) : Int) : Int))) (hA.eval (by kernel_rfl)) (fun h3 => ?_) (fun h3 => ?_)
 ·
  have h3 := of_decide_eq_true h3
  refine wp_skip <| thenN <| wp_seq <| wp_block <| wr <| st_p (Value.string (namesS (k))) hA fun ac hA => st_p (vI .i64 (i : Int)) hA fun ac hA => ?_
  obtain ⟨y4, hy4⟩ : ∃ y, (namesS (k))[i]? = some y := ⟨_, getElem?_pos _ _ (by first | omega | (simp; done) | (simp; omega))⟩
  refine st_q (vI .u8 (y4.toNat : Int)) hA hW.cls (Rd.indexStr (s := (namesS (k))) (i := i) (by kernel_rfl) (by kernel_rfl) (fun _ => by kernel_rfl) hy4) fun ac hA => st_p (vI .u8 c) hA fun ac hA => st_p (vB (((y4.toNat : Int) : Int) == (c : Int))) hA fun ac hA => wn <| wp_cond_split (t := ((y4.toNat : Int) : Int) == (c : Int)) (hA.eval (by kernel_rfl)) (fun h5 => ?_) (fun h5 => ?_)
  ·
   have h5 := eq_of_beq h5
   refine wr <| st_p (vB true) hA ?_; clear hA ac; intro ac hA
   refine wn <| wp_ret <| blkR <| thenR <| thenR <| blkR <| thenR <| r1 (vB true) hA ?_
   clear hA
   exact ⟨retv (congrArg vB (List.any_eq_true.2 ⟨y4, List.mem_of_getElem? (show (namesS k).data.toList[i]? = some y4 from by rw [← ba_at]; exact hy4), by simpa using h5⟩).symm), hW.fr⟩
  have h5 := ne_of_beq_false h5
  refine wp_skip <| blkN <| thenN <| wp_region_lit <| st_p (vI .i64 (i : Int)) hA fun ac hA => st_q (vI .i64 ((i + 1 : Nat) : Int)) hA hW.cls (Rd.pureE (v0 := vI .i64 (IntKind.i64.wrap ((i : Int) + 1))) (fun _ => by kernel_rfl) (congrArg (vI .i64) ((w_i64 (x := (i : Int) + 1) (by omega) (by omega)).trans (by omega)))) fun ac hA => st_p (vI .i64 ((i + 1 : Nat) : Int)) hA fun ac hA => wn ?_
  exact ⟨(namesS k).size - (i + 1), by omega, i + 1, rfl, by omega, by rw [tk_snoc (show (namesS k).data.toList[i]? = some y4 from by rw [← ba_at]; exact hy4), List.any_append, hn]; simp; exact fun e_ => absurd e_ h5, hA.sub (by and_intros <;> first | kernel_rfl | trivial), (hW.pick [] (by decide) rfl).pickG [] rfl⟩
 have h3 := of_decide_eq_false h3
 refine wp_exit <| thenX <| thenX <| blkX <| thenN <| wr <| st_p (vB false) hA ?_; clear hA ac; intro ac hA
 refine wn <| wp_ret <| r1 (vB false) hA ?_
 clear hA
 rw [List.take_of_length_le (by rw [ba_len]; omega)] at hn; exact ⟨retv (congrArg vB hn.symm), hW.fr⟩

theorem e_in97 (k : Int) (w : World) (hk : -9223372036854775808 ≤ k ∧ k ≤ 9223372036854775807) : Calls Tryz.prog 64 #[vI .i64 k, vI .u8 97] w (fun e w' => e = .returned (vB (decide (k = 2 ∨ k = 3))) ∧ Fr No w w') := by have h := e_in k 97 w hk; rw [inN_97] at h; exact h

theorem e_in99 (k : Int) (w : World) (hk : -9223372036854775808 ≤ k ∧ k ≤ 9223372036854775807) : Calls Tryz.prog 64 #[vI .i64 k, vI .u8 99] w (fun e w' => e = .returned (vB (decide (k = 4))) ∧ Fr No w w') := by have h := e_in k 99 w hk; rw [inN_99] at h; exact h

theorem e_in111 (k : Int) (w : World) (hk : -9223372036854775808 ≤ k ∧ k ≤ 9223372036854775807) : Calls Tryz.prog 64 #[vI .i64 k, vI .u8 111] w (fun e w' => e = .returned (vB (decide (5 ≤ k ∧ k ≤ 12))) ∧ Fr No w w') := by have h := e_in k 111 w hk; rw [inN_111] at h; exact h

theorem e_in110 (k : Int) (w : World) (hk : -9223372036854775808 ≤ k ∧ k ≤ 9223372036854775807) : Calls Tryz.prog 64 #[vI .i64 k, vI .u8 110] w (fun e w' => e = .returned (vB (decide (k = 11))) ∧ Fr No w w') := by have h := e_in k 110 w hk; rw [inN_110] at h; exact h

theorem e_in116 (k : Int) (w : World) (hk : -9223372036854775808 ≤ k ∧ k ≤ 9223372036854775807) : Calls Tryz.prog 64 #[vI .i64 k, vI .u8 116] w (fun e w' => e = .returned (vB (decide (k = 14))) ∧ Fr No w w') := by have h := e_in k 116 w hk; rw [inN_116] at h; exact h

set_option maxRecDepth 100000 in
theorem e_r16right (x : Event) (w : World) (hkr : -9223372036854775808 ≤ x.kind ∧ x.kind ≤ 9223372036854775807) : Calls Tryz.prog 28 #[x.v] w (fun e w' => e = .returned (vB (evOk x)) ∧ Fr No w w') := by
 have _hu := hkr; clear _hu
 refine enter_E 128 Tryz.func28 rfl rfl (by kernel_rfl) (L := [(0, x.v)]) (by kernel_rfl) ?_
 intro ac hA
 have hW := Ws.start w No
 refine wr <| st_s hA (Runs.cells (fun b => pA b 0) #[vI .i64 x.g, vI .i64 x.kind, vI .i64 x.site.f, vI .i64 x.site.pc, vI .u32 x.addr, vI .i64 x.child, vI .i64 x.obj, vI .i64 x.n, vI .i64 x.trap] 43 (fun _ => by kernel_rfl) hW ?_); clear hA ac hW; intro b1 w2 hW hb1 hfw2 ac hA
 refine st_p (vB false) hA ?_; clear hA ac; intro ac hA
 refine wn <| wr <| st_p (pA b1 1) hA fun ac hA => st_q (vI .i64 x.kind) hA hW.cls (rl b1 1 0) fun ac hA => st_p (vI .i64 x.kind) hA fun ac hA => wn <| wp_seq <| wp_cutR (fun ac_ wl_ =>  (1 ≤ x.kind ∧ x.kind ≤ 14 ∧ 0 ≤ x.g ∧ x.g ≤ 65535 ∧ argErr (Site.ok x.site) = 0) ∧ Fm 128 [] [(1, pA b1 0), (3, vI .i64 x.kind)] ac_ ∧ Ws w No [Cel b1 #[vI .i64 x.g, vI .i64 x.kind, vI .i64 x.site.f, vI .i64 x.site.pc, vI .u32 x.addr, vI .i64 x.child, vI .i64 x.obj, vI .i64 x.n, vI .i64 x.trap] 43] [] wl_) ?_ ?_
 ·
  refine wr <| st_p (vI .i64 x.kind) hA fun ac hA => st_p (vB (decide ((x.kind : Int) < (1 : Int)))) hA fun ac hA => st_p (vB (decide ((x.kind : Int) < (1 : Int)))) hA fun ac hA => ?_
  rcases Bool.eq_false_or_eq_true (decide ((x.kind : Int) < (1 : Int))) with h3 | h3
  ·
   rw [h3] at hA
   have h3 := of_decide_eq_true h3
   refine st_k hA fun ac hA => st_k hA fun ac hA => st_p (vB true) hA fun ac hA => st_p (vB true) hA fun ac hA => st_k hA fun ac hA => st_k hA fun ac hA => st_k hA fun ac hA => st_p (vB true) hA fun ac hA => st_p (vB true) hA fun ac hA => st_k hA fun ac hA => st_k hA fun ac hA => st_k hA fun ac hA => st_p (vB true) hA fun ac hA => st_p (vB true) hA fun ac hA => st_k hA fun ac hA => st_k hA fun ac hA => st_k hA fun ac hA => st_k hA fun ac hA => st_p (vB true) hA fun ac hA => wn <| wp_cond_true (hA.eval (by kernel_rfl)) <| wr <| st_p (vB false) hA ?_; clear hA ac; intro ac hA
   refine wn <| wp_ret <| cutR <| thenR <| r1 (vB false) hA ?_
   clear hA
   exact ⟨retv (congrArg vB (decide_eq_false (by unfold EvOk; omega)).symm), hW.fr⟩
  rw [h3] at hA
  have h3 := of_decide_eq_false h3
  refine st_p (vI .i64 x.kind) hA fun ac hA => st_p (vB (decide ((x.kind : Int) > (14 : Int)))) hA fun ac hA => st_p (vB (decide ((x.kind : Int) > (14 : Int)))) hA fun ac hA => st_p (vB (decide ((x.kind : Int) > (14 : Int)))) hA fun ac hA => ?_
  rcases Bool.eq_false_or_eq_true (decide ((x.kind : Int) > (14 : Int))) with h4 | h4
  ·
   rw [h4] at hA
   have h4 := of_decide_eq_true h4
   refine st_k hA fun ac hA => st_k hA fun ac hA => st_k hA fun ac hA => st_p (vB true) hA fun ac hA => st_p (vB true) hA fun ac hA => st_k hA fun ac hA => st_k hA fun ac hA => st_k hA fun ac hA => st_p (vB true) hA fun ac hA => st_p (vB true) hA fun ac hA => st_k hA fun ac hA => st_k hA fun ac hA => st_k hA fun ac hA => st_k hA fun ac hA => st_p (vB true) hA fun ac hA => wn <| wp_cond_true (hA.eval (by kernel_rfl)) <| wr <| st_p (vB false) hA ?_; clear hA ac; intro ac hA
   refine wn <| wp_ret <| cutR <| thenR <| r1 (vB false) hA ?_
   clear hA
   exact ⟨retv (congrArg vB (decide_eq_false (by unfold EvOk; omega)).symm), hW.fr⟩
  rw [h4] at hA
  have h4 := of_decide_eq_false h4
  refine st_p (pA b1 0) hA fun ac hA => st_q (vI .i64 x.g) hA hW.cls (rl b1 0 0) fun ac hA => st_p (vB (decide ((x.g : Int) < (0 : Int)))) hA fun ac hA => st_p (vB (decide ((x.g : Int) < (0 : Int)))) hA fun ac hA => st_p (vB (decide ((x.g : Int) < (0 : Int)))) hA fun ac hA => ?_
  rcases Bool.eq_false_or_eq_true (decide ((x.g : Int) < (0 : Int))) with h5 | h5
  ·
   rw [h5] at hA
   have h5 := of_decide_eq_true h5
   refine st_k hA fun ac hA => st_k hA fun ac hA => st_k hA fun ac hA => st_p (vB true) hA fun ac hA => st_p (vB true) hA fun ac hA => st_k hA fun ac hA => st_k hA fun ac hA => st_k hA fun ac hA => st_k hA fun ac hA => st_p (vB true) hA fun ac hA => wn <| wp_cond_true (hA.eval (by kernel_rfl)) <| wr <| st_p (vB false) hA ?_; clear hA ac; intro ac hA
   refine wn <| wp_ret <| cutR <| thenR <| r1 (vB false) hA ?_
   clear hA
   exact ⟨retv (congrArg vB (decide_eq_false (by unfold EvOk; omega)).symm), hW.fr⟩
  rw [h5] at hA
  have h5 := of_decide_eq_false h5
  refine st_p (pA b1 0) hA fun ac hA => st_q (vI .i64 x.g) hA hW.cls (rl b1 0 0) fun ac hA => st_p (vB (decide ((x.g : Int) > (65535 : Int)))) hA fun ac hA => st_p (vB (decide ((x.g : Int) > (65535 : Int)))) hA fun ac hA => st_p (vB (decide ((x.g : Int) > (65535 : Int)))) hA fun ac hA => ?_
  rcases Bool.eq_false_or_eq_true (decide ((x.g : Int) > (65535 : Int))) with h6 | h6
  ·
   rw [h6] at hA
   have h6 := of_decide_eq_true h6
   refine st_k hA fun ac hA => st_k hA fun ac hA => st_k hA fun ac hA => st_k hA fun ac hA => st_p (vB true) hA fun ac hA => wn <| wp_cond_true (hA.eval (by kernel_rfl)) <| wr <| st_p (vB false) hA ?_; clear hA ac; intro ac hA
   refine wn <| wp_ret <| cutR <| thenR <| r1 (vB false) hA ?_
   clear hA
   exact ⟨retv (congrArg vB (decide_eq_false (by unfold EvOk; omega)).symm), hW.fr⟩
  rw [h6] at hA
  have h6 := of_decide_eq_false h6
  refine st_p (pA b1 2) hA fun ac hA => st_q (vA #[vI .i64 x.site.f, vI .i64 x.site.pc]) hA hW.cls (rl b1 2 0) fun ac hA => st_s hA (Runs.callN (v := vB (decide (argErr (Site.ok x.site) = 0))) (fun _ => by kernel_rfl) hW (e_r07right x.site w2) ?_); clear hA ac hW; intro w7 hW hfw7 ac hA
  refine st_p (vB (!(decide (argErr (Site.ok x.site) = 0)))) hA fun ac hA => st_p (vB (!(decide (argErr (Site.ok x.site) = 0)))) hA fun ac hA => wn <| wp_cond_split (t := !(decide (argErr (Site.ok x.site) = 0))) (hA.eval (by kernel_rfl)) (fun h8 => ?_) (fun h8 => ?_)
  ·
   have h8 := not_t h8
   have h8 := of_decide_eq_false h8
   refine wr <| st_p (vB false) hA ?_; clear hA ac; intro ac hA
   refine wn <| wp_ret <| cutR <| thenR <| r1 (vB false) hA ?_
   clear hA
   exact ⟨retv (congrArg vB (decide_eq_false (by unfold EvOk; omega)).symm), hW.fr⟩
  have h8 := not_f h8
  have h8 := of_decide_eq_true h8
  refine wp_skip <| cutN ?_
  exact ⟨by omega, hA.sub ⟨⟨by kernel_rfl, by kernel_rfl⟩, ⟨by kernel_rfl, by kernel_rfl⟩, trivial⟩, (hW.pick [0] (by decide) rfl).pickG [] rfl⟩
 clear hA ac hW; rintro ac w9 ⟨h1, hA, hW⟩
 refine thenN <| wp_seq <| wp_cutR (fun ac_ wl_ =>  ((x.kind = 2 ∨ x.kind = 3 ∨ x.addr = 0) ∧ (x.kind = 4 ∨ x.child = 0) ∧ (5 ≤ x.kind ∧ x.kind ≤ 12 ∨ x.obj = 0) ∧ (x.kind = 11 ∨ x.n = 0) ∧ (x.kind = 14 ∨ x.trap = 0)) ∧ Fm 128 [] [(1, pA b1 0), (3, vI .i64 x.kind)] ac_ ∧ Ws w No [Cel b1 #[vI .i64 x.g, vI .i64 x.kind, vI .i64 x.site.f, vI .i64 x.site.pc, vI .u32 x.addr, vI .i64 x.child, vI .i64 x.obj, vI .i64 x.n, vI .i64 x.trap] 43] [] wl_) ?_ ?_
 ·
  refine wr <| st_p (vI .i64 x.kind) hA ?_; clear hA ac; intro ac hA
  refine st_s hA (Runs.callN (v := vB (decide ((x.kind) = 2 ∨ (x.kind) = 3))) (fun _ => by kernel_rfl) hW (e_in97 (x.kind) w9 (by omega)) ?_); clear hA ac hW; intro w10 hW hfw10 ac hA
  refine st_p (vB (!(decide ((x.kind) = 2 ∨ (x.kind) = 3)))) hA fun ac hA => st_p (vB (!(decide ((x.kind) = 2 ∨ (x.kind) = 3)))) hA fun ac hA => ?_
  rcases Bool.eq_false_or_eq_true (!(decide ((x.kind) = 2 ∨ (x.kind) = 3))) with h11 | h11
  ·
   rw [h11] at hA
   have h11 := not_t h11
   have h11 := of_decide_eq_false h11
   refine st_p (pA b1 4) hA fun ac hA => st_q (vI .u32 x.addr) hA hW.cls (rl b1 4 0) fun ac hA => st_p (vB ((x.addr : Int) != (0 : Int))) hA fun ac hA => st_p (vB ((x.addr : Int) != (0 : Int))) hA fun ac hA => st_p (vB ((x.addr : Int) != (0 : Int))) hA fun ac hA => ?_
   rcases Bool.eq_false_or_eq_true ((x.addr : Int) != (0 : Int)) with h12 | h12
   ·
    rw [h12] at hA
    have h12 := bne_iff_ne.1 h12
    refine st_k hA fun ac hA => st_k hA fun ac hA => st_k hA fun ac hA => st_k hA fun ac hA => st_k hA fun ac hA => st_k hA fun ac hA => st_k hA fun ac hA => st_k hA fun ac hA => st_p (vB true) hA fun ac hA => st_p (vB true) hA fun ac hA => st_k hA fun ac hA => st_k hA fun ac hA => st_k hA fun ac hA => st_k hA fun ac hA => st_k hA fun ac hA => st_k hA fun ac hA => st_k hA fun ac hA => st_k hA fun ac hA => st_p (vB true) hA fun ac hA => st_p (vB true) hA fun ac hA => st_k hA fun ac hA => st_k hA fun ac hA => st_k hA fun ac hA => st_k hA fun ac hA => st_k hA fun ac hA => st_k hA fun ac hA => st_k hA fun ac hA => st_k hA fun ac hA => st_p (vB true) hA fun ac hA => st_p (vB true) hA fun ac hA => st_k hA fun ac hA => st_k hA fun ac hA => st_k hA fun ac hA => st_k hA fun ac hA => st_k hA fun ac hA => st_k hA fun ac hA => st_k hA fun ac hA => st_k hA fun ac hA => st_p (vB true) hA fun ac hA => wn <| wp_cond_true (hA.eval (by kernel_rfl)) <| wr <| st_p (vB false) hA ?_; clear hA ac; intro ac hA
    refine wn <| wp_ret <| cutR <| thenR <| r1 (vB false) hA ?_
    clear hA
    exact ⟨retv (congrArg vB (decide_eq_false (by unfold EvOk; omega)).symm), hW.fr⟩
   rw [h12] at hA
   have h12 := of_bne_f h12
   refine st_p (vI .i64 x.kind) hA ?_; clear hA ac; intro ac hA
   refine st_s hA (Runs.callN (v := vB (decide ((x.kind) = 4))) (fun _ => by kernel_rfl) hW (e_in99 (x.kind) w10 (by omega)) ?_); clear hA ac hW; intro w13 hW hfw13 ac hA
   refine st_p (vB (!(decide ((x.kind) = 4)))) hA fun ac hA => st_p (vB (!(decide ((x.kind) = 4)))) hA fun ac hA => ?_
   rcases Bool.eq_false_or_eq_true (!(decide ((x.kind) = 4))) with h14 | h14
   ·
    rw [h14] at hA
    have h14 := not_t h14
    have h14 := of_decide_eq_false h14
    refine st_p (pA b1 5) hA fun ac hA => st_q (vI .i64 x.child) hA hW.cls (rl b1 5 0) fun ac hA => st_p (vB ((x.child : Int) != (0 : Int))) hA fun ac hA => st_p (vB ((x.child : Int) != (0 : Int))) hA fun ac hA => st_p (vB ((x.child : Int) != (0 : Int))) hA fun ac hA => st_p (vB ((x.child : Int) != (0 : Int))) hA fun ac hA => ?_
    rcases Bool.eq_false_or_eq_true ((x.child : Int) != (0 : Int)) with h15 | h15
    ·
     rw [h15] at hA
     have h15 := bne_iff_ne.1 h15
     refine st_k hA fun ac hA => st_k hA fun ac hA => st_k hA fun ac hA => st_k hA fun ac hA => st_k hA fun ac hA => st_k hA fun ac hA => st_k hA fun ac hA => st_k hA fun ac hA => st_p (vB true) hA fun ac hA => st_p (vB true) hA fun ac hA => st_k hA fun ac hA => st_k hA fun ac hA => st_k hA fun ac hA => st_k hA fun ac hA => st_k hA fun ac hA => st_k hA fun ac hA => st_k hA fun ac hA => st_k hA fun ac hA => st_p (vB true) hA fun ac hA => st_p (vB true) hA fun ac hA => st_k hA fun ac hA => st_k hA fun ac hA => st_k hA fun ac hA => st_k hA fun ac hA => st_k hA fun ac hA => st_k hA fun ac hA => st_k hA fun ac hA => st_k hA fun ac hA => st_p (vB true) hA fun ac hA => wn <| wp_cond_true (hA.eval (by kernel_rfl)) <| wr <| st_p (vB false) hA ?_; clear hA ac; intro ac hA
     refine wn <| wp_ret <| cutR <| thenR <| r1 (vB false) hA ?_
     clear hA
     exact ⟨retv (congrArg vB (decide_eq_false (by unfold EvOk; omega)).symm), hW.fr⟩
    rw [h15] at hA
    have h15 := of_bne_f h15
    refine st_p (vI .i64 x.kind) hA ?_; clear hA ac; intro ac hA
    refine st_s hA (Runs.callN (v := vB (decide (5 ≤ (x.kind) ∧ (x.kind) ≤ 12))) (fun _ => by kernel_rfl) hW (e_in111 (x.kind) w13 (by omega)) ?_); clear hA ac hW; intro w16 hW hfw16 ac hA
    refine st_p (vB (!(decide (5 ≤ (x.kind) ∧ (x.kind) ≤ 12)))) hA fun ac hA => st_p (vB (!(decide (5 ≤ (x.kind) ∧ (x.kind) ≤ 12)))) hA fun ac hA => ?_
    rcases Bool.eq_false_or_eq_true (!(decide (5 ≤ (x.kind) ∧ (x.kind) ≤ 12))) with h17 | h17
    ·
     rw [h17] at hA
     have h17 := not_t h17
     have h17 := of_decide_eq_false h17
     refine st_p (pA b1 6) hA fun ac hA => st_q (vI .i64 x.obj) hA hW.cls (rl b1 6 0) fun ac hA => st_p (vB ((x.obj : Int) != (0 : Int))) hA fun ac hA => st_p (vB ((x.obj : Int) != (0 : Int))) hA fun ac hA => st_p (vB ((x.obj : Int) != (0 : Int))) hA fun ac hA => st_p (vB ((x.obj : Int) != (0 : Int))) hA fun ac hA => ?_
     rcases Bool.eq_false_or_eq_true ((x.obj : Int) != (0 : Int)) with h18 | h18
     ·
      rw [h18] at hA
      have h18 := bne_iff_ne.1 h18
      refine st_k hA fun ac hA => st_k hA fun ac hA => st_k hA fun ac hA => st_k hA fun ac hA => st_k hA fun ac hA => st_k hA fun ac hA => st_k hA fun ac hA => st_k hA fun ac hA => st_p (vB true) hA fun ac hA => st_p (vB true) hA fun ac hA => st_k hA fun ac hA => st_k hA fun ac hA => st_k hA fun ac hA => st_k hA fun ac hA => st_k hA fun ac hA => st_k hA fun ac hA => st_k hA fun ac hA => st_k hA fun ac hA => st_p (vB true) hA fun ac hA => wn <| wp_cond_true (hA.eval (by kernel_rfl)) <| wr <| st_p (vB false) hA ?_; clear hA ac; intro ac hA
      refine wn <| wp_ret <| cutR <| thenR <| r1 (vB false) hA ?_
      clear hA
      exact ⟨retv (congrArg vB (decide_eq_false (by unfold EvOk; omega)).symm), hW.fr⟩
     rw [h18] at hA
     have h18 := of_bne_f h18
     refine st_p (vI .i64 x.kind) hA ?_; clear hA ac; intro ac hA
     refine st_s hA (Runs.callN (v := vB (decide ((x.kind) = 11))) (fun _ => by kernel_rfl) hW (e_in110 (x.kind) w16 (by omega)) ?_); clear hA ac hW; intro w19 hW hfw19 ac hA
     refine st_p (vB (!(decide ((x.kind) = 11)))) hA fun ac hA => st_p (vB (!(decide ((x.kind) = 11)))) hA fun ac hA => ?_
     rcases Bool.eq_false_or_eq_true (!(decide ((x.kind) = 11))) with h20 | h20
     ·
      rw [h20] at hA
      have h20 := not_t h20
      have h20 := of_decide_eq_false h20
      refine st_p (pA b1 7) hA fun ac hA => st_q (vI .i64 x.n) hA hW.cls (rl b1 7 0) fun ac hA => st_p (vB ((x.n : Int) != (0 : Int))) hA fun ac hA => st_p (vB ((x.n : Int) != (0 : Int))) hA fun ac hA => st_p (vB ((x.n : Int) != (0 : Int))) hA fun ac hA => st_p (vB ((x.n : Int) != (0 : Int))) hA fun ac hA => ?_
      rcases Bool.eq_false_or_eq_true ((x.n : Int) != (0 : Int)) with h21 | h21
      ·
       rw [h21] at hA
       have h21 := bne_iff_ne.1 h21
       refine st_k hA fun ac hA => st_k hA fun ac hA => st_k hA fun ac hA => st_k hA fun ac hA => st_k hA fun ac hA => st_k hA fun ac hA => st_k hA fun ac hA => st_k hA fun ac hA => st_p (vB true) hA fun ac hA => wn <| wp_cond_true (hA.eval (by kernel_rfl)) <| wr <| st_p (vB false) hA ?_; clear hA ac; intro ac hA
       refine wn <| wp_ret <| cutR <| thenR <| r1 (vB false) hA ?_
       clear hA
       exact ⟨retv (congrArg vB (decide_eq_false (by unfold EvOk; omega)).symm), hW.fr⟩
      rw [h21] at hA
      have h21 := of_bne_f h21
      refine st_p (vI .i64 x.kind) hA ?_; clear hA ac; intro ac hA
      refine st_s hA (Runs.callN (v := vB (decide ((x.kind) = 14))) (fun _ => by kernel_rfl) hW (e_in116 (x.kind) w19 (by omega)) ?_); clear hA ac hW; intro w22 hW hfw22 ac hA
      refine st_p (vB (!(decide ((x.kind) = 14)))) hA fun ac hA => st_p (vB (!(decide ((x.kind) = 14)))) hA fun ac hA => ?_
      rcases Bool.eq_false_or_eq_true (!(decide ((x.kind) = 14))) with h23 | h23
      ·
       rw [h23] at hA
       have h23 := not_t h23
       have h23 := of_decide_eq_false h23
       refine st_p (pA b1 8) hA fun ac hA => st_q (vI .i64 x.trap) hA hW.cls (rl b1 8 0) fun ac hA => st_p (vB ((x.trap : Int) != (0 : Int))) hA fun ac hA => st_p (vB ((x.trap : Int) != (0 : Int))) hA fun ac hA => st_p (vB ((x.trap : Int) != (0 : Int))) hA fun ac hA => wn <| wp_cond_split (t := (x.trap : Int) != (0 : Int)) (hA.eval (by kernel_rfl)) (fun h24 => ?_) (fun h24 => ?_)
       ·
        have h24 := bne_iff_ne.1 h24
        refine wr <| st_p (vB false) hA ?_; clear hA ac; intro ac hA
        refine wn <| wp_ret <| cutR <| thenR <| r1 (vB false) hA ?_
        clear hA
        exact ⟨retv (congrArg vB (decide_eq_false (by unfold EvOk; omega)).symm), hW.fr⟩
       have h24 := of_bne_f h24
       refine wp_skip <| cutN ?_
       exact ⟨by omega, hA.sub ⟨⟨by kernel_rfl, by kernel_rfl⟩, ⟨by kernel_rfl, by kernel_rfl⟩, trivial⟩, (hW.pick [0] (by decide) rfl).pickG [] rfl⟩
      rw [h23] at hA
      have h23 := not_f h23
      have h23 := of_decide_eq_true h23
      refine st_k hA fun ac hA => st_k hA fun ac hA => st_k hA fun ac hA => st_p (vB false) hA fun ac hA => st_p (vB false) hA fun ac hA => wn <| wp_cond_false (hA.eval (by kernel_rfl)) <| wp_skip <| cutN ?_
      exact ⟨by omega, hA.sub ⟨⟨by kernel_rfl, by kernel_rfl⟩, ⟨by kernel_rfl, by kernel_rfl⟩, trivial⟩, (hW.pick [0] (by decide) rfl).pickG [] rfl⟩
     rw [h20] at hA
     have h20 := not_f h20
     have h20 := of_decide_eq_true h20
     exfalso; clear hA hW; omega
    rw [h17] at hA
    have h17 := not_f h17
    have h17 := of_decide_eq_true h17
    refine st_k hA fun ac hA => st_k hA fun ac hA => st_k hA fun ac hA => st_p (vB false) hA fun ac hA => st_p (vB false) hA fun ac hA => st_p (vB false) hA fun ac hA => st_p (vI .i64 x.kind) hA fun ac hA => st_s hA (Runs.callN (v := vB (decide ((x.kind) = 11))) (fun _ => by kernel_rfl) hW (e_in110 (x.kind) w16 (by omega)) ?_); clear hA ac hW; intro w25 hW hfw25 ac hA
    refine st_p (vB (!(decide ((x.kind) = 11)))) hA fun ac hA => st_p (vB (!(decide ((x.kind) = 11)))) hA fun ac hA => ?_
    rcases Bool.eq_false_or_eq_true (!(decide ((x.kind) = 11))) with h26 | h26
    ·
     rw [h26] at hA
     have h26 := not_t h26
     have h26 := of_decide_eq_false h26
     refine st_p (pA b1 7) hA fun ac hA => st_q (vI .i64 x.n) hA hW.cls (rl b1 7 0) fun ac hA => st_p (vB ((x.n : Int) != (0 : Int))) hA fun ac hA => st_p (vB ((x.n : Int) != (0 : Int))) hA fun ac hA => st_p (vB ((x.n : Int) != (0 : Int))) hA fun ac hA => st_p (vB ((x.n : Int) != (0 : Int))) hA fun ac hA => ?_
     rcases Bool.eq_false_or_eq_true ((x.n : Int) != (0 : Int)) with h27 | h27
     ·
      rw [h27] at hA
      have h27 := bne_iff_ne.1 h27
      refine st_k hA fun ac hA => st_k hA fun ac hA => st_k hA fun ac hA => st_k hA fun ac hA => st_k hA fun ac hA => st_k hA fun ac hA => st_k hA fun ac hA => st_k hA fun ac hA => st_p (vB true) hA fun ac hA => wn <| wp_cond_true (hA.eval (by kernel_rfl)) <| wr <| st_p (vB false) hA ?_; clear hA ac; intro ac hA
      refine wn <| wp_ret <| cutR <| thenR <| r1 (vB false) hA ?_
      clear hA
      exact ⟨retv (congrArg vB (decide_eq_false (by unfold EvOk; omega)).symm), hW.fr⟩
     rw [h27] at hA
     have h27 := of_bne_f h27
     refine st_p (vI .i64 x.kind) hA ?_; clear hA ac; intro ac hA
     refine st_s hA (Runs.callN (v := vB (decide ((x.kind) = 14))) (fun _ => by kernel_rfl) hW (e_in116 (x.kind) w25 (by omega)) ?_); clear hA ac hW; intro w28 hW hfw28 ac hA
     refine st_p (vB (!(decide ((x.kind) = 14)))) hA fun ac hA => st_p (vB (!(decide ((x.kind) = 14)))) hA fun ac hA => ?_
     rcases Bool.eq_false_or_eq_true (!(decide ((x.kind) = 14))) with h29 | h29
     ·
      rw [h29] at hA
      have h29 := not_t h29
      have h29 := of_decide_eq_false h29
      refine st_p (pA b1 8) hA fun ac hA => st_q (vI .i64 x.trap) hA hW.cls (rl b1 8 0) fun ac hA => st_p (vB ((x.trap : Int) != (0 : Int))) hA fun ac hA => st_p (vB ((x.trap : Int) != (0 : Int))) hA fun ac hA => st_p (vB ((x.trap : Int) != (0 : Int))) hA fun ac hA => wn <| wp_cond_split (t := (x.trap : Int) != (0 : Int)) (hA.eval (by kernel_rfl)) (fun h30 => ?_) (fun h30 => ?_)
      ·
       have h30 := bne_iff_ne.1 h30
       refine wr <| st_p (vB false) hA ?_; clear hA ac; intro ac hA
       refine wn <| wp_ret <| cutR <| thenR <| r1 (vB false) hA ?_
       clear hA
       exact ⟨retv (congrArg vB (decide_eq_false (by unfold EvOk; omega)).symm), hW.fr⟩
      have h30 := of_bne_f h30
      refine wp_skip <| cutN ?_
      exact ⟨by omega, hA.sub ⟨⟨by kernel_rfl, by kernel_rfl⟩, ⟨by kernel_rfl, by kernel_rfl⟩, trivial⟩, (hW.pick [0] (by decide) rfl).pickG [] rfl⟩
     rw [h29] at hA
     have h29 := not_f h29
     have h29 := of_decide_eq_true h29
     exfalso; clear hA hW; omega
    rw [h26] at hA
    have h26 := not_f h26
    have h26 := of_decide_eq_true h26
    refine st_k hA fun ac hA => st_k hA fun ac hA => st_k hA fun ac hA => st_p (vB false) hA fun ac hA => st_p (vB false) hA fun ac hA => st_p (vB false) hA fun ac hA => st_p (vI .i64 x.kind) hA fun ac hA => st_s hA (Runs.callN (v := vB (decide ((x.kind) = 14))) (fun _ => by kernel_rfl) hW (e_in116 (x.kind) w25 (by omega)) ?_); clear hA ac hW; intro w31 hW hfw31 ac hA
    refine st_p (vB (!(decide ((x.kind) = 14)))) hA fun ac hA => st_p (vB (!(decide ((x.kind) = 14)))) hA fun ac hA => ?_
    rcases Bool.eq_false_or_eq_true (!(decide ((x.kind) = 14))) with h32 | h32
    ·
     rw [h32] at hA
     have h32 := not_t h32
     have h32 := of_decide_eq_false h32
     refine st_p (pA b1 8) hA fun ac hA => st_q (vI .i64 x.trap) hA hW.cls (rl b1 8 0) fun ac hA => st_p (vB ((x.trap : Int) != (0 : Int))) hA fun ac hA => st_p (vB ((x.trap : Int) != (0 : Int))) hA fun ac hA => st_p (vB ((x.trap : Int) != (0 : Int))) hA fun ac hA => wn <| wp_cond_split (t := (x.trap : Int) != (0 : Int)) (hA.eval (by kernel_rfl)) (fun h33 => ?_) (fun h33 => ?_)
     ·
      have h33 := bne_iff_ne.1 h33
      refine wr <| st_p (vB false) hA ?_; clear hA ac; intro ac hA
      refine wn <| wp_ret <| cutR <| thenR <| r1 (vB false) hA ?_
      clear hA
      exact ⟨retv (congrArg vB (decide_eq_false (by unfold EvOk; omega)).symm), hW.fr⟩
     have h33 := of_bne_f h33
     refine wp_skip <| cutN ?_
     exact ⟨by omega, hA.sub ⟨⟨by kernel_rfl, by kernel_rfl⟩, ⟨by kernel_rfl, by kernel_rfl⟩, trivial⟩, (hW.pick [0] (by decide) rfl).pickG [] rfl⟩
    rw [h32] at hA
    have h32 := not_f h32
    have h32 := of_decide_eq_true h32
    exfalso; clear hA hW; omega
   rw [h14] at hA
   have h14 := not_f h14
   have h14 := of_decide_eq_true h14
   refine st_k hA fun ac hA => st_k hA fun ac hA => st_k hA fun ac hA => st_p (vB false) hA fun ac hA => st_p (vB false) hA fun ac hA => st_p (vB false) hA fun ac hA => st_p (vI .i64 x.kind) hA fun ac hA => st_s hA (Runs.callN (v := vB (decide (5 ≤ (x.kind) ∧ (x.kind) ≤ 12))) (fun _ => by kernel_rfl) hW (e_in111 (x.kind) w13 (by omega)) ?_); clear hA ac hW; intro w34 hW hfw34 ac hA
   refine st_p (vB (!(decide (5 ≤ (x.kind) ∧ (x.kind) ≤ 12)))) hA fun ac hA => st_p (vB (!(decide (5 ≤ (x.kind) ∧ (x.kind) ≤ 12)))) hA fun ac hA => ?_
   rcases Bool.eq_false_or_eq_true (!(decide (5 ≤ (x.kind) ∧ (x.kind) ≤ 12))) with h35 | h35
   ·
    rw [h35] at hA
    have h35 := not_t h35
    have h35 := of_decide_eq_false h35
    refine st_p (pA b1 6) hA fun ac hA => st_q (vI .i64 x.obj) hA hW.cls (rl b1 6 0) fun ac hA => st_p (vB ((x.obj : Int) != (0 : Int))) hA fun ac hA => st_p (vB ((x.obj : Int) != (0 : Int))) hA fun ac hA => st_p (vB ((x.obj : Int) != (0 : Int))) hA fun ac hA => st_p (vB ((x.obj : Int) != (0 : Int))) hA fun ac hA => ?_
    rcases Bool.eq_false_or_eq_true ((x.obj : Int) != (0 : Int)) with h36 | h36
    ·
     rw [h36] at hA
     have h36 := bne_iff_ne.1 h36
     refine st_k hA fun ac hA => st_k hA fun ac hA => st_k hA fun ac hA => st_k hA fun ac hA => st_k hA fun ac hA => st_k hA fun ac hA => st_k hA fun ac hA => st_k hA fun ac hA => st_p (vB true) hA fun ac hA => st_p (vB true) hA fun ac hA => st_k hA fun ac hA => st_k hA fun ac hA => st_k hA fun ac hA => st_k hA fun ac hA => st_k hA fun ac hA => st_k hA fun ac hA => st_k hA fun ac hA => st_k hA fun ac hA => st_p (vB true) hA fun ac hA => wn <| wp_cond_true (hA.eval (by kernel_rfl)) <| wr <| st_p (vB false) hA ?_; clear hA ac; intro ac hA
     refine wn <| wp_ret <| cutR <| thenR <| r1 (vB false) hA ?_
     clear hA
     exact ⟨retv (congrArg vB (decide_eq_false (by unfold EvOk; omega)).symm), hW.fr⟩
    rw [h36] at hA
    have h36 := of_bne_f h36
    refine st_p (vI .i64 x.kind) hA ?_; clear hA ac; intro ac hA
    refine st_s hA (Runs.callN (v := vB (decide ((x.kind) = 11))) (fun _ => by kernel_rfl) hW (e_in110 (x.kind) w34 (by omega)) ?_); clear hA ac hW; intro w37 hW hfw37 ac hA
    refine st_p (vB (!(decide ((x.kind) = 11)))) hA fun ac hA => st_p (vB (!(decide ((x.kind) = 11)))) hA fun ac hA => ?_
    rcases Bool.eq_false_or_eq_true (!(decide ((x.kind) = 11))) with h38 | h38
    ·
     rw [h38] at hA
     have h38 := not_t h38
     have h38 := of_decide_eq_false h38
     refine st_p (pA b1 7) hA fun ac hA => st_q (vI .i64 x.n) hA hW.cls (rl b1 7 0) fun ac hA => st_p (vB ((x.n : Int) != (0 : Int))) hA fun ac hA => st_p (vB ((x.n : Int) != (0 : Int))) hA fun ac hA => st_p (vB ((x.n : Int) != (0 : Int))) hA fun ac hA => st_p (vB ((x.n : Int) != (0 : Int))) hA fun ac hA => ?_
     rcases Bool.eq_false_or_eq_true ((x.n : Int) != (0 : Int)) with h39 | h39
     ·
      rw [h39] at hA
      have h39 := bne_iff_ne.1 h39
      refine st_k hA fun ac hA => st_k hA fun ac hA => st_k hA fun ac hA => st_k hA fun ac hA => st_k hA fun ac hA => st_k hA fun ac hA => st_k hA fun ac hA => st_k hA fun ac hA => st_p (vB true) hA fun ac hA => wn <| wp_cond_true (hA.eval (by kernel_rfl)) <| wr <| st_p (vB false) hA ?_; clear hA ac; intro ac hA
      refine wn <| wp_ret <| cutR <| thenR <| r1 (vB false) hA ?_
      clear hA
      exact ⟨retv (congrArg vB (decide_eq_false (by unfold EvOk; omega)).symm), hW.fr⟩
     rw [h39] at hA
     have h39 := of_bne_f h39
     refine st_p (vI .i64 x.kind) hA ?_; clear hA ac; intro ac hA
     refine st_s hA (Runs.callN (v := vB (decide ((x.kind) = 14))) (fun _ => by kernel_rfl) hW (e_in116 (x.kind) w37 (by omega)) ?_); clear hA ac hW; intro w40 hW hfw40 ac hA
     refine st_p (vB (!(decide ((x.kind) = 14)))) hA fun ac hA => st_p (vB (!(decide ((x.kind) = 14)))) hA fun ac hA => ?_
     rcases Bool.eq_false_or_eq_true (!(decide ((x.kind) = 14))) with h41 | h41
     ·
      rw [h41] at hA
      have h41 := not_t h41
      have h41 := of_decide_eq_false h41
      refine st_p (pA b1 8) hA fun ac hA => st_q (vI .i64 x.trap) hA hW.cls (rl b1 8 0) fun ac hA => st_p (vB ((x.trap : Int) != (0 : Int))) hA fun ac hA => st_p (vB ((x.trap : Int) != (0 : Int))) hA fun ac hA => st_p (vB ((x.trap : Int) != (0 : Int))) hA fun ac hA => wn <| wp_cond_split (t := (x.trap : Int) != (0 : Int)) (hA.eval (by kernel_rfl)) (fun h42 => ?_) (fun h42 => ?_)
      ·
       have h42 := bne_iff_ne.1 h42
       refine wr <| st_p (vB false) hA ?_; clear hA ac; intro ac hA
       refine wn <| wp_ret <| cutR <| thenR <| r1 (vB false) hA ?_
       clear hA
       exact ⟨retv (congrArg vB (decide_eq_false (by unfold EvOk; omega)).symm), hW.fr⟩
      have h42 := of_bne_f h42
      refine wp_skip <| cutN ?_
      exact ⟨by omega, hA.sub ⟨⟨by kernel_rfl, by kernel_rfl⟩, ⟨by kernel_rfl, by kernel_rfl⟩, trivial⟩, (hW.pick [0] (by decide) rfl).pickG [] rfl⟩
     rw [h41] at hA
     have h41 := not_f h41
     have h41 := of_decide_eq_true h41
     exfalso; clear hA hW; omega
    rw [h38] at hA
    have h38 := not_f h38
    have h38 := of_decide_eq_true h38
    exfalso; clear hA hW; omega
   rw [h35] at hA
   have h35 := not_f h35
   have h35 := of_decide_eq_true h35
   exfalso; clear hA hW; omega
  rw [h11] at hA
  have h11 := not_f h11
  have h11 := of_decide_eq_true h11
  refine st_k hA fun ac hA => st_k hA fun ac hA => st_k hA fun ac hA => st_p (vB false) hA fun ac hA => st_p (vB false) hA fun ac hA => st_p (vI .i64 x.kind) hA fun ac hA => st_s hA (Runs.callN (v := vB (decide ((x.kind) = 4))) (fun _ => by kernel_rfl) hW (e_in99 (x.kind) w10 (by omega)) ?_); clear hA ac hW; intro w43 hW hfw43 ac hA
  refine st_p (vB (!(decide ((x.kind) = 4)))) hA fun ac hA => st_p (vB (!(decide ((x.kind) = 4)))) hA fun ac hA => ?_
  rcases Bool.eq_false_or_eq_true (!(decide ((x.kind) = 4))) with h44 | h44
  ·
   rw [h44] at hA
   have h44 := not_t h44
   have h44 := of_decide_eq_false h44
   refine st_p (pA b1 5) hA fun ac hA => st_q (vI .i64 x.child) hA hW.cls (rl b1 5 0) fun ac hA => st_p (vB ((x.child : Int) != (0 : Int))) hA fun ac hA => st_p (vB ((x.child : Int) != (0 : Int))) hA fun ac hA => st_p (vB ((x.child : Int) != (0 : Int))) hA fun ac hA => st_p (vB ((x.child : Int) != (0 : Int))) hA fun ac hA => ?_
   rcases Bool.eq_false_or_eq_true ((x.child : Int) != (0 : Int)) with h45 | h45
   ·
    rw [h45] at hA
    have h45 := bne_iff_ne.1 h45
    refine st_k hA fun ac hA => st_k hA fun ac hA => st_k hA fun ac hA => st_k hA fun ac hA => st_k hA fun ac hA => st_k hA fun ac hA => st_k hA fun ac hA => st_k hA fun ac hA => st_p (vB true) hA fun ac hA => st_p (vB true) hA fun ac hA => st_k hA fun ac hA => st_k hA fun ac hA => st_k hA fun ac hA => st_k hA fun ac hA => st_k hA fun ac hA => st_k hA fun ac hA => st_k hA fun ac hA => st_k hA fun ac hA => st_p (vB true) hA fun ac hA => st_p (vB true) hA fun ac hA => st_k hA fun ac hA => st_k hA fun ac hA => st_k hA fun ac hA => st_k hA fun ac hA => st_k hA fun ac hA => st_k hA fun ac hA => st_k hA fun ac hA => st_k hA fun ac hA => st_p (vB true) hA fun ac hA => wn <| wp_cond_true (hA.eval (by kernel_rfl)) <| wr <| st_p (vB false) hA ?_; clear hA ac; intro ac hA
    refine wn <| wp_ret <| cutR <| thenR <| r1 (vB false) hA ?_
    clear hA
    exact ⟨retv (congrArg vB (decide_eq_false (by unfold EvOk; omega)).symm), hW.fr⟩
   rw [h45] at hA
   have h45 := of_bne_f h45
   refine st_p (vI .i64 x.kind) hA ?_; clear hA ac; intro ac hA
   refine st_s hA (Runs.callN (v := vB (decide (5 ≤ (x.kind) ∧ (x.kind) ≤ 12))) (fun _ => by kernel_rfl) hW (e_in111 (x.kind) w43 (by omega)) ?_); clear hA ac hW; intro w46 hW hfw46 ac hA
   refine st_p (vB (!(decide (5 ≤ (x.kind) ∧ (x.kind) ≤ 12)))) hA fun ac hA => st_p (vB (!(decide (5 ≤ (x.kind) ∧ (x.kind) ≤ 12)))) hA fun ac hA => ?_
   rcases Bool.eq_false_or_eq_true (!(decide (5 ≤ (x.kind) ∧ (x.kind) ≤ 12))) with h47 | h47
   ·
    rw [h47] at hA
    have h47 := not_t h47
    have h47 := of_decide_eq_false h47
    refine st_p (pA b1 6) hA fun ac hA => st_q (vI .i64 x.obj) hA hW.cls (rl b1 6 0) fun ac hA => st_p (vB ((x.obj : Int) != (0 : Int))) hA fun ac hA => st_p (vB ((x.obj : Int) != (0 : Int))) hA fun ac hA => st_p (vB ((x.obj : Int) != (0 : Int))) hA fun ac hA => st_p (vB ((x.obj : Int) != (0 : Int))) hA fun ac hA => ?_
    rcases Bool.eq_false_or_eq_true ((x.obj : Int) != (0 : Int)) with h48 | h48
    ·
     rw [h48] at hA
     have h48 := bne_iff_ne.1 h48
     refine st_k hA fun ac hA => st_k hA fun ac hA => st_k hA fun ac hA => st_k hA fun ac hA => st_k hA fun ac hA => st_k hA fun ac hA => st_k hA fun ac hA => st_k hA fun ac hA => st_p (vB true) hA fun ac hA => st_p (vB true) hA fun ac hA => st_k hA fun ac hA => st_k hA fun ac hA => st_k hA fun ac hA => st_k hA fun ac hA => st_k hA fun ac hA => st_k hA fun ac hA => st_k hA fun ac hA => st_k hA fun ac hA => st_p (vB true) hA fun ac hA => wn <| wp_cond_true (hA.eval (by kernel_rfl)) <| wr <| st_p (vB false) hA ?_; clear hA ac; intro ac hA
     refine wn <| wp_ret <| cutR <| thenR <| r1 (vB false) hA ?_
     clear hA
     exact ⟨retv (congrArg vB (decide_eq_false (by unfold EvOk; omega)).symm), hW.fr⟩
    rw [h48] at hA
    have h48 := of_bne_f h48
    refine st_p (vI .i64 x.kind) hA ?_; clear hA ac; intro ac hA
    refine st_s hA (Runs.callN (v := vB (decide ((x.kind) = 11))) (fun _ => by kernel_rfl) hW (e_in110 (x.kind) w46 (by omega)) ?_); clear hA ac hW; intro w49 hW hfw49 ac hA
    refine st_p (vB (!(decide ((x.kind) = 11)))) hA fun ac hA => st_p (vB (!(decide ((x.kind) = 11)))) hA fun ac hA => ?_
    rcases Bool.eq_false_or_eq_true (!(decide ((x.kind) = 11))) with h50 | h50
    ·
     rw [h50] at hA
     have h50 := not_t h50
     have h50 := of_decide_eq_false h50
     refine st_p (pA b1 7) hA fun ac hA => st_q (vI .i64 x.n) hA hW.cls (rl b1 7 0) fun ac hA => st_p (vB ((x.n : Int) != (0 : Int))) hA fun ac hA => st_p (vB ((x.n : Int) != (0 : Int))) hA fun ac hA => st_p (vB ((x.n : Int) != (0 : Int))) hA fun ac hA => st_p (vB ((x.n : Int) != (0 : Int))) hA fun ac hA => ?_
     rcases Bool.eq_false_or_eq_true ((x.n : Int) != (0 : Int)) with h51 | h51
     ·
      rw [h51] at hA
      have h51 := bne_iff_ne.1 h51
      refine st_k hA fun ac hA => st_k hA fun ac hA => st_k hA fun ac hA => st_k hA fun ac hA => st_k hA fun ac hA => st_k hA fun ac hA => st_k hA fun ac hA => st_k hA fun ac hA => st_p (vB true) hA fun ac hA => wn <| wp_cond_true (hA.eval (by kernel_rfl)) <| wr <| st_p (vB false) hA ?_; clear hA ac; intro ac hA
      refine wn <| wp_ret <| cutR <| thenR <| r1 (vB false) hA ?_
      clear hA
      exact ⟨retv (congrArg vB (decide_eq_false (by unfold EvOk; omega)).symm), hW.fr⟩
     rw [h51] at hA
     have h51 := of_bne_f h51
     refine st_p (vI .i64 x.kind) hA ?_; clear hA ac; intro ac hA
     refine st_s hA (Runs.callN (v := vB (decide ((x.kind) = 14))) (fun _ => by kernel_rfl) hW (e_in116 (x.kind) w49 (by omega)) ?_); clear hA ac hW; intro w52 hW hfw52 ac hA
     refine st_p (vB (!(decide ((x.kind) = 14)))) hA fun ac hA => st_p (vB (!(decide ((x.kind) = 14)))) hA fun ac hA => ?_
     rcases Bool.eq_false_or_eq_true (!(decide ((x.kind) = 14))) with h53 | h53
     ·
      rw [h53] at hA
      have h53 := not_t h53
      have h53 := of_decide_eq_false h53
      refine st_p (pA b1 8) hA fun ac hA => st_q (vI .i64 x.trap) hA hW.cls (rl b1 8 0) fun ac hA => st_p (vB ((x.trap : Int) != (0 : Int))) hA fun ac hA => st_p (vB ((x.trap : Int) != (0 : Int))) hA fun ac hA => st_p (vB ((x.trap : Int) != (0 : Int))) hA fun ac hA => wn <| wp_cond_split (t := (x.trap : Int) != (0 : Int)) (hA.eval (by kernel_rfl)) (fun h54 => ?_) (fun h54 => ?_)
      ·
       have h54 := bne_iff_ne.1 h54
       refine wr <| st_p (vB false) hA ?_; clear hA ac; intro ac hA
       refine wn <| wp_ret <| cutR <| thenR <| r1 (vB false) hA ?_
       clear hA
       exact ⟨retv (congrArg vB (decide_eq_false (by unfold EvOk; omega)).symm), hW.fr⟩
      have h54 := of_bne_f h54
      refine wp_skip <| cutN ?_
      exact ⟨by omega, hA.sub ⟨⟨by kernel_rfl, by kernel_rfl⟩, ⟨by kernel_rfl, by kernel_rfl⟩, trivial⟩, (hW.pick [0] (by decide) rfl).pickG [] rfl⟩
     rw [h53] at hA
     have h53 := not_f h53
     have h53 := of_decide_eq_true h53
     exfalso; clear hA hW; omega
    rw [h50] at hA
    have h50 := not_f h50
    have h50 := of_decide_eq_true h50
    exfalso; clear hA hW; omega
   rw [h47] at hA
   have h47 := not_f h47
   have h47 := of_decide_eq_true h47
   exfalso; clear hA hW; omega
  rw [h44] at hA
  have h44 := not_f h44
  have h44 := of_decide_eq_true h44
  exfalso; clear hA hW; omega
 clear hA ac hW; rintro ac w55 ⟨h2, hA, hW⟩
 refine thenN <| wp_seq <| wp_cutR (fun ac_ wl_ =>  ((x.kind = 4 → 1 ≤ x.child ∧ x.child ≤ 65535 ∧ x.child ≠ x.g) ∧ 0 ≤ x.obj ∧ x.obj ≤ 63 ∧ -2147483648 ≤ x.n ∧ x.n ≤ 2147483647) ∧ Fm 128 [] [(1, pA b1 0), (3, vI .i64 x.kind)] ac_ ∧ Ws w No [Cel b1 #[vI .i64 x.g, vI .i64 x.kind, vI .i64 x.site.f, vI .i64 x.site.pc, vI .u32 x.addr, vI .i64 x.child, vI .i64 x.obj, vI .i64 x.n, vI .i64 x.trap] 43] [] wl_) ?_ ?_
 ·
  refine wr <| st_p (vI .i64 x.kind) hA ?_; clear hA ac; intro ac hA
  refine st_s hA (Runs.callN (v := vB (decide ((x.kind) = 4))) (fun _ => by kernel_rfl) hW (e_in99 (x.kind) w55 (by omega)) ?_); clear hA ac hW; intro w56 hW hfw56 ac hA
  refine st_p (vB (decide ((x.kind) = 4))) hA ?_; clear hA ac; intro ac hA
  rcases Bool.eq_false_or_eq_true (decide ((x.kind) = 4)) with h57 | h57
  ·
   rw [h57] at hA
   have h57 := of_decide_eq_true h57
   refine st_p (pA b1 5) hA fun ac hA => st_q (vI .i64 x.child) hA hW.cls (rl b1 5 0) fun ac hA => st_p (vB (decide ((x.child : Int) < (1 : Int)))) hA fun ac hA => st_p (vB (decide ((x.child : Int) < (1 : Int)))) hA fun ac hA => ?_
   rcases Bool.eq_false_or_eq_true (decide ((x.child : Int) < (1 : Int))) with h58 | h58
   ·
    rw [h58] at hA
    have h58 := of_decide_eq_true h58
    refine st_k hA fun ac hA => st_k hA fun ac hA => st_k hA fun ac hA => st_p (vB true) hA fun ac hA => st_p (vB true) hA fun ac hA => st_k hA fun ac hA => st_k hA fun ac hA => st_k hA fun ac hA => st_k hA fun ac hA => st_k hA fun ac hA => st_p (vB true) hA fun ac hA => st_p (vB true) hA fun ac hA => st_p (vB true) hA fun ac hA => st_k hA fun ac hA => st_k hA fun ac hA => st_k hA fun ac hA => st_p (vB true) hA fun ac hA => st_p (vB true) hA fun ac hA => st_k hA fun ac hA => st_k hA fun ac hA => st_k hA fun ac hA => st_p (vB true) hA fun ac hA => st_p (vB true) hA fun ac hA => st_k hA fun ac hA => st_k hA fun ac hA => st_k hA fun ac hA => st_p (vB true) hA fun ac hA => st_p (vB true) hA fun ac hA => st_k hA fun ac hA => st_k hA fun ac hA => st_k hA fun ac hA => st_p (vB true) hA fun ac hA => wn <| wp_cond_true (hA.eval (by kernel_rfl)) <| wr <| st_p (vB false) hA ?_; clear hA ac; intro ac hA
    refine wn <| wp_ret <| cutR <| thenR <| r1 (vB false) hA ?_
    clear hA
    exact ⟨retv (congrArg vB (decide_eq_false (by unfold EvOk; omega)).symm), hW.fr⟩
   rw [h58] at hA
   have h58 := of_decide_eq_false h58
   refine st_p (pA b1 5) hA fun ac hA => st_q (vI .i64 x.child) hA hW.cls (rl b1 5 0) fun ac hA => st_p (vB (decide ((x.child : Int) > (65535 : Int)))) hA fun ac hA => st_p (vB (decide ((x.child : Int) > (65535 : Int)))) hA fun ac hA => st_p (vB (decide ((x.child : Int) > (65535 : Int)))) hA fun ac hA => ?_
   rcases Bool.eq_false_or_eq_true (decide ((x.child : Int) > (65535 : Int))) with h59 | h59
   ·
    rw [h59] at hA
    have h59 := of_decide_eq_true h59
    refine st_k hA fun ac hA => st_k hA fun ac hA => st_k hA fun ac hA => st_k hA fun ac hA => st_k hA fun ac hA => st_p (vB true) hA fun ac hA => st_p (vB true) hA fun ac hA => st_p (vB true) hA fun ac hA => st_k hA fun ac hA => st_k hA fun ac hA => st_k hA fun ac hA => st_p (vB true) hA fun ac hA => st_p (vB true) hA fun ac hA => st_k hA fun ac hA => st_k hA fun ac hA => st_k hA fun ac hA => st_p (vB true) hA fun ac hA => st_p (vB true) hA fun ac hA => st_k hA fun ac hA => st_k hA fun ac hA => st_k hA fun ac hA => st_p (vB true) hA fun ac hA => st_p (vB true) hA fun ac hA => st_k hA fun ac hA => st_k hA fun ac hA => st_k hA fun ac hA => st_p (vB true) hA fun ac hA => wn <| wp_cond_true (hA.eval (by kernel_rfl)) <| wr <| st_p (vB false) hA ?_; clear hA ac; intro ac hA
    refine wn <| wp_ret <| cutR <| thenR <| r1 (vB false) hA ?_
    clear hA
    exact ⟨retv (congrArg vB (decide_eq_false (by unfold EvOk; omega)).symm), hW.fr⟩
   rw [h59] at hA
   have h59 := of_decide_eq_false h59
   refine st_p (pA b1 5) hA fun ac hA => st_q (vI .i64 x.child) hA hW.cls (rl b1 5 0) fun ac hA => st_p (pA b1 0) hA fun ac hA => st_q (vI .i64 x.g) hA hW.cls (rl b1 0 0) fun ac hA => st_p (vB ((x.child : Int) == (x.g : Int))) hA fun ac hA => st_p (vB ((x.child : Int) == (x.g : Int))) hA fun ac hA => st_p (vB ((x.child : Int) == (x.g : Int))) hA fun ac hA => st_p (vB ((x.child : Int) == (x.g : Int))) hA fun ac hA => ?_
   rcases Bool.eq_false_or_eq_true ((x.child : Int) == (x.g : Int)) with h60 | h60
   ·
    rw [h60] at hA
    have h60 := eq_of_beq h60
    refine st_k hA fun ac hA => st_k hA fun ac hA => st_k hA fun ac hA => st_p (vB true) hA fun ac hA => st_p (vB true) hA fun ac hA => st_k hA fun ac hA => st_k hA fun ac hA => st_k hA fun ac hA => st_p (vB true) hA fun ac hA => st_p (vB true) hA fun ac hA => st_k hA fun ac hA => st_k hA fun ac hA => st_k hA fun ac hA => st_p (vB true) hA fun ac hA => st_p (vB true) hA fun ac hA => st_k hA fun ac hA => st_k hA fun ac hA => st_k hA fun ac hA => st_p (vB true) hA fun ac hA => wn <| wp_cond_true (hA.eval (by kernel_rfl)) <| wr <| st_p (vB false) hA ?_; clear hA ac; intro ac hA
    refine wn <| wp_ret <| cutR <| thenR <| r1 (vB false) hA ?_
    clear hA
    exact ⟨retv (congrArg vB (decide_eq_false (by unfold EvOk; omega)).symm), hW.fr⟩
   rw [h60] at hA
   have h60 := ne_of_beq_false h60
   refine st_p (pA b1 6) hA fun ac hA => st_q (vI .i64 x.obj) hA hW.cls (rl b1 6 0) fun ac hA => st_p (vB (decide ((x.obj : Int) < (0 : Int)))) hA fun ac hA => st_p (vB (decide ((x.obj : Int) < (0 : Int)))) hA fun ac hA => st_p (vB (decide ((x.obj : Int) < (0 : Int)))) hA fun ac hA => ?_
   rcases Bool.eq_false_or_eq_true (decide ((x.obj : Int) < (0 : Int))) with h61 | h61
   ·
    rw [h61] at hA
    have h61 := of_decide_eq_true h61
    exfalso; clear hA hW; omega
   rw [h61] at hA
   have h61 := of_decide_eq_false h61
   refine st_p (pA b1 6) hA fun ac hA => st_q (vI .i64 x.obj) hA hW.cls (rl b1 6 0) fun ac hA => st_p (vB (decide ((x.obj : Int) > (63 : Int)))) hA fun ac hA => st_p (vB (decide ((x.obj : Int) > (63 : Int)))) hA fun ac hA => st_p (vB (decide ((x.obj : Int) > (63 : Int)))) hA fun ac hA => ?_
   rcases Bool.eq_false_or_eq_true (decide ((x.obj : Int) > (63 : Int))) with h62 | h62
   ·
    rw [h62] at hA
    have h62 := of_decide_eq_true h62
    exfalso; clear hA hW; omega
   rw [h62] at hA
   have h62 := of_decide_eq_false h62
   refine st_p (pA b1 7) hA fun ac hA => st_q (vI .i64 x.n) hA hW.cls (rl b1 7 0) fun ac hA => st_p (vB (decide ((x.n : Int) < (-2147483648 : Int)))) hA fun ac hA => st_p (vB (decide ((x.n : Int) < (-2147483648 : Int)))) hA fun ac hA => st_p (vB (decide ((x.n : Int) < (-2147483648 : Int)))) hA fun ac hA => ?_
   rcases Bool.eq_false_or_eq_true (decide ((x.n : Int) < (-2147483648 : Int))) with h63 | h63
   ·
    rw [h63] at hA
    have h63 := of_decide_eq_true h63
    exfalso; clear hA hW; omega
   rw [h63] at hA
   have h63 := of_decide_eq_false h63
   refine st_p (pA b1 7) hA fun ac hA => st_q (vI .i64 x.n) hA hW.cls (rl b1 7 0) fun ac hA => st_p (vB (decide ((x.n : Int) > (2147483647 : Int)))) hA fun ac hA => st_p (vB (decide ((x.n : Int) > (2147483647 : Int)))) hA fun ac hA => wn <| wp_cond_split (t := decide ((x.n : Int) > (2147483647 : Int))) (hA.eval (by kernel_rfl)) (fun h64 => ?_) (fun h64 => ?_)
   ·
    have h64 := of_decide_eq_true h64
    exfalso; clear hA hW; omega
   have h64 := of_decide_eq_false h64
   refine wp_skip <| cutN ?_
   exact ⟨by omega, hA.sub ⟨⟨by kernel_rfl, by kernel_rfl⟩, ⟨by kernel_rfl, by kernel_rfl⟩, trivial⟩, (hW.pick [0] (by decide) rfl).pickG [] rfl⟩
  rw [h57] at hA
  have h57 := of_decide_eq_false h57
  refine st_k hA fun ac hA => st_k hA fun ac hA => st_k hA fun ac hA => st_k hA fun ac hA => st_k hA fun ac hA => st_k hA fun ac hA => st_k hA fun ac hA => st_k hA fun ac hA => st_k hA fun ac hA => st_k hA fun ac hA => st_k hA fun ac hA => st_k hA fun ac hA => st_k hA fun ac hA => st_k hA fun ac hA => st_k hA fun ac hA => st_p (vB false) hA fun ac hA => st_p (vB false) hA fun ac hA => st_p (pA b1 6) hA fun ac hA => st_q (vI .i64 x.obj) hA hW.cls (rl b1 6 0) fun ac hA => st_p (vB (decide ((x.obj : Int) < (0 : Int)))) hA fun ac hA => st_p (vB (decide ((x.obj : Int) < (0 : Int)))) hA fun ac hA => st_p (vB (decide ((x.obj : Int) < (0 : Int)))) hA fun ac hA => ?_
  rcases Bool.eq_false_or_eq_true (decide ((x.obj : Int) < (0 : Int))) with h65 | h65
  ·
   rw [h65] at hA
   have h65 := of_decide_eq_true h65
   refine st_k hA fun ac hA => st_k hA fun ac hA => st_k hA fun ac hA => st_p (vB true) hA fun ac hA => st_p (vB true) hA fun ac hA => st_k hA fun ac hA => st_k hA fun ac hA => st_k hA fun ac hA => st_p (vB true) hA fun ac hA => st_p (vB true) hA fun ac hA => st_k hA fun ac hA => st_k hA fun ac hA => st_k hA fun ac hA => st_p (vB true) hA fun ac hA => wn <| wp_cond_true (hA.eval (by kernel_rfl)) <| wr <| st_p (vB false) hA ?_; clear hA ac; intro ac hA
   refine wn <| wp_ret <| cutR <| thenR <| r1 (vB false) hA ?_
   clear hA
   exact ⟨retv (congrArg vB (decide_eq_false (by unfold EvOk; omega)).symm), hW.fr⟩
  rw [h65] at hA
  have h65 := of_decide_eq_false h65
  refine st_p (pA b1 6) hA fun ac hA => st_q (vI .i64 x.obj) hA hW.cls (rl b1 6 0) fun ac hA => st_p (vB (decide ((x.obj : Int) > (63 : Int)))) hA fun ac hA => st_p (vB (decide ((x.obj : Int) > (63 : Int)))) hA fun ac hA => st_p (vB (decide ((x.obj : Int) > (63 : Int)))) hA fun ac hA => ?_
  rcases Bool.eq_false_or_eq_true (decide ((x.obj : Int) > (63 : Int))) with h66 | h66
  ·
   rw [h66] at hA
   have h66 := of_decide_eq_true h66
   refine st_k hA fun ac hA => st_k hA fun ac hA => st_k hA fun ac hA => st_p (vB true) hA fun ac hA => st_p (vB true) hA fun ac hA => st_k hA fun ac hA => st_k hA fun ac hA => st_k hA fun ac hA => st_p (vB true) hA fun ac hA => wn <| wp_cond_true (hA.eval (by kernel_rfl)) <| wr <| st_p (vB false) hA ?_; clear hA ac; intro ac hA
   refine wn <| wp_ret <| cutR <| thenR <| r1 (vB false) hA ?_
   clear hA
   exact ⟨retv (congrArg vB (decide_eq_false (by unfold EvOk; omega)).symm), hW.fr⟩
  rw [h66] at hA
  have h66 := of_decide_eq_false h66
  refine st_p (pA b1 7) hA fun ac hA => st_q (vI .i64 x.n) hA hW.cls (rl b1 7 0) fun ac hA => st_p (vB (decide ((x.n : Int) < (-2147483648 : Int)))) hA fun ac hA => st_p (vB (decide ((x.n : Int) < (-2147483648 : Int)))) hA fun ac hA => st_p (vB (decide ((x.n : Int) < (-2147483648 : Int)))) hA fun ac hA => ?_
  rcases Bool.eq_false_or_eq_true (decide ((x.n : Int) < (-2147483648 : Int))) with h67 | h67
  ·
   rw [h67] at hA
   have h67 := of_decide_eq_true h67
   refine st_k hA fun ac hA => st_k hA fun ac hA => st_k hA fun ac hA => st_p (vB true) hA fun ac hA => wn <| wp_cond_true (hA.eval (by kernel_rfl)) <| wr <| st_p (vB false) hA ?_; clear hA ac; intro ac hA
   refine wn <| wp_ret <| cutR <| thenR <| r1 (vB false) hA ?_
   clear hA
   exact ⟨retv (congrArg vB (decide_eq_false (by unfold EvOk; omega)).symm), hW.fr⟩
  rw [h67] at hA
  have h67 := of_decide_eq_false h67
  refine st_p (pA b1 7) hA fun ac hA => st_q (vI .i64 x.n) hA hW.cls (rl b1 7 0) fun ac hA => st_p (vB (decide ((x.n : Int) > (2147483647 : Int)))) hA fun ac hA => st_p (vB (decide ((x.n : Int) > (2147483647 : Int)))) hA fun ac hA => wn <| wp_cond_split (t := decide ((x.n : Int) > (2147483647 : Int))) (hA.eval (by kernel_rfl)) (fun h68 => ?_) (fun h68 => ?_)
  ·
   have h68 := of_decide_eq_true h68
   refine wr <| st_p (vB false) hA ?_; clear hA ac; intro ac hA
   refine wn <| wp_ret <| cutR <| thenR <| r1 (vB false) hA ?_
   clear hA
   exact ⟨retv (congrArg vB (decide_eq_false (by unfold EvOk; omega)).symm), hW.fr⟩
  have h68 := of_decide_eq_false h68
  refine wp_skip <| cutN ?_
  exact ⟨by omega, hA.sub ⟨⟨by kernel_rfl, by kernel_rfl⟩, ⟨by kernel_rfl, by kernel_rfl⟩, trivial⟩, (hW.pick [0] (by decide) rfl).pickG [] rfl⟩
 clear hA ac hW; rintro ac w69 ⟨h3, hA, hW⟩
 refine thenN <| wr <| st_p (vI .i64 x.kind) hA ?_; clear hA ac; intro ac hA
 refine st_s hA (Runs.callN (v := vB (decide ((x.kind) = 14))) (fun _ => by kernel_rfl) hW (e_in116 (x.kind) w69 (by omega)) ?_); clear hA ac hW; intro w70 hW hfw70 ac hA
 refine st_p (vB (!(decide ((x.kind) = 14)))) hA fun ac hA => st_p (vB (!(decide ((x.kind) = 14)))) hA fun ac hA => ?_
 rcases Bool.eq_false_or_eq_true (!(decide ((x.kind) = 14))) with h71 | h71
 ·
  rw [h71] at hA
  have h71 := not_t h71
  have h71 := of_decide_eq_false h71
  refine st_k hA fun ac hA => st_k hA fun ac hA => st_k hA fun ac hA => st_k hA fun ac hA => st_k hA fun ac hA => st_k hA fun ac hA => st_k hA fun ac hA => st_k hA fun ac hA => st_p (vB true) hA fun ac hA => st_p (vB true) hA fun ac hA => wn <| wp_ret <| r1 (vB true) hA ?_
  clear hA
  exact ⟨retv (congrArg vB (decide_eq_true (by unfold EvOk; omega)).symm), hW.fr⟩
 rw [h71] at hA
 have h71 := not_f h71
 have h71 := of_decide_eq_true h71
 refine st_p (pA b1 8) hA fun ac hA => st_q (vI .i64 x.trap) hA hW.cls (rl b1 8 0) fun ac hA => st_p (vB (decide ((x.trap : Int) ≥ (1 : Int)))) hA fun ac hA => st_p (vB (decide ((x.trap : Int) ≥ (1 : Int)))) hA fun ac hA => ?_
 rcases Bool.eq_false_or_eq_true (decide ((x.trap : Int) ≥ (1 : Int))) with h72 | h72
 ·
  rw [h72] at hA
  have h72 := of_decide_eq_true h72
  refine st_p (pA b1 8) hA fun ac hA => st_q (vI .i64 x.trap) hA hW.cls (rl b1 8 0) fun ac hA => st_p (vB (decide ((x.trap : Int) ≤ (6 : Int)))) hA fun ac hA => st_p (vB (decide ((x.trap : Int) ≤ (6 : Int)))) hA fun ac hA => st_p (vB (decide ((x.trap : Int) ≤ (6 : Int)))) hA fun ac hA => st_p (vB (decide ((x.trap : Int) ≤ (6 : Int)))) hA fun ac hA => wn <| wp_ret <| r1 (vB (decide ((x.trap : Int) ≤ (6 : Int)))) hA ?_
  clear hA
  refine ⟨retv (congrArg vB ?_), hW.fr⟩
  rcases Bool.eq_false_or_eq_true (decide ((x.trap : Int) ≤ (6 : Int))) with q_ | q_
  · rw [q_]
    have q_ := of_decide_eq_true q_
    exact (decide_eq_true (by unfold EvOk; omega)).symm
  · rw [q_]
    have q_ := of_decide_eq_false q_
    exact (decide_eq_false (by unfold EvOk; omega)).symm
 rw [h72] at hA
 have h72 := of_decide_eq_false h72
 refine st_k hA fun ac hA => st_k hA fun ac hA => st_k hA fun ac hA => st_p (vB false) hA fun ac hA => st_p (vB false) hA fun ac hA => st_p (vB false) hA fun ac hA => wn <| wp_ret <| r1 (vB false) hA ?_
 clear hA
 exact ⟨retv (congrArg vB (decide_eq_false (by unfold EvOk; omega)).symm), hW.fr⟩

set_option maxRecDepth 100000 in
theorem e_r16leads (x : Event) (y : Event) (w : World)  : Calls Tryz.prog 81 #[x.v, y.v] w (fun e w' => e = .returned (vB (evLeads x y)) ∧ Fr No w w') := by
 refine enter_E 71 Tryz.func81 rfl rfl (by kernel_rfl) (L := [(0, x.v), (1, y.v)]) (by kernel_rfl) ?_
 intro ac hA
 have hW := Ws.start w No
 refine wr <| st_s hA (Runs.cells (fun b => pA b 0) #[vI .i64 x.g, vI .i64 x.kind, vI .i64 x.site.f, vI .i64 x.site.pc, vI .u32 x.addr, vI .i64 x.child, vI .i64 x.obj, vI .i64 x.n, vI .i64 x.trap] 43 (fun _ => by kernel_rfl) hW ?_); clear hA ac hW; intro b1 w2 hW hb1 hfw2 ac hA
 refine st_s hA (Runs.cells (fun b => pA b 0) #[vI .i64 y.g, vI .i64 y.kind, vI .i64 y.site.f, vI .i64 y.site.pc, vI .u32 y.addr, vI .i64 y.child, vI .i64 y.obj, vI .i64 y.n, vI .i64 y.trap] 43 (fun _ => by kernel_rfl) hW ?_); clear hA ac hW; intro b3 w4 hW hb3 hfw4 ac hA
 refine st_p (vB false) hA ?_; clear hA ac; intro ac hA
 refine wn <| wp_seq <| q_region (by kernel_rfl) (by kernel_rfl) hW <| sq_p (pA b1 1) hA fun ac hA => sq_q (vI .i64 x.kind) hA (rl b1 1 1) fun ac hA => sq_p (pA b3 1) hA fun ac hA => sq_q (vI .i64 y.kind) hA (rl b3 1 0) fun ac hA => sq_p (vI .i64 x.kind) hA fun ac hA => sq_p (vI .i64 y.kind) hA fun ac hA => sq_nil ?_; intro w5 hww5; have hW := hww5.1; have hfw5 := hww5.2; clear hww5
 refine thenN <| wp_seq <| wp_cutR (fun ac_ wl_ =>  (x.g ≠ y.g ∧ ¬ (x.kind = 4 ∧ x.child = y.g)) ∧ Fm 71 [] [(2, pA b1 0), (3, pA b3 0), (5, vI .i64 x.kind), (6, vI .i64 y.kind)] ac_ ∧ Ws w No [Cel b3 #[vI .i64 y.g, vI .i64 y.kind, vI .i64 y.site.f, vI .i64 y.site.pc, vI .u32 y.addr, vI .i64 y.child, vI .i64 y.obj, vI .i64 y.n, vI .i64 y.trap] 43, Cel b1 #[vI .i64 x.g, vI .i64 x.kind, vI .i64 x.site.f, vI .i64 x.site.pc, vI .u32 x.addr, vI .i64 x.child, vI .i64 x.obj, vI .i64 x.n, vI .i64 x.trap] 43] [] wl_) ?_ ?_
 ·
  refine wr <| st_p (pA b1 0) hA fun ac hA => st_q (vI .i64 x.g) hA hW.cls (rl b1 0 1) fun ac hA => st_p (pA b3 0) hA fun ac hA => st_q (vI .i64 y.g) hA hW.cls (rl b3 0 0) fun ac hA => st_p (vB ((x.g : Int) == (y.g : Int))) hA fun ac hA => st_p (vB ((x.g : Int) == (y.g : Int))) hA fun ac hA => ?_
  rcases Bool.eq_false_or_eq_true ((x.g : Int) == (y.g : Int)) with h6 | h6
  ·
   rw [h6] at hA
   have h6 := eq_of_beq h6
   refine st_k hA fun ac hA => st_k hA fun ac hA => st_k hA fun ac hA => st_k hA fun ac hA => st_k hA fun ac hA => st_k hA fun ac hA => st_k hA fun ac hA => st_k hA fun ac hA => st_k hA fun ac hA => st_p (vB true) hA fun ac hA => wn <| wp_cond_true (hA.eval (by kernel_rfl)) <| wr <| st_p (vB true) hA ?_; clear hA ac; intro ac hA
   refine wn <| wp_ret <| cutR <| thenR <| r1 (vB true) hA ?_
   clear hA
   exact ⟨retv (congrArg vB (decide_eq_true (by unfold EvLeads; omega)).symm), hW.fr⟩
  rw [h6] at hA
  have h6 := ne_of_beq_false h6
  refine st_p (vI .i64 x.kind) hA fun ac hA => st_p (vB ((x.kind : Int) == (4 : Int))) hA fun ac hA => st_p (vB ((x.kind : Int) == (4 : Int))) hA fun ac hA => ?_
  rcases Bool.eq_false_or_eq_true ((x.kind : Int) == (4 : Int)) with h7 | h7
  ·
   rw [h7] at hA
   have h7 := eq_of_beq h7
   refine st_p (pA b1 5) hA fun ac hA => st_q (vI .i64 x.child) hA hW.cls (rl b1 5 1) fun ac hA => st_p (pA b3 0) hA fun ac hA => st_q (vI .i64 y.g) hA hW.cls (rl b3 0 0) fun ac hA => st_p (vB ((x.child : Int) == (y.g : Int))) hA fun ac hA => st_p (vB ((x.child : Int) == (y.g : Int))) hA fun ac hA => st_p (vB ((x.child : Int) == (y.g : Int))) hA fun ac hA => wn <| wp_cond_split (t := (x.child : Int) == (y.g : Int)) (hA.eval (by kernel_rfl)) (fun h8 => ?_) (fun h8 => ?_)
   ·
    have h8 := eq_of_beq h8
    refine wr <| st_p (vB true) hA ?_; clear hA ac; intro ac hA
    refine wn <| wp_ret <| cutR <| thenR <| r1 (vB true) hA ?_
    clear hA
    exact ⟨retv (congrArg vB (decide_eq_true (by unfold EvLeads; omega)).symm), hW.fr⟩
   have h8 := ne_of_beq_false h8
   refine wp_skip <| cutN ?_
   exact ⟨by omega, hA.sub (by and_intros <;> first | kernel_rfl | trivial), (hW.pick [0, 1] (by decide) rfl).pickG [] rfl⟩
  rw [h7] at hA
  have h7 := ne_of_beq_false h7
  refine st_k hA fun ac hA => st_k hA fun ac hA => st_k hA fun ac hA => st_k hA fun ac hA => st_k hA fun ac hA => st_p (vB false) hA fun ac hA => st_p (vB false) hA fun ac hA => wn <| wp_cond_false (hA.eval (by kernel_rfl)) <| wp_skip <| cutN ?_
  exact ⟨by omega, hA.sub (by and_intros <;> first | kernel_rfl | trivial), (hW.pick [0, 1] (by decide) rfl).pickG [] rfl⟩
 clear hA ac hW; rintro ac w9 ⟨h1, hA, hW⟩
 refine thenN <| wp_seq <| wp_cutR (fun ac_ wl_ =>  (x.obj = y.obj) ∧ Fm 71 [] [(2, pA b1 0), (3, pA b3 0), (5, vI .i64 x.kind), (6, vI .i64 y.kind)] ac_ ∧ Ws w No [Cel b3 #[vI .i64 y.g, vI .i64 y.kind, vI .i64 y.site.f, vI .i64 y.site.pc, vI .u32 y.addr, vI .i64 y.child, vI .i64 y.obj, vI .i64 y.n, vI .i64 y.trap] 43, Cel b1 #[vI .i64 x.g, vI .i64 x.kind, vI .i64 x.site.f, vI .i64 x.site.pc, vI .u32 x.addr, vI .i64 x.child, vI .i64 x.obj, vI .i64 x.n, vI .i64 x.trap] 43] [] wl_) ?_ ?_
 ·
  refine wr <| st_p (pA b1 6) hA fun ac hA => st_q (vI .i64 x.obj) hA hW.cls (rl b1 6 1) fun ac hA => st_p (pA b3 6) hA fun ac hA => st_q (vI .i64 y.obj) hA hW.cls (rl b3 6 0) fun ac hA => st_p (vB ((x.obj : Int) != (y.obj : Int))) hA fun ac hA => wn <| wp_cond_split (t := (x.obj : Int) != (y.obj : Int)) (hA.eval (by kernel_rfl)) (fun h10 => ?_) (fun h10 => ?_)
  ·
   have h10 := bne_iff_ne.1 h10
   refine wr <| st_p (vB false) hA ?_; clear hA ac; intro ac hA
   refine wn <| wp_ret <| cutR <| thenR <| r1 (vB false) hA ?_
   clear hA
   exact ⟨retv (congrArg vB (decide_eq_false (by unfold EvLeads; omega)).symm), hW.fr⟩
  have h10 := of_bne_f h10
  refine wp_skip <| cutN ?_
  exact ⟨by omega, hA.sub (by and_intros <;> first | kernel_rfl | trivial), (hW.pick [0, 1] (by decide) rfl).pickG [] rfl⟩
 clear hA ac hW; rintro ac w11 ⟨h2, hA, hW⟩
 refine thenN <| wr <| st_p (vI .i64 x.kind) hA fun ac hA => st_p (vB ((x.kind : Int) == (6 : Int))) hA fun ac hA => st_p (vB ((x.kind : Int) == (6 : Int))) hA fun ac hA => ?_
 rcases Bool.eq_false_or_eq_true ((x.kind : Int) == (6 : Int)) with h12 | h12
 ·
  rw [h12] at hA
  have h12 := eq_of_beq h12
  refine st_p (vI .i64 y.kind) hA fun ac hA => st_p (vB ((y.kind : Int) == (5 : Int))) hA fun ac hA => st_p (vB ((y.kind : Int) == (5 : Int))) hA fun ac hA => st_p (vB ((y.kind : Int) == (5 : Int))) hA fun ac hA => ?_
  rcases Bool.eq_false_or_eq_true ((y.kind : Int) == (5 : Int)) with h13 | h13
  ·
   rw [h13] at hA
   have h13 := eq_of_beq h13
   refine st_k hA fun ac hA => st_k hA fun ac hA => st_k hA fun ac hA => st_k hA fun ac hA => st_k hA fun ac hA => st_k hA fun ac hA => st_k hA fun ac hA => st_k hA fun ac hA => st_k hA fun ac hA => st_k hA fun ac hA => st_p (vB true) hA fun ac hA => st_p (vB true) hA fun ac hA => st_k hA fun ac hA => st_k hA fun ac hA => st_k hA fun ac hA => st_k hA fun ac hA => st_k hA fun ac hA => st_k hA fun ac hA => st_p (vB true) hA fun ac hA => st_p (vB true) hA fun ac hA => st_k hA fun ac hA => st_k hA fun ac hA => st_k hA fun ac hA => st_k hA fun ac hA => st_k hA fun ac hA => st_k hA fun ac hA => st_k hA fun ac hA => st_k hA fun ac hA => st_k hA fun ac hA => st_k hA fun ac hA => st_k hA fun ac hA => st_p (vB true) hA fun ac hA => st_p (vB true) hA fun ac hA => wn <| wp_ret <| r1 (vB true) hA ?_
   clear hA
   exact ⟨retv (congrArg vB (decide_eq_true (by unfold EvLeads; omega)).symm), hW.fr⟩
  rw [h13] at hA
  have h13 := ne_of_beq_false h13
  refine st_p (vI .i64 x.kind) hA fun ac hA => st_p (vB ((x.kind : Int) == (10 : Int))) hA fun ac hA => st_p (vB ((x.kind : Int) == (10 : Int))) hA fun ac hA => ?_
  rcases Bool.eq_false_or_eq_true ((x.kind : Int) == (10 : Int)) with h14 | h14
  ·
   rw [h14] at hA
   have h14 := eq_of_beq h14
   exfalso; clear hA hW; omega
  rw [h14] at hA
  have h14 := ne_of_beq_false h14
  refine st_k hA fun ac hA => st_k hA fun ac hA => st_k hA fun ac hA => st_k hA fun ac hA => st_k hA fun ac hA => st_k hA fun ac hA => st_p (vB false) hA fun ac hA => st_p (vB false) hA fun ac hA => st_p (vB false) hA fun ac hA => st_p (vI .i64 x.kind) hA fun ac hA => st_p (vB ((x.kind : Int) == (8 : Int))) hA fun ac hA => st_p (vB ((x.kind : Int) == (8 : Int))) hA fun ac hA => ?_
  rcases Bool.eq_false_or_eq_true ((x.kind : Int) == (8 : Int)) with h15 | h15
  ·
   rw [h15] at hA
   have h15 := eq_of_beq h15
   exfalso; clear hA hW; omega
  rw [h15] at hA
  have h15 := ne_of_beq_false h15
  refine st_k hA fun ac hA => st_k hA fun ac hA => st_p (vB false) hA fun ac hA => st_p (vB false) hA fun ac hA => st_p (vB false) hA fun ac hA => st_p (vI .i64 x.kind) hA fun ac hA => st_p (vB ((x.kind : Int) == (11 : Int))) hA fun ac hA => st_p (vB ((x.kind : Int) == (11 : Int))) hA fun ac hA => ?_
  rcases Bool.eq_false_or_eq_true ((x.kind : Int) == (11 : Int)) with h16 | h16
  ·
   rw [h16] at hA
   have h16 := eq_of_beq h16
   exfalso; clear hA hW; omega
  rw [h16] at hA
  have h16 := ne_of_beq_false h16
  refine st_k hA fun ac hA => st_k hA fun ac hA => st_k hA fun ac hA => st_p (vB false) hA fun ac hA => st_p (vB false) hA fun ac hA => st_k hA fun ac hA => st_k hA fun ac hA => st_p (vB false) hA fun ac hA => st_p (vB false) hA fun ac hA => st_p (vB false) hA fun ac hA => wn <| wp_ret <| r1 (vB false) hA ?_
  clear hA
  exact ⟨retv (congrArg vB (decide_eq_false (by unfold EvLeads; omega)).symm), hW.fr⟩
 rw [h12] at hA
 have h12 := ne_of_beq_false h12
 refine st_k hA fun ac hA => st_k hA fun ac hA => st_p (vB false) hA fun ac hA => st_p (vB false) hA fun ac hA => st_p (vI .i64 x.kind) hA fun ac hA => st_p (vB ((x.kind : Int) == (10 : Int))) hA fun ac hA => st_p (vB ((x.kind : Int) == (10 : Int))) hA fun ac hA => ?_
 rcases Bool.eq_false_or_eq_true ((x.kind : Int) == (10 : Int)) with h17 | h17
 ·
  rw [h17] at hA
  have h17 := eq_of_beq h17
  refine st_p (vI .i64 y.kind) hA fun ac hA => st_p (vB ((y.kind : Int) == (7 : Int))) hA fun ac hA => st_p (vB ((y.kind : Int) == (7 : Int))) hA fun ac hA => ?_
  rcases Bool.eq_false_or_eq_true ((y.kind : Int) == (7 : Int)) with h18 | h18
  ·
   rw [h18] at hA
   have h18 := eq_of_beq h18
   refine st_k hA fun ac hA => st_k hA fun ac hA => st_p (vB true) hA fun ac hA => st_p (vB true) hA fun ac hA => st_p (vB true) hA fun ac hA => st_p (vB true) hA fun ac hA => st_k hA fun ac hA => st_k hA fun ac hA => st_k hA fun ac hA => st_k hA fun ac hA => st_k hA fun ac hA => st_k hA fun ac hA => st_p (vB true) hA fun ac hA => st_p (vB true) hA fun ac hA => st_k hA fun ac hA => st_k hA fun ac hA => st_k hA fun ac hA => st_k hA fun ac hA => st_k hA fun ac hA => st_k hA fun ac hA => st_k hA fun ac hA => st_k hA fun ac hA => st_k hA fun ac hA => st_k hA fun ac hA => st_k hA fun ac hA => st_p (vB true) hA fun ac hA => st_p (vB true) hA fun ac hA => wn <| wp_ret <| r1 (vB true) hA ?_
   clear hA
   exact ⟨retv (congrArg vB (decide_eq_true (by unfold EvLeads; omega)).symm), hW.fr⟩
  rw [h18] at hA
  have h18 := ne_of_beq_false h18
  refine st_p (vI .i64 y.kind) hA fun ac hA => st_p (vB ((y.kind : Int) == (9 : Int))) hA fun ac hA => st_p (vB ((y.kind : Int) == (9 : Int))) hA fun ac hA => st_p (vB ((y.kind : Int) == (9 : Int))) hA fun ac hA => st_p (vB ((y.kind : Int) == (9 : Int))) hA fun ac hA => st_p (vB ((y.kind : Int) == (9 : Int))) hA fun ac hA => ?_
  rcases Bool.eq_false_or_eq_true ((y.kind : Int) == (9 : Int)) with h19 | h19
  ·
   rw [h19] at hA
   have h19 := eq_of_beq h19
   refine st_k hA fun ac hA => st_k hA fun ac hA => st_k hA fun ac hA => st_k hA fun ac hA => st_k hA fun ac hA => st_k hA fun ac hA => st_p (vB true) hA fun ac hA => st_p (vB true) hA fun ac hA => st_k hA fun ac hA => st_k hA fun ac hA => st_k hA fun ac hA => st_k hA fun ac hA => st_k hA fun ac hA => st_k hA fun ac hA => st_k hA fun ac hA => st_k hA fun ac hA => st_k hA fun ac hA => st_k hA fun ac hA => st_k hA fun ac hA => st_p (vB true) hA fun ac hA => st_p (vB true) hA fun ac hA => wn <| wp_ret <| r1 (vB true) hA ?_
   clear hA
   exact ⟨retv (congrArg vB (decide_eq_true (by unfold EvLeads; omega)).symm), hW.fr⟩
  rw [h19] at hA
  have h19 := ne_of_beq_false h19
  refine st_p (vI .i64 x.kind) hA fun ac hA => st_p (vB ((x.kind : Int) == (8 : Int))) hA fun ac hA => st_p (vB ((x.kind : Int) == (8 : Int))) hA fun ac hA => ?_
  rcases Bool.eq_false_or_eq_true ((x.kind : Int) == (8 : Int)) with h20 | h20
  ·
   rw [h20] at hA
   have h20 := eq_of_beq h20
   exfalso; clear hA hW; omega
  rw [h20] at hA
  have h20 := ne_of_beq_false h20
  refine st_k hA fun ac hA => st_k hA fun ac hA => st_p (vB false) hA fun ac hA => st_p (vB false) hA fun ac hA => st_p (vB false) hA fun ac hA => st_p (vI .i64 x.kind) hA fun ac hA => st_p (vB ((x.kind : Int) == (11 : Int))) hA fun ac hA => st_p (vB ((x.kind : Int) == (11 : Int))) hA fun ac hA => ?_
  rcases Bool.eq_false_or_eq_true ((x.kind : Int) == (11 : Int)) with h21 | h21
  ·
   rw [h21] at hA
   have h21 := eq_of_beq h21
   exfalso; clear hA hW; omega
  rw [h21] at hA
  have h21 := ne_of_beq_false h21
  refine st_k hA fun ac hA => st_k hA fun ac hA => st_k hA fun ac hA => st_p (vB false) hA fun ac hA => st_p (vB false) hA fun ac hA => st_k hA fun ac hA => st_k hA fun ac hA => st_p (vB false) hA fun ac hA => st_p (vB false) hA fun ac hA => st_p (vB false) hA fun ac hA => wn <| wp_ret <| r1 (vB false) hA ?_
  clear hA
  exact ⟨retv (congrArg vB (decide_eq_false (by unfold EvLeads; omega)).symm), hW.fr⟩
 rw [h17] at hA
 have h17 := ne_of_beq_false h17
 refine st_k hA fun ac hA => st_k hA fun ac hA => st_k hA fun ac hA => st_k hA fun ac hA => st_k hA fun ac hA => st_k hA fun ac hA => st_p (vB false) hA fun ac hA => st_p (vB false) hA fun ac hA => st_p (vB false) hA fun ac hA => st_p (vI .i64 x.kind) hA fun ac hA => st_p (vB ((x.kind : Int) == (8 : Int))) hA fun ac hA => st_p (vB ((x.kind : Int) == (8 : Int))) hA fun ac hA => ?_
 rcases Bool.eq_false_or_eq_true ((x.kind : Int) == (8 : Int)) with h22 | h22
 ·
  rw [h22] at hA
  have h22 := eq_of_beq h22
  refine st_p (vI .i64 y.kind) hA fun ac hA => st_p (vB ((y.kind : Int) == (9 : Int))) hA fun ac hA => st_p (vB ((y.kind : Int) == (9 : Int))) hA fun ac hA => st_p (vB ((y.kind : Int) == (9 : Int))) hA fun ac hA => st_p (vB ((y.kind : Int) == (9 : Int))) hA fun ac hA => ?_
  rcases Bool.eq_false_or_eq_true ((y.kind : Int) == (9 : Int)) with h23 | h23
  ·
   rw [h23] at hA
   have h23 := eq_of_beq h23
   refine st_k hA fun ac hA => st_k hA fun ac hA => st_k hA fun ac hA => st_k hA fun ac hA => st_k hA fun ac hA => st_k hA fun ac hA => st_k hA fun ac hA => st_k hA fun ac hA => st_k hA fun ac hA => st_k hA fun ac hA => st_k hA fun ac hA => st_p (vB true) hA fun ac hA => st_p (vB true) hA fun ac hA => wn <| wp_ret <| r1 (vB true) hA ?_
   clear hA
   exact ⟨retv (congrArg vB (decide_eq_true (by unfold EvLeads; omega)).symm), hW.fr⟩
  rw [h23] at hA
  have h23 := ne_of_beq_false h23
  refine st_p (vI .i64 x.kind) hA fun ac hA => st_p (vB ((x.kind : Int) == (11 : Int))) hA fun ac hA => st_p (vB ((x.kind : Int) == (11 : Int))) hA fun ac hA => ?_
  rcases Bool.eq_false_or_eq_true ((x.kind : Int) == (11 : Int)) with h24 | h24
  ·
   rw [h24] at hA
   have h24 := eq_of_beq h24
   exfalso; clear hA hW; omega
  rw [h24] at hA
  have h24 := ne_of_beq_false h24
  refine st_k hA fun ac hA => st_k hA fun ac hA => st_k hA fun ac hA => st_p (vB false) hA fun ac hA => st_p (vB false) hA fun ac hA => st_k hA fun ac hA => st_k hA fun ac hA => st_p (vB false) hA fun ac hA => st_p (vB false) hA fun ac hA => st_p (vB false) hA fun ac hA => wn <| wp_ret <| r1 (vB false) hA ?_
  clear hA
  exact ⟨retv (congrArg vB (decide_eq_false (by unfold EvLeads; omega)).symm), hW.fr⟩
 rw [h22] at hA
 have h22 := ne_of_beq_false h22
 refine st_k hA fun ac hA => st_k hA fun ac hA => st_p (vB false) hA fun ac hA => st_p (vB false) hA fun ac hA => st_p (vB false) hA fun ac hA => st_p (vI .i64 x.kind) hA fun ac hA => st_p (vB ((x.kind : Int) == (11 : Int))) hA fun ac hA => st_p (vB ((x.kind : Int) == (11 : Int))) hA fun ac hA => ?_
 rcases Bool.eq_false_or_eq_true ((x.kind : Int) == (11 : Int)) with h25 | h25
 ·
  rw [h25] at hA
  have h25 := eq_of_beq h25
  refine st_p (pA b1 7) hA fun ac hA => st_q (vI .i64 x.n) hA hW.cls (rl b1 7 1) fun ac hA => st_p (vB (decide ((x.n : Int) < (0 : Int)))) hA fun ac hA => st_p (vB (decide ((x.n : Int) < (0 : Int)))) hA fun ac hA => st_p (vB (decide ((x.n : Int) < (0 : Int)))) hA fun ac hA => ?_
  rcases Bool.eq_false_or_eq_true (decide ((x.n : Int) < (0 : Int))) with h26 | h26
  ·
   rw [h26] at hA
   have h26 := of_decide_eq_true h26
   refine st_p (vI .i64 y.kind) hA fun ac hA => st_p (vB ((y.kind : Int) == (12 : Int))) hA fun ac hA => st_p (vB ((y.kind : Int) == (12 : Int))) hA fun ac hA => st_p (vB ((y.kind : Int) == (12 : Int))) hA fun ac hA => st_p (vB ((y.kind : Int) == (12 : Int))) hA fun ac hA => wn <| wp_ret <| r1 (vB ((y.kind : Int) == (12 : Int))) hA ?_
   clear hA
   refine ⟨retv (congrArg vB ?_), hW.fr⟩
   rcases Bool.eq_false_or_eq_true ((y.kind : Int) == (12 : Int)) with q_ | q_
   · rw [q_]
     have q_ := eq_of_beq q_
     exact (decide_eq_true (by unfold EvLeads; omega)).symm
   · rw [q_]
     have q_ := ne_of_beq_false q_
     exact (decide_eq_false (by unfold EvLeads; omega)).symm
  rw [h26] at hA
  have h26 := of_decide_eq_false h26
  refine st_k hA fun ac hA => st_k hA fun ac hA => st_p (vB false) hA fun ac hA => st_p (vB false) hA fun ac hA => st_p (vB false) hA fun ac hA => wn <| wp_ret <| r1 (vB false) hA ?_
  clear hA
  exact ⟨retv (congrArg vB (decide_eq_false (by unfold EvLeads; omega)).symm), hW.fr⟩
 rw [h25] at hA
 have h25 := ne_of_beq_false h25
 refine st_k hA fun ac hA => st_k hA fun ac hA => st_k hA fun ac hA => st_p (vB false) hA fun ac hA => st_p (vB false) hA fun ac hA => st_k hA fun ac hA => st_k hA fun ac hA => st_p (vB false) hA fun ac hA => st_p (vB false) hA fun ac hA => st_p (vB false) hA fun ac hA => wn <| wp_ret <| r1 (vB false) hA ?_
 clear hA
 exact ⟨retv (congrArg vB (decide_eq_false (by unfold EvLeads; omega)).symm), hW.fr⟩

end Go.Proofs.YtoakhhilmnfpkaaGreatDoor.L
