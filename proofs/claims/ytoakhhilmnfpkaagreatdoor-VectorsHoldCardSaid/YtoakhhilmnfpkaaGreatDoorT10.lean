/- Contracts, walked by program over the engine's laws. -/
import Derived.Test.YtoakhhilmnfpkaaGreatDoorProg
import Derived.Test.YtoakhhilmnfpkaaGreatDoorT9
namespace Go.Proofs.YtoakhhilmnfpkaaGreatDoor.L
open Go.RowKit
open Go.Value renaming int → vI, slice → vS, bool → vB, pointer → vP, func → vF, agg → vA, map → vM, tuple → vT

theorem Ws.celNest {w0 w : World} {S : Nat → Prop} {H G : List Res} (h : Ws w0 S H G w) (i : Nat) {b : Nat} {T : TypeId} (n g : Int) (hi : H[i]? = some (Cel b #[.int .u64 n] T)) {H' : List Res} (hH : H.set i (nestR innerSV (NV [] (put [] g (⟨[n], some ⟨b, 0, none⟩, 1⟩ : SV)) [])) = H') : Ws w0 S H' G w := by
  have hp := h.cel i hi
  have hin : ∀ x ∈ NV [] (put [] g (⟨[n], some ⟨b, 0, none⟩, 1⟩ : SV)) [], x = nilSV ∨ x = ⟨[n], some ⟨b, 0, none⟩, 1⟩ := fun x hx => by
    rcases mem_nv.1 hx with q | q | q | q
    · exact .inl q
    · cases q
    · simp [put] at q; exact .inr q
    · cases q
  refine h.turn i hi (Fr.refl _ w) (r' := nestR innerSV (NV [] (put [] g (⟨[n], some ⟨b, 0, none⟩, 1⟩ : SV)) [])) (nest_p.2 fun x hx => ?_) (fun y hy => ?_) hH
  · rcases hin x hx with rfl | rfl
    · exact .inl rfl
    · exact rowAt_cel hp [n] rfl elt_U8.len
  · obtain ⟨x, hx, hb⟩ := nest_fp.1 hy
    rcases hin x hx with rfl | rfl
    · simp [innerSV, roR, nilSV] at hb
    · have hb' : y ∈ (Cel b #[.int .u64 n] T).fp := by simpa [innerSV, roR, Cel] using hb
      exact ⟨.inl hb', h.lt _ (List.mem_of_getElem? hi) y hb'⟩
theorem ClkOk.new {en : Int} (h1 : 1 ≤ en) (h2 : en ≤ 281474976710655) {A : Option Addr} {c : Nat} (hc : 1 ≤ c) : ClkOk en 0 kst0 (put [] 0 (⟨[1], A, c⟩ : SV)) [] := by
  have hin : ∀ x ∈ NV [] (put [] 0 (⟨[1], A, c⟩ : SV)) [], x = nilSV ∨ x = ⟨[1], A, c⟩ := fun x hx => by
    rcases mem_nv.1 hx with q | q | q | q
    · exact .inl q
    · cases q
    · simp [put] at q; exact .inr q
    · cases q
  refine ⟨h1, h2, fun i => ?_, fun _ _ => rfl, fun x hx => ?_, fun x hx => ?_, fun x hx => ?_, fun i h => ?_⟩
  · rw [look_put]; unfold kst0; simp only
    by_cases q : (0 : Int) = i
    · rw [if_pos q, if_pos q.symm]; rfl
    · rw [if_neg q, if_neg (fun e => q e.symm)]; rfl
  · rcases hin x hx with rfl | rfl
    · exact Nat.le_refl _
    · exact hc
  · rcases hin x hx with rfl | rfl
    · exact ⟨by decide, by simp [nilSV]⟩
    · exact ⟨by show (1 : Nat) ≤ 65536; decide, by simp⟩
  · rcases hin x hx with rfl | rfl <;> rfl
  · unfold kst0 at h; simp only at h
    by_cases q : i = 0
    · omega
    · rw [if_neg q] at h; exact absurd rfl h
set_option maxRecDepth 100000 in
theorem e_knew (en : Int) (w : World) (hen : 1 ≤ en ∧ en ≤ 281474976710655) : Calls Tryz.prog 31 #[vI .u64 en] w (fun e w' => ∃ m : Nat, ∃ bg : Nat, ∃ G : List (Int × SV), ∃ bt : Nat, ∃ T : List (Thing × SV), e = .returned (vT #[pA m 0, vI .i64 0]) ∧ (ClkOk en 0 kst0 G T) ∧ Made (ClkR m bg G bt T en kst0 0) w w') := by
 have _hu := hen; clear _hu
 refine enter_E 18 Tryz.func31 rfl rfl (by kernel_rfl) (L := [(0, vI .u64 en)]) (by kernel_rfl) ?_
 intro ac hA
 have hW := Ws.start w No
 refine wr <| st_p (vP none) hA fun ac hA => st_p (vI .i64 0) hA fun ac hA => wn <| wp_seq <| wr <| st_p (vI .u64 en) hA fun ac hA => st_p (vB (decide ((en : Int) < (1 : Int)))) hA fun ac hA => st_p (vB (decide ((en : Int) < (1 : Int)))) hA fun ac hA => ?_
 rcases Bool.eq_false_or_eq_true (decide ((en : Int) < (1 : Int))) with h1 | h1
 ·
  rw [h1] at hA
  have h1 := of_decide_eq_true h1
  exfalso; clear hA hW; omega
 rw [h1] at hA
 have h1 := of_decide_eq_false h1
 refine st_p (vI .u64 en) hA fun ac hA => st_p (vB (decide ((en : Int) > (281474976710655 : Int)))) hA fun ac hA => st_p (vB (decide ((en : Int) > (281474976710655 : Int)))) hA fun ac hA => wn <| wp_cond_split (t := decide ((en : Int) > (281474976710655 : Int))) (hA.eval (by kernel_rfl)) (fun h2 => ?_) (fun h2 => ?_)
 ·
  have h2 := of_decide_eq_true h2
  exfalso; clear hA hW; omega
 have h2 := of_decide_eq_false h2
 refine wp_skip <| thenN <| wr <| st_s hA (Runs.makeMap (fun a : Int => vI .i64 a) SV.v hW ?_); clear hA ac hW; intro b3 w4 hW hb3 hfw4 ac hA
 refine st_s hA (Runs.cells (fun b => vS (some ⟨b, 0, none⟩) 1 1) #[vI .u64 1] 29 (fun _ => by kernel_rfl) hW ?_); clear hA ac hW; intro b5 w6 hW hb5 hfw6 ac hA
 refine st_s hA (Runs.insert (k := 3) (e := 81) (ek := (fun a : Int => vI .i64 a)) (ev := SV.v) (m := ([])) (0 : Int) (⟨([1] : List Int), (some ⟨b5, 0, none⟩), 1⟩ : SV) (by kernel_rfl) (by kernel_rfl) (by kernel_rfl) (KeyE.int (by kernel_rfl)) (by kernel_rfl) hW (i := 1) rfl ?_); clear hA ac hW; intro w7 hW ac hA
 refine st_p (vM (some b3)) hA ?_; clear hA ac; intro ac hA
 refine st_s hA (Runs.makeMap Thing.v SV.v hW ?_); clear hA ac hW; intro b8 w9 hW hb8 hfw9 ac hA
 refine st_p (vA #[vM (some b3), vM (some b8)]) hA fun ac hA => st_p (vI .u64 en) hA fun ac hA => st_p (vA #[vM (some b3), vM (some b8), vI .u64 en]) hA fun ac hA => st_s hA (Runs.cells (fun b => pA b 0) #[vM (some b3), vM (some b8), vI .u64 en] 156 (fun _ => by kernel_rfl) hW ?_); clear hA ac hW; intro b10 w11 hW hb10 hfw11 ac hA
 refine st_p (pA b10 0) hA fun ac hA => st_p (vI .i64 0) hA fun ac hA => wn <| wp_ret <| ret2 (v1 := pA b10 0) (v2 := vI .i64 0) (by rfl) hA (Got.tmp hA (by kernel_rfl) (by kernel_rfl)) (Got.tmp hA (by kernel_rfl) (by kernel_rfl)) ?_
 clear hA
 have hW := Ws.celNest (H' := [Cel b10 #[vM (some b3), vM (some b8), vI .u64 en] 156, mapR b8 Thing.v SV.v ([]), nestR innerSV (NV [] (put [] 0 (⟨[1], some ⟨b5, 0, none⟩, 1⟩ : SV)) []), mapR b3 (fun a : Int => vI .i64 a) SV.v (put ([]) (0 : Int) (⟨([1] : List Int), (some ⟨b5, 0, none⟩), 1⟩ : SV))]) hW 2 1 0 rfl rfl
 have hW : Ws w No [ClkR b10 b3 (put [] 0 (⟨[1], some ⟨b5, 0, none⟩, 1⟩ : SV)) b8 ([]) en kst0 0] [] w11 := Ws.pack (K := []) (hW.pick [0, 3, 1, 2] (by decide) rfl)
 exact ⟨b10, b3, put [] 0 (⟨[1], some ⟨b5, 0, none⟩, 1⟩ : SV), b8, [], rfl, ClkOk.new (by omega) (by omega) (by decide), hW.madeDone 0 rfl⟩

end Go.Proofs.YtoakhhilmnfpkaaGreatDoor.L
