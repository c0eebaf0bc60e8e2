/- Contracts, walked by program over the engine's laws. -/
import Derived.Test.YtoakhhilmnfpkaaGreatDoorProg
import Derived.Test.YtoakhhilmnfpkaaGreatDoorT28
namespace Go.Proofs.YtoakhhilmnfpkaaGreatDoor.L
open Go.RowKit
open Go.Value renaming int → vI, slice → vS, bool → vB, pointer → vP, func → vF, agg → vA, map → vM, tuple → vT

def wk0 : KSt := kst0
def wM0 : Int → Mk2 := M0
def wL0 : List HitT := []
def wx0 : Event := (⟨0, 4, ⟨0, 0⟩, 0, 1, 0, 0, 0⟩ : Event)
def wk1 : KSt := (comeK 1000 wk0 wx0).1
def wM1 : Int → Mk2 := (comeV 0 (gv wk1 wx0.g) wx0 wM0 wL0 0).1
def wL1 : List HitT := []
set_option maxRecDepth 100000 in
theorem wkc0 : (comeK 1000 wk0 wx0).2.2 = 0 := by decide
set_option maxRecDepth 100000 in
theorem wko0 : wk0.g wx0.g ≠ none → getC (kacc wk0 wx0) wx0.g = getC (gv wk0 wx0.g) wx0.g := by decide
set_option maxRecDepth 100000 in
theorem wvc0 : comeV 0 (gv wk1 wx0.g) wx0 wM0 wL0 0 = (wM1, wL1, 1, (0, 0, []), false) := Prod.ext rfl (by decide)
def wx1 : Event := (⟨0, 3, ⟨0, 1⟩, 5, 0, 0, 0, 0⟩ : Event)
def wk2 : KSt := (comeK 1000 wk1 wx1).1
def wM2 : Int → Mk2 := (comeV 0 (gv wk2 wx1.g) wx1 wM1 wL1 1).1
def wL2 : List HitT := []
set_option maxRecDepth 100000 in
theorem wkc1 : (comeK 1000 wk1 wx1).2.2 = 0 := by decide
set_option maxRecDepth 100000 in
theorem wko1 : wk1.g wx1.g ≠ none → getC (kacc wk1 wx1) wx1.g = getC (gv wk1 wx1.g) wx1.g := by decide
set_option maxRecDepth 100000 in
theorem wvc1 : comeV 0 (gv wk2 wx1.g) wx1 wM1 wL1 1 = (wM2, wL2, 2, (0, 0, []), false) := Prod.ext rfl (by decide)
def wx2 : Event := (⟨1, 2, ⟨1, 2⟩, 5, 0, 0, 0, 0⟩ : Event)
def wk3 : KSt := (comeK 1000 wk2 wx2).1
def wM3 : Int → Mk2 := (comeV 0 (gv wk3 wx2.g) wx2 wM2 wL2 2).1
def wL3 : List HitT := [(2, 5, [⟨0, ⟨0, 1⟩, 3⟩])]
set_option maxRecDepth 100000 in
theorem wkc2 : (comeK 1000 wk2 wx2).2.2 = 0 := by decide
set_option maxRecDepth 100000 in
theorem wko2 : wk2.g wx2.g ≠ none → getC (kacc wk2 wx2) wx2.g = getC (gv wk2 wx2.g) wx2.g := by decide
set_option maxRecDepth 100000 in
theorem wvc2 : comeV 0 (gv wk3 wx2.g) wx2 wM2 wL2 2 = (wM3, wL3, 3, (2, 5, [⟨0, ⟨0, 1⟩, 3⟩]), true) := Prod.ext rfl (by decide)
def wx3 : Event := (⟨0, 3, ⟨0, 3⟩, 5, 0, 0, 0, 0⟩ : Event)
def wk4 : KSt := (comeK 1000 wk3 wx3).1
def wM4 : Int → Mk2 := (comeV 0 (gv wk4 wx3.g) wx3 wM3 wL3 3).1
def wL4 : List HitT := [(2, 5, [⟨0, ⟨0, 1⟩, 3⟩]), (3, 5, [⟨1, ⟨1, 2⟩, 2⟩])]
set_option maxRecDepth 100000 in
theorem wkc3 : (comeK 1000 wk3 wx3).2.2 = 0 := by decide
set_option maxRecDepth 100000 in
theorem wko3 : wk3.g wx3.g ≠ none → getC (kacc wk3 wx3) wx3.g = getC (gv wk3 wx3.g) wx3.g := by decide
set_option maxRecDepth 100000 in
theorem wvc3 : comeV 0 (gv wk4 wx3.g) wx3 wM3 wL3 3 = (wM4, wL4, 4, (3, 5, [⟨1, ⟨1, 2⟩, 2⟩]), true) := Prod.ext rfl (by decide)
def wx4 : Event := (⟨0, 2, ⟨0, 4⟩, 5, 0, 0, 0, 0⟩ : Event)
def wk5 : KSt := (comeK 1000 wk4 wx4).1
def wM5 : Int → Mk2 := (comeV 0 (gv wk5 wx4.g) wx4 wM4 wL4 4).1
def wL5 : List HitT := [(2, 5, [⟨0, ⟨0, 1⟩, 3⟩]), (3, 5, [⟨1, ⟨1, 2⟩, 2⟩])]
set_option maxRecDepth 100000 in
theorem wkc4 : (comeK 1000 wk4 wx4).2.2 = 0 := by decide
set_option maxRecDepth 100000 in
theorem wko4 : wk4.g wx4.g ≠ none → getC (kacc wk4 wx4) wx4.g = getC (gv wk4 wx4.g) wx4.g := by decide
set_option maxRecDepth 100000 in
theorem wvc4 : comeV 0 (gv wk5 wx4.g) wx4 wM4 wL4 4 = (wM5, wL5, 5, (0, 0, []), false) := Prod.ext rfl (by decide)
set_option maxRecDepth 100000 in
theorem wml : trimC (wM5 5).2.1 = [2, 1] ∧ trimC (wM5 5).1.1 = [2] := by decide
def deAcc : List Value → Acc
  | [.int _ a0, .int _ a1, .int _ a2, .int _ a3] => ⟨a0, ⟨a1, a2⟩, a3⟩
  | _ => ⟨0, ⟨0, 0⟩, 0⟩
def wfAcc (x : Acc) : Prop := (Lit.int .i64 x.g).wf = true ∧ (Lit.int .i64 x.s.f).wf = true ∧ (Lit.int .i64 x.s.pc).wf = true ∧ (Lit.int .i64 x.k).wf = true ∧ True
theorem deAcc_ok (cs : List Value) (h : cksOk [.int .i64, .int .i64, .int .i64, .int .i64] cs) : enAcc (deAcc cs) = cs ∧ wfAcc (deAcc cs) := by
  have hl := cksOk_length h
  match cs, hl, h with
  | [c0, c1, c2, c3], _, ⟨⟨_, h0, w0⟩, ⟨_, h1, w1⟩, ⟨_, h2, w2⟩, ⟨_, h3, w3⟩, _⟩ =>
    subst h0 h1 h2 h3
    exact ⟨rfl, w0, w1, w2, w3, trivial⟩
theorem flatAcc {v : Value} (h : cksOk [.int .i64, .int .i64, .int .i64, .int .i64] v.cells.toList) : ∃ x : Acc, v = x.v ∧ wfAcc x := by
  have hl := cksOk_length h
  cases v with
  | agg a => exact ⟨deAcc a.toList, by have := (deAcc_ok _ h).1; have h2 := congrArg List.toArray this; exact congrArg vA (h2.symm), (deAcc_ok _ h).2⟩
  | _ => simp [Value.cells] at hl
set_option maxRecDepth 100000 in
theorem e_at26 (g : Int) (k : Int) (f : Int) (pc : Int) (w : World)  : Calls Tryz.prog 29 #[vI .i64 g, vI .i64 k, vI .i64 f, vI .i64 pc] w (fun e w' => e = .returned ((⟨g, k, ⟨f, pc⟩, 5, 0, 0, 0, 0⟩ : Event).v) ∧ Fr No w w') := by
 refine enter_E 15 Tryz.func29 rfl rfl (by kernel_rfl) (L := [(0, vI .i64 g), (1, vI .i64 k), (2, vI .i64 f), (3, vI .i64 pc)]) (by kernel_rfl) ?_
 intro ac hA
 have hW := Ws.start w No
 refine wr <| st_s hA (Runs.cells (fun b => pA b 0) #[vI .i64 0, vI .i64 0, vI .i64 0, vI .i64 0, vI .u32 0, vI .i64 0, vI .i64 0, vI .i64 0, vI .i64 0] 43 (fun _ => by kernel_rfl) hW ?_); clear hA ac hW; intro b1 w2 hW hb1 hfw2 ac hA
 refine wn <| wr <| st_p (vI .i64 g) hA fun ac hA => st_p (vI .i64 k) hA fun ac hA => st_p (vI .i64 f) hA fun ac hA => st_p (vI .i64 pc) hA fun ac hA => st_p (vA #[vI .i64 f, vI .i64 pc]) hA fun ac hA => st_p (vA #[vI .i64 g, vI .i64 k, vI .i64 f, vI .i64 pc, vI .u32 5, vI .i64 0, vI .i64 0, vI .i64 0, vI .i64 0]) hA fun ac hA => st_s hA (Runs.store (v := vA #[vI .i64 g, vI .i64 k, vI .i64 f, vI .i64 pc, vI .u32 5, vI .i64 0, vI .i64 0, vI .i64 0, vI .i64 0]) (b := b1) (j := 0) (n := 9) (cs' := #[vI .i64 g, vI .i64 k, vI .i64 f, vI .i64 pc, vI .u32 5, vI .i64 0, vI .i64 0, vI .i64 0, vI .i64 0]) (H' := [Cel b1 #[vI .i64 g, vI .i64 k, vI .i64 f, vI .i64 pc, vI .u32 5, vI .i64 0, vI .i64 0, vI .i64 0, vI .i64 0] 43]) (by kernel_rfl) (by kernel_rfl) (by kernel_rfl) (by kernel_rfl) (by kernel_rfl) hW 0 (by rfl) (Nat.le_of_ble_eq_true (by kernel_rfl)) (by kernel_rfl) (by rfl) ?_); clear hA ac hW; intro w3 hW ac hA
 refine wn <| wp_ret <| ret1 (v := vA #[vI .i64 g, vI .i64 k, vI .i64 f, vI .i64 pc, vI .u32 5, vI .i64 0, vI .i64 0, vI .i64 0, vI .i64 0]) (by rfl) hA (Got.cell (b := b1) (i := 0) hA (by kernel_rfl) (by kernel_rfl) (hW.cel 0 rfl) (by kernel_rfl)) ?_
 clear hA
 exact ⟨retv (by rfl), hW.fr⟩

set_option maxHeartbeats 4000000 in
set_option maxRecDepth 100000 in
theorem e_works26  (w : World)  : Calls Tryz.prog 9 #[] w (fun e w' => e = .returned (vB true) ∧ Fr No w w') := by
 refine enter_E 121 Tryz.func9 rfl rfl (by kernel_rfl) (L := []) (by kernel_rfl) ?_
 intro ac hA
 have hW := Ws.start w No
 refine wr <| st_p (vB false) hA ?_; clear hA ac; intro ac hA
 refine wn <| wr <| st_s hA (Runs.call (fun _ => by kernel_rfl) (e_vnew (1000) w (by first | decide | omega | assumption | exact wko0 | exact wko1 | exact wko2 | exact wko3 | exact wko4 | (rw [wml.1]; decide) | (rw [wml.2]; decide))) ?_)
 rintro _ w1 ⟨n2, n3, n4, n5, n6, n7, n8, rfl, hw1_hK, hu_⟩; refine ⟨_, rfl, ?_⟩; replace hW := hW.made hu_; clear hA ac; intro ac hA
 have hW : Ws w No [PlS n2 n3 n4 n5 n6 n7 (1000) kst0 0 n8 ([] : VT26) M0 none 0 ([] : List Hit) 0, nestR innerSV (NV [] n5 n7)] [] w1 := Ws.unpack (hW.pick [0] (by decide) rfl)
 have hW := hW.share 1 rfl (H' := [PlS n2 n3 n4 n5 n6 n7 (1000) kst0 0 n8 ([] : VT26) M0 none 0 ([] : List Hit) 0]) rfl
 refine st_p (vT #[pA n2 0, vI .i64 0]) hA fun ac hA => st_p (pA n2 0) hA fun ac hA => st_p (vI .i64 0) hA fun ac hA => st_p (pA n2 0) hA fun ac hA => st_p (vI .i64 0) hA fun ac hA => wn <| wp_seq ?_
 replace hW : Ws w No [PlS n2 n3 n4 n5 n6 n7 (1000) wk0 0 n8 ([] : VT26) wM0 none 0 ([] : List Hit) 0] [nestR innerSV (NV [] n5 n7)] w1 := hW
 have hok0_ : ClkOk 1000 0 wk0 n5 n7 := hw1_hK; have hpl0_ : PlOk 0 ([] : VT26) wM0 ([] : List Hit) 0 := PlOk.start
 refine wp_region_lit <| st_p (pA n2 0) hA fun ac hA => st_p (vA #[vI .i64 0, vI .i64 4, vI .i64 0, vI .i64 0, vI .u32 0, vI .i64 1, vI .i64 0, vI .i64 0, vI .i64 0]) hA fun ac hA => st_s hA (Runs.call (fun _ => by kernel_rfl) (e_vcome n2 n3 n4 n5 n6 n7 (1000) wk0 0 n8 ([] : VT26) wM0 none 0 ([] : List Hit) 0 (⟨0, 4, (⟨0, 0⟩ : Site), 0, 1, 0, 0, 0⟩ : Event) w1 ((hW).get 0 rfl) ((hW).lt _ (List.mem_of_getElem? (i := 0) rfl)) ((hW).getG 0 rfl) ((hW).gd _ (List.mem_of_getElem? (i := 0) rfl) _ (List.mem_of_getElem? (i := 0) rfl)) (by first | decide | omega | assumption | exact wko0 | exact wko1 | exact wko2 | exact wko3 | exact wko4 | (rw [wml.1]; decide) | (rw [wml.2]; decide)) (by first | decide | omega | assumption | exact wko0 | exact wko1 | exact wko2 | exact wko3 | exact wko4 | (rw [wml.1]; decide) | (rw [wml.2]; decide)) (by first | decide | omega | assumption | exact wko0 | exact wko1 | exact wko2 | exact wko3 | exact wko4 | (rw [wml.1]; decide) | (rw [wml.2]; decide)) (by first | decide | omega | assumption | exact wko0 | exact wko1 | exact wko2 | exact wko3 | exact wko4 | (rw [wml.1]; decide) | (rw [wml.2]; decide)) (by first | decide | omega | assumption | exact wko0 | exact wko1 | exact wko2 | exact wko3 | exact wko4 | (rw [wml.1]; decide) | (rw [wml.2]; decide)) (by first | decide | omega | assumption | exact wko0 | exact wko1 | exact wko2 | exact wko3 | exact wko4 | (rw [wml.1]; decide) | (rw [wml.2]; decide))) ?_)
 rintro _ w9 ⟨u10, u11, u12, u13, u14, u15, u16, u17, u18, u19, u20, u21, u22, u23, u24, Ao25, co26, rfl, hw9_hE, hw9_hV, hw9_hP, hw9_hK, hcco26, hfco26, hnf_, hne_, hu_⟩; refine ⟨_, rfl, ?_⟩; have hW0 := hW; have hW := hW.upd (H' := [PlS n2 n3 n4 u13 n6 u14 (1000) u10 (0 + 1) n8 u15 u16 u18 u19 u17 u20]) 0 rfl hu_ rfl; have hW := hW0.addFromU hW 0 rfl rfl hnf_ (in_cons (in_at 0 rfl) in_nil) hne_
 have hknv27 : ∀ x_ ∈ (NV [] u13 u14), capSV x_ := hw9_hK.cap
 have hW := hW0.addFromU hW 0 rfl rfl hfco26.1 in_nil hfco26.2
 clear hW0 hu_ hnf_ hne_ hfco26 hA ac; intro ac hA
 have q_ := congrArg (fun z_ => z_.2.2) hw9_hE; have q1_ := congrArg Prod.fst hw9_hE; dsimp only at q_ q1_; have q2_ : u12 = 0 := q_.trans wkc0; replace q1_ : u10 = wk1 := q1_; subst q2_ q1_; clear q_
 have r_ := hw9_hV; have r_ := r_.trans (show comeV 0 (gv wk1 _) _ wM0 wL0 0 = _ from wvc0)
 have r1_ : u16 = wM1 := congrArg Prod.fst r_; have hL1_ : List.map hitV u17 = wL1 := congrArg (fun z_ => z_.2.1) r_; have r2_ : u20 = 1 := congrArg (fun z_ => z_.2.2.1) r_; have r3_ : u21 = 0 := congrArg (fun z_ => z_.2.2.2.1.1) r_; have r4_ : u22 = 0 := congrArg (fun z_ => z_.2.2.2.1.2.1) r_; have r5_ : u23 = [] := congrArg (fun z_ => z_.2.2.2.1.2.2) r_; have r6_ : u24 = false := congrArg (fun z_ => z_.2.2.2.2) r_; clear r_; clear hw9_hV; subst r1_ r2_ r3_ r4_ r5_ r6_
 replace hW : Ws w No [PlS n2 n3 n4 u13 n6 u14 (1000) wk1 (0 + 1) n8 u15 wM1 u18 u19 u17 1] [roR Ao25 4 enAcc ([] : List Acc), nestR innerSV (NV [] u13 u14), nestR innerSV (NV [] n5 n7)] w9 := hW
 refine st_p (vT #[vA #[vI .i64 0, vI .u32 0, vS Ao25 (([] : List Acc)).length co26], vB false, vI .i64 0]) hA fun ac hA => st_p (vA #[vI .i64 0, vI .u32 0, vS Ao25 (([] : List Acc)).length co26]) hA fun ac hA => st_p (vB false) hA fun ac hA => st_p (vI .i64 0) hA fun ac hA => st_s hA (Runs.cells (fun b => pA b 0) #[vI .i64 0, vI .u32 0, vS none 0 0] 35 (fun _ => by kernel_rfl) hW ?_); clear hA ac hW; intro b28 w29 hW hb28 hfw29 ac hA
 refine st_s hA (Runs.store (v := vA #[vI .i64 0, vI .u32 0, vS Ao25 (([] : List Acc)).length co26]) (b := b28) (j := 0) (n := 3) (cs' := #[vI .i64 0, vI .u32 0, vS Ao25 (([] : List Acc)).length co26]) (H' := [Cel b28 #[vI .i64 0, vI .u32 0, vS Ao25 (([] : List Acc)).length co26] 35, PlS n2 n3 n4 u13 n6 u14 (1000) wk1 (0 + 1) n8 u15 wM1 u18 u19 u17 1]) (by kernel_rfl) (by kernel_rfl) (by kernel_rfl) (by kernel_rfl) (by kernel_rfl) hW 0 (by rfl) (Nat.le_of_ble_eq_true (by kernel_rfl)) (by kernel_rfl) (by rfl) ?_); clear hA ac hW; intro w30 hW ac hA
 refine st_p (vB false) hA fun ac hA => st_p (vI .i64 0) hA fun ac hA => wn <| wr <| st_p (pA n2 0) hA ?_; clear hA ac; intro ac hA
 refine st_s hA (Runs.callN (v := (⟨0, 3, ⟨0, 1⟩, 5, 0, 0, 0, 0⟩ : Event).v) (fun _ => by kernel_rfl) hW (e_at26 (0) (3) (0) (1) w30) ?_); clear hA ac hW; intro w31 hW hfw31 ac hA
 refine st_s hA (Runs.call (fun _ => by kernel_rfl) (e_vcome n2 n3 n4 u13 n6 u14 (1000) wk1 (0 + 1) n8 u15 wM1 u18 u19 u17 1 (⟨0, 3, ⟨0, 1⟩, 5, 0, 0, 0, 0⟩ : Event) w31 ((hW).get 1 rfl) ((hW).lt _ (List.mem_of_getElem? (i := 1) rfl)) ((hW).getG 1 rfl) ((hW).gd _ (List.mem_of_getElem? (i := 1) rfl) _ (List.mem_of_getElem? (i := 1) rfl)) (by first | decide | omega | assumption | exact wko0 | exact wko1 | exact wko2 | exact wko3 | exact wko4 | (rw [wml.1]; decide) | (rw [wml.2]; decide)) (by first | decide | omega | assumption | exact wko0 | exact wko1 | exact wko2 | exact wko3 | exact wko4 | (rw [wml.1]; decide) | (rw [wml.2]; decide)) (by first | decide | omega | assumption | exact wko0 | exact wko1 | exact wko2 | exact wko3 | exact wko4 | (rw [wml.1]; decide) | (rw [wml.2]; decide)) (by first | decide | omega | assumption | exact wko0 | exact wko1 | exact wko2 | exact wko3 | exact wko4 | (rw [wml.1]; decide) | (rw [wml.2]; decide)) (by first | decide | omega | assumption | exact wko0 | exact wko1 | exact wko2 | exact wko3 | exact wko4 | (rw [wml.1]; decide) | (rw [wml.2]; decide)) (by first | decide | omega | assumption | exact wko0 | exact wko1 | exact wko2 | exact wko3 | exact wko4 | (rw [wml.1]; decide) | (rw [wml.2]; decide))) ?_)
 rintro _ w32 ⟨u33, u34, u35, u36, u37, u38, u39, u40, u41, u42, u43, u44, u45, u46, u47, Ao48, co49, rfl, hw32_hE, hw32_hV, hw32_hP, hw32_hK, hcco49, hfco49, hnf_, hne_, hu_⟩; refine ⟨_, rfl, ?_⟩; have hW0 := hW; have hW := hW.upd (H' := [Cel b28 #[vI .i64 0, vI .u32 0, vS Ao25 (([] : List Acc)).length co26] 35, PlS n2 n3 n4 u36 n6 u37 (1000) u33 ((0 + 1) + 1) n8 u38 u39 u41 u42 u40 u43]) 1 rfl hu_ rfl; have hW := hW0.addFromU hW 1 rfl rfl hnf_ (in_cons (in_at 1 rfl) in_nil) hne_
 have hknv50 : ∀ x_ ∈ (NV [] u36 u37), capSV x_ := hw32_hK.cap
 have hW := hW0.addFromU hW 1 rfl rfl hfco49.1 in_nil hfco49.2
 clear hW0 hu_ hnf_ hne_ hfco49 hA ac; intro ac hA
 have q_ := congrArg (fun z_ => z_.2.2) hw32_hE; have q1_ := congrArg Prod.fst hw32_hE; dsimp only at q_ q1_; have q2_ : u35 = 0 := q_.trans wkc1; replace q1_ : u33 = wk2 := q1_; subst q2_ q1_; clear q_
 have r_ := hw32_hV; rw [hL1_] at r_; have r_ := r_.trans (show comeV 0 (gv wk2 _) _ wM1 wL1 1 = _ from wvc1)
 have r1_ : u39 = wM2 := congrArg Prod.fst r_; have hL2_ : List.map hitV u40 = wL2 := congrArg (fun z_ => z_.2.1) r_; have r2_ : u43 = 2 := congrArg (fun z_ => z_.2.2.1) r_; have r3_ : u44 = 0 := congrArg (fun z_ => z_.2.2.2.1.1) r_; have r4_ : u45 = 0 := congrArg (fun z_ => z_.2.2.2.1.2.1) r_; have r5_ : u46 = [] := congrArg (fun z_ => z_.2.2.2.1.2.2) r_; have r6_ : u47 = false := congrArg (fun z_ => z_.2.2.2.2) r_; clear r_; clear hw32_hV; subst r1_ r2_ r3_ r4_ r5_ r6_
 replace hW : Ws w No [Cel b28 #[vI .i64 0, vI .u32 0, vS Ao25 (([] : List Acc)).length co26] 35, PlS n2 n3 n4 u36 n6 u37 (1000) wk2 ((0 + 1) + 1) n8 u38 wM2 u41 u42 u40 2] [roR Ao48 4 enAcc ([] : List Acc), nestR innerSV (NV [] u36 u37), roR Ao25 4 enAcc ([] : List Acc), nestR innerSV (NV [] u13 u14), nestR innerSV (NV [] n5 n7)] w32 := hW
 refine st_p (vT #[vA #[vI .i64 0, vI .u32 0, vS Ao48 (([] : List Acc)).length co49], vB false, vI .i64 0]) hA fun ac hA => st_p (vA #[vI .i64 0, vI .u32 0, vS Ao48 (([] : List Acc)).length co49]) hA fun ac hA => st_p (vB false) hA fun ac hA => st_p (vI .i64 0) hA fun ac hA => st_s hA (Runs.cells (fun b => pA b 0) #[vI .i64 0, vI .u32 0, vS none 0 0] 35 (fun _ => by kernel_rfl) hW ?_); clear hA ac hW; intro b51 w52 hW hb51 hfw52 ac hA
 refine st_s hA (Runs.store (v := vA #[vI .i64 0, vI .u32 0, vS Ao48 (([] : List Acc)).length co49]) (b := b51) (j := 0) (n := 3) (cs' := #[vI .i64 0, vI .u32 0, vS Ao48 (([] : List Acc)).length co49]) (H' := [Cel b51 #[vI .i64 0, vI .u32 0, vS Ao48 (([] : List Acc)).length co49] 35, Cel b28 #[vI .i64 0, vI .u32 0, vS Ao25 (([] : List Acc)).length co26] 35, PlS n2 n3 n4 u36 n6 u37 (1000) wk2 ((0 + 1) + 1) n8 u38 wM2 u41 u42 u40 2]) (by kernel_rfl) (by kernel_rfl) (by kernel_rfl) (by kernel_rfl) (by kernel_rfl) hW 0 (by rfl) (Nat.le_of_ble_eq_true (by kernel_rfl)) (by kernel_rfl) (by rfl) ?_); clear hA ac hW; intro w53 hW ac hA
 refine st_p (vB false) hA fun ac hA => st_p (vI .i64 0) hA fun ac hA => wn <| wr <| st_p (pA n2 0) hA ?_; clear hA ac; intro ac hA
 refine st_s hA (Runs.callN (v := (⟨1, 2, ⟨1, 2⟩, 5, 0, 0, 0, 0⟩ : Event).v) (fun _ => by kernel_rfl) hW (e_at26 (1) (2) (1) (2) w53) ?_); clear hA ac hW; intro w54 hW hfw54 ac hA
 refine st_s hA (Runs.call (fun _ => by kernel_rfl) (e_vcome n2 n3 n4 u36 n6 u37 (1000) wk2 ((0 + 1) + 1) n8 u38 wM2 u41 u42 u40 2 (⟨1, 2, ⟨1, 2⟩, 5, 0, 0, 0, 0⟩ : Event) w54 ((hW).get 2 rfl) ((hW).lt _ (List.mem_of_getElem? (i := 2) rfl)) ((hW).getG 1 rfl) ((hW).gd _ (List.mem_of_getElem? (i := 1) rfl) _ (List.mem_of_getElem? (i := 2) rfl)) (by first | decide | omega | assumption | exact wko0 | exact wko1 | exact wko2 | exact wko3 | exact wko4 | (rw [wml.1]; decide) | (rw [wml.2]; decide)) (by first | decide | omega | assumption | exact wko0 | exact wko1 | exact wko2 | exact wko3 | exact wko4 | (rw [wml.1]; decide) | (rw [wml.2]; decide)) (by first | decide | omega | assumption | exact wko0 | exact wko1 | exact wko2 | exact wko3 | exact wko4 | (rw [wml.1]; decide) | (rw [wml.2]; decide)) (by first | decide | omega | assumption | exact wko0 | exact wko1 | exact wko2 | exact wko3 | exact wko4 | (rw [wml.1]; decide) | (rw [wml.2]; decide)) (by first | decide | omega | assumption | exact wko0 | exact wko1 | exact wko2 | exact wko3 | exact wko4 | (rw [wml.1]; decide) | (rw [wml.2]; decide)) (by first | decide | omega | assumption | exact wko0 | exact wko1 | exact wko2 | exact wko3 | exact wko4 | (rw [wml.1]; decide) | (rw [wml.2]; decide))) ?_)
 rintro _ w55 ⟨u56, u57, u58, u59, u60, u61, u62, u63, u64, u65, u66, u67, u68, u69, u70, Ao71, co72, rfl, hw55_hE, hw55_hV, hw55_hP, hw55_hK, hcco72, hfco72, hnf_, hne_, hu_⟩; refine ⟨_, rfl, ?_⟩; have hW0 := hW; have hW := hW.upd (H' := [Cel b51 #[vI .i64 0, vI .u32 0, vS Ao48 (([] : List Acc)).length co49] 35, Cel b28 #[vI .i64 0, vI .u32 0, vS Ao25 (([] : List Acc)).length co26] 35, PlS n2 n3 n4 u59 n6 u60 (1000) u56 (((0 + 1) + 1) + 1) n8 u61 u62 u64 u65 u63 u66]) 2 rfl hu_ rfl; have hW := hW0.addFromU hW 2 rfl rfl hnf_ (in_cons (in_at 1 rfl) in_nil) hne_
 have hknv73 : ∀ x_ ∈ (NV [] u59 u60), capSV x_ := hw55_hK.cap
 have hW := hW0.addFromU hW 2 rfl rfl hfco72.1 in_nil hfco72.2
 clear hW0 hu_ hnf_ hne_ hfco72 hA ac; intro ac hA
 have q_ := congrArg (fun z_ => z_.2.2) hw55_hE; have q1_ := congrArg Prod.fst hw55_hE; dsimp only at q_ q1_; have q2_ : u58 = 0 := q_.trans wkc2; replace q1_ : u56 = wk3 := q1_; subst q2_ q1_; clear q_
 have r_ := hw55_hV; rw [hL2_] at r_; have r_ := r_.trans (show comeV 0 (gv wk3 _) _ wM2 wL2 2 = _ from wvc2)
 have r1_ : u62 = wM3 := congrArg Prod.fst r_; have hL3_ : List.map hitV u63 = wL3 := congrArg (fun z_ => z_.2.1) r_; have r2_ : u66 = 3 := congrArg (fun z_ => z_.2.2.1) r_; have r3_ : u67 = 2 := congrArg (fun z_ => z_.2.2.2.1.1) r_; have r4_ : u68 = 5 := congrArg (fun z_ => z_.2.2.2.1.2.1) r_; have r5_ : u69 = [⟨0, ⟨0, 1⟩, 3⟩] := congrArg (fun z_ => z_.2.2.2.1.2.2) r_; have r6_ : u70 = true := congrArg (fun z_ => z_.2.2.2.2) r_; clear r_; clear hw55_hV; subst r1_ r2_ r3_ r4_ r5_ r6_
 replace hW : Ws w No [Cel b51 #[vI .i64 0, vI .u32 0, vS Ao48 (([] : List Acc)).length co49] 35, Cel b28 #[vI .i64 0, vI .u32 0, vS Ao25 (([] : List Acc)).length co26] 35, PlS n2 n3 n4 u59 n6 u60 (1000) wk3 (((0 + 1) + 1) + 1) n8 u61 wM3 u64 u65 u63 3] [roR Ao71 4 enAcc ([⟨0, ⟨0, 1⟩, 3⟩] : List Acc), nestR innerSV (NV [] u59 u60), roR Ao48 4 enAcc ([] : List Acc), nestR innerSV (NV [] u36 u37), roR Ao25 4 enAcc ([] : List Acc), nestR innerSV (NV [] u13 u14), nestR innerSV (NV [] n5 n7)] w55 := hW
 refine st_p (vT #[vA #[vI .i64 2, vI .u32 5, vS Ao71 (([⟨0, ⟨0, 1⟩, 3⟩] : List Acc)).length co72], vB true, vI .i64 0]) hA fun ac hA => st_p (vA #[vI .i64 2, vI .u32 5, vS Ao71 (([⟨0, ⟨0, 1⟩, 3⟩] : List Acc)).length co72]) hA fun ac hA => st_p (vB true) hA fun ac hA => st_p (vI .i64 0) hA fun ac hA => st_s hA (Runs.cells (fun b => pA b 0) #[vI .i64 0, vI .u32 0, vS none 0 0] 35 (fun _ => by kernel_rfl) hW ?_); clear hA ac hW; intro b74 w75 hW hb74 hfw75 ac hA
 refine st_s hA (Runs.store (v := vA #[vI .i64 2, vI .u32 5, vS Ao71 (([⟨0, ⟨0, 1⟩, 3⟩] : List Acc)).length co72]) (b := b74) (j := 0) (n := 3) (cs' := #[vI .i64 2, vI .u32 5, vS Ao71 (([⟨0, ⟨0, 1⟩, 3⟩] : List Acc)).length co72]) (H' := [Cel b74 #[vI .i64 2, vI .u32 5, vS Ao71 (([⟨0, ⟨0, 1⟩, 3⟩] : List Acc)).length co72] 35, Cel b51 #[vI .i64 0, vI .u32 0, vS Ao48 (([] : List Acc)).length co49] 35, Cel b28 #[vI .i64 0, vI .u32 0, vS Ao25 (([] : List Acc)).length co26] 35, PlS n2 n3 n4 u59 n6 u60 (1000) wk3 (((0 + 1) + 1) + 1) n8 u61 wM3 u64 u65 u63 3]) (by kernel_rfl) (by kernel_rfl) (by kernel_rfl) (by kernel_rfl) (by kernel_rfl) hW 0 (by rfl) (Nat.le_of_ble_eq_true (by kernel_rfl)) (by kernel_rfl) (by rfl) ?_); clear hA ac hW; intro w76 hW ac hA
 refine st_p (vB true) hA fun ac hA => st_p (vI .i64 0) hA fun ac hA => wn <| wr <| st_p (pA n2 0) hA ?_; clear hA ac; intro ac hA
 refine st_s hA (Runs.callN (v := (⟨0, 3, ⟨0, 3⟩, 5, 0, 0, 0, 0⟩ : Event).v) (fun _ => by kernel_rfl) hW (e_at26 (0) (3) (0) (3) w76) ?_); clear hA ac hW; intro w77 hW hfw77 ac hA
 refine st_s hA (Runs.call (fun _ => by kernel_rfl) (e_vcome n2 n3 n4 u59 n6 u60 (1000) wk3 (((0 + 1) + 1) + 1) n8 u61 wM3 u64 u65 u63 3 (⟨0, 3, ⟨0, 3⟩, 5, 0, 0, 0, 0⟩ : Event) w77 ((hW).get 3 rfl) ((hW).lt _ (List.mem_of_getElem? (i := 3) rfl)) ((hW).getG 1 rfl) ((hW).gd _ (List.mem_of_getElem? (i := 1) rfl) _ (List.mem_of_getElem? (i := 3) rfl)) (by first | decide | omega | assumption | exact wko0 | exact wko1 | exact wko2 | exact wko3 | exact wko4 | (rw [wml.1]; decide) | (rw [wml.2]; decide)) (by first | decide | omega | assumption | exact wko0 | exact wko1 | exact wko2 | exact wko3 | exact wko4 | (rw [wml.1]; decide) | (rw [wml.2]; decide)) (by first | decide | omega | assumption | exact wko0 | exact wko1 | exact wko2 | exact wko3 | exact wko4 | (rw [wml.1]; decide) | (rw [wml.2]; decide)) (by first | decide | omega | assumption | exact wko0 | exact wko1 | exact wko2 | exact wko3 | exact wko4 | (rw [wml.1]; decide) | (rw [wml.2]; decide)) (by first | decide | omega | assumption | exact wko0 | exact wko1 | exact wko2 | exact wko3 | exact wko4 | (rw [wml.1]; decide) | (rw [wml.2]; decide)) (by first | decide | omega | assumption | exact wko0 | exact wko1 | exact wko2 | exact wko3 | exact wko4 | (rw [wml.1]; decide) | (rw [wml.2]; decide))) ?_)
 rintro _ w78 ⟨u79, u80, u81, u82, u83, u84, u85, u86, u87, u88, u89, u90, u91, u92, u93, Ao94, co95, rfl, hw78_hE, hw78_hV, hw78_hP, hw78_hK, hcco95, hfco95, hnf_, hne_, hu_⟩; refine ⟨_, rfl, ?_⟩; have hW0 := hW; have hW := hW.upd (H' := [Cel b74 #[vI .i64 2, vI .u32 5, vS Ao71 (([⟨0, ⟨0, 1⟩, 3⟩] : List Acc)).length co72] 35, Cel b51 #[vI .i64 0, vI .u32 0, vS Ao48 (([] : List Acc)).length co49] 35, Cel b28 #[vI .i64 0, vI .u32 0, vS Ao25 (([] : List Acc)).length co26] 35, PlS n2 n3 n4 u82 n6 u83 (1000) u79 ((((0 + 1) + 1) + 1) + 1) n8 u84 u85 u87 u88 u86 u89]) 3 rfl hu_ rfl; have hW := hW0.addFromU hW 3 rfl rfl hnf_ (in_cons (in_at 1 rfl) in_nil) hne_
 have hknv96 : ∀ x_ ∈ (NV [] u82 u83), capSV x_ := hw78_hK.cap
 have hW := hW0.addFromU hW 3 rfl rfl hfco95.1 in_nil hfco95.2
 clear hW0 hu_ hnf_ hne_ hfco95 hA ac; intro ac hA
 have q_ := congrArg (fun z_ => z_.2.2) hw78_hE; have q1_ := congrArg Prod.fst hw78_hE; dsimp only at q_ q1_; have q2_ : u81 = 0 := q_.trans wkc3; replace q1_ : u79 = wk4 := q1_; subst q2_ q1_; clear q_
 have r_ := hw78_hV; rw [hL3_] at r_; have r_ := r_.trans (show comeV 0 (gv wk4 _) _ wM3 wL3 3 = _ from wvc3)
 have r1_ : u85 = wM4 := congrArg Prod.fst r_; have hL4_ : List.map hitV u86 = wL4 := congrArg (fun z_ => z_.2.1) r_; have r2_ : u89 = 4 := congrArg (fun z_ => z_.2.2.1) r_; have r3_ : u90 = 3 := congrArg (fun z_ => z_.2.2.2.1.1) r_; have r4_ : u91 = 5 := congrArg (fun z_ => z_.2.2.2.1.2.1) r_; have r5_ : u92 = [⟨1, ⟨1, 2⟩, 2⟩] := congrArg (fun z_ => z_.2.2.2.1.2.2) r_; have r6_ : u93 = true := congrArg (fun z_ => z_.2.2.2.2) r_; clear r_; clear hw78_hV; subst r1_ r2_ r3_ r4_ r5_ r6_
 replace hW : Ws w No [Cel b74 #[vI .i64 2, vI .u32 5, vS Ao71 (([⟨0, ⟨0, 1⟩, 3⟩] : List Acc)).length co72] 35, Cel b51 #[vI .i64 0, vI .u32 0, vS Ao48 (([] : List Acc)).length co49] 35, Cel b28 #[vI .i64 0, vI .u32 0, vS Ao25 (([] : List Acc)).length co26] 35, PlS n2 n3 n4 u82 n6 u83 (1000) wk4 ((((0 + 1) + 1) + 1) + 1) n8 u84 wM4 u87 u88 u86 4] [roR Ao94 4 enAcc ([⟨1, ⟨1, 2⟩, 2⟩] : List Acc), nestR innerSV (NV [] u82 u83), roR Ao71 4 enAcc ([⟨0, ⟨0, 1⟩, 3⟩] : List Acc), nestR innerSV (NV [] u59 u60), roR Ao48 4 enAcc ([] : List Acc), nestR innerSV (NV [] u36 u37), roR Ao25 4 enAcc ([] : List Acc), nestR innerSV (NV [] u13 u14), nestR innerSV (NV [] n5 n7)] w78 := hW
 refine st_p (vT #[vA #[vI .i64 3, vI .u32 5, vS Ao94 (([⟨1, ⟨1, 2⟩, 2⟩] : List Acc)).length co95], vB true, vI .i64 0]) hA fun ac hA => st_p (vA #[vI .i64 3, vI .u32 5, vS Ao94 (([⟨1, ⟨1, 2⟩, 2⟩] : List Acc)).length co95]) hA fun ac hA => st_p (vB true) hA fun ac hA => st_p (vI .i64 0) hA fun ac hA => st_s hA (Runs.cells (fun b => pA b 0) #[vI .i64 0, vI .u32 0, vS none 0 0] 35 (fun _ => by kernel_rfl) hW ?_); clear hA ac hW; intro b97 w98 hW hb97 hfw98 ac hA
 refine st_s hA (Runs.store (v := vA #[vI .i64 3, vI .u32 5, vS Ao94 (([⟨1, ⟨1, 2⟩, 2⟩] : List Acc)).length co95]) (b := b97) (j := 0) (n := 3) (cs' := #[vI .i64 3, vI .u32 5, vS Ao94 (([⟨1, ⟨1, 2⟩, 2⟩] : List Acc)).length co95]) (H' := [Cel b97 #[vI .i64 3, vI .u32 5, vS Ao94 (([⟨1, ⟨1, 2⟩, 2⟩] : List Acc)).length co95] 35, Cel b74 #[vI .i64 2, vI .u32 5, vS Ao71 (([⟨0, ⟨0, 1⟩, 3⟩] : List Acc)).length co72] 35, Cel b51 #[vI .i64 0, vI .u32 0, vS Ao48 (([] : List Acc)).length co49] 35, Cel b28 #[vI .i64 0, vI .u32 0, vS Ao25 (([] : List Acc)).length co26] 35, PlS n2 n3 n4 u82 n6 u83 (1000) wk4 ((((0 + 1) + 1) + 1) + 1) n8 u84 wM4 u87 u88 u86 4]) (by kernel_rfl) (by kernel_rfl) (by kernel_rfl) (by kernel_rfl) (by kernel_rfl) hW 0 (by rfl) (Nat.le_of_ble_eq_true (by kernel_rfl)) (by kernel_rfl) (by rfl) ?_); clear hA ac hW; intro w99 hW ac hA
 refine st_p (vB true) hA fun ac hA => st_p (vI .i64 0) hA fun ac hA => wn <| wr <| st_p (pA n2 0) hA ?_; clear hA ac; intro ac hA
 refine st_s hA (Runs.callN (v := (⟨0, 2, ⟨0, 4⟩, 5, 0, 0, 0, 0⟩ : Event).v) (fun _ => by kernel_rfl) hW (e_at26 (0) (2) (0) (4) w99) ?_); clear hA ac hW; intro w100 hW hfw100 ac hA
 refine st_s hA (Runs.call (fun _ => by kernel_rfl) (e_vcome n2 n3 n4 u82 n6 u83 (1000) wk4 ((((0 + 1) + 1) + 1) + 1) n8 u84 wM4 u87 u88 u86 4 (⟨0, 2, ⟨0, 4⟩, 5, 0, 0, 0, 0⟩ : Event) w100 ((hW).get 4 rfl) ((hW).lt _ (List.mem_of_getElem? (i := 4) rfl)) ((hW).getG 1 rfl) ((hW).gd _ (List.mem_of_getElem? (i := 1) rfl) _ (List.mem_of_getElem? (i := 4) rfl)) (by first | decide | omega | assumption | exact wko0 | exact wko1 | exact wko2 | exact wko3 | exact wko4 | (rw [wml.1]; decide) | (rw [wml.2]; decide)) (by first | decide | omega | assumption | exact wko0 | exact wko1 | exact wko2 | exact wko3 | exact wko4 | (rw [wml.1]; decide) | (rw [wml.2]; decide)) (by first | decide | omega | assumption | exact wko0 | exact wko1 | exact wko2 | exact wko3 | exact wko4 | (rw [wml.1]; decide) | (rw [wml.2]; decide)) (by first | decide | omega | assumption | exact wko0 | exact wko1 | exact wko2 | exact wko3 | exact wko4 | (rw [wml.1]; decide) | (rw [wml.2]; decide)) (by first | decide | omega | assumption | exact wko0 | exact wko1 | exact wko2 | exact wko3 | exact wko4 | (rw [wml.1]; decide) | (rw [wml.2]; decide)) (by first | decide | omega | assumption | exact wko0 | exact wko1 | exact wko2 | exact wko3 | exact wko4 | (rw [wml.1]; decide) | (rw [wml.2]; decide))) ?_)
 rintro _ w101 ⟨u102, u103, u104, u105, u106, u107, u108, u109, u110, u111, u112, u113, u114, u115, u116, Ao117, co118, rfl, hw101_hE, hw101_hV, hw101_hP, hw101_hK, hcco118, hfco118, hnf_, hne_, hu_⟩; refine ⟨_, rfl, ?_⟩; have hW0 := hW; have hW := hW.upd (H' := [Cel b97 #[vI .i64 3, vI .u32 5, vS Ao94 (([⟨1, ⟨1, 2⟩, 2⟩] : List Acc)).length co95] 35, Cel b74 #[vI .i64 2, vI .u32 5, vS Ao71 (([⟨0, ⟨0, 1⟩, 3⟩] : List Acc)).length co72] 35, Cel b51 #[vI .i64 0, vI .u32 0, vS Ao48 (([] : List Acc)).length co49] 35, Cel b28 #[vI .i64 0, vI .u32 0, vS Ao25 (([] : List Acc)).length co26] 35, PlS n2 n3 n4 u105 n6 u106 (1000) u102 (((((0 + 1) + 1) + 1) + 1) + 1) n8 u107 u108 u110 u111 u109 u112]) 4 rfl hu_ rfl; have hW := hW0.addFromU hW 4 rfl rfl hnf_ (in_cons (in_at 1 rfl) in_nil) hne_
 have hknv119 : ∀ x_ ∈ (NV [] u105 u106), capSV x_ := hw101_hK.cap
 have hW := hW0.addFromU hW 4 rfl rfl hfco118.1 in_nil hfco118.2
 clear hW0 hu_ hnf_ hne_ hfco118 hA ac; intro ac hA
 have q_ := congrArg (fun z_ => z_.2.2) hw101_hE; have q1_ := congrArg Prod.fst hw101_hE; dsimp only at q_ q1_; have q2_ : u104 = 0 := q_.trans wkc4; replace q1_ : u102 = wk5 := q1_; subst q2_ q1_; clear q_
 have r_ := hw101_hV; rw [hL4_] at r_; have r_ := r_.trans (show comeV 0 (gv wk5 _) _ wM4 wL4 4 = _ from wvc4)
 have r1_ : u108 = wM5 := congrArg Prod.fst r_; have hL5_ : List.map hitV u109 = wL5 := congrArg (fun z_ => z_.2.1) r_; have r2_ : u112 = 5 := congrArg (fun z_ => z_.2.2.1) r_; have r3_ : u113 = 0 := congrArg (fun z_ => z_.2.2.2.1.1) r_; have r4_ : u114 = 0 := congrArg (fun z_ => z_.2.2.2.1.2.1) r_; have r5_ : u115 = [] := congrArg (fun z_ => z_.2.2.2.1.2.2) r_; have r6_ : u116 = false := congrArg (fun z_ => z_.2.2.2.2) r_; clear r_; clear hw101_hV; subst r1_ r2_ r3_ r4_ r5_ r6_
 replace hW : Ws w No [Cel b97 #[vI .i64 3, vI .u32 5, vS Ao94 (([⟨1, ⟨1, 2⟩, 2⟩] : List Acc)).length co95] 35, Cel b74 #[vI .i64 2, vI .u32 5, vS Ao71 (([⟨0, ⟨0, 1⟩, 3⟩] : List Acc)).length co72] 35, Cel b51 #[vI .i64 0, vI .u32 0, vS Ao48 (([] : List Acc)).length co49] 35, Cel b28 #[vI .i64 0, vI .u32 0, vS Ao25 (([] : List Acc)).length co26] 35, PlS n2 n3 n4 u105 n6 u106 (1000) wk5 (((((0 + 1) + 1) + 1) + 1) + 1) n8 u107 wM5 u110 u111 u109 5] [roR Ao117 4 enAcc ([] : List Acc), nestR innerSV (NV [] u105 u106), roR Ao94 4 enAcc ([⟨1, ⟨1, 2⟩, 2⟩] : List Acc), nestR innerSV (NV [] u82 u83), roR Ao71 4 enAcc ([⟨0, ⟨0, 1⟩, 3⟩] : List Acc), nestR innerSV (NV [] u59 u60), roR Ao48 4 enAcc ([] : List Acc), nestR innerSV (NV [] u36 u37), roR Ao25 4 enAcc ([] : List Acc), nestR innerSV (NV [] u13 u14), nestR innerSV (NV [] n5 n7)] w101 := hW
 refine st_p (vT #[vA #[vI .i64 0, vI .u32 0, vS Ao117 (([] : List Acc)).length co118], vB false, vI .i64 0]) hA fun ac hA => st_p (vA #[vI .i64 0, vI .u32 0, vS Ao117 (([] : List Acc)).length co118]) hA fun ac hA => st_p (vB false) hA fun ac hA => st_p (vI .i64 0) hA fun ac hA => st_s hA (Runs.cells (fun b => pA b 0) #[vI .i64 0, vI .u32 0, vS none 0 0] 35 (fun _ => by kernel_rfl) hW ?_); clear hA ac hW; intro b120 w121 hW hb120 hfw121 ac hA
 refine st_s hA (Runs.store (v := vA #[vI .i64 0, vI .u32 0, vS Ao117 (([] : List Acc)).length co118]) (b := b120) (j := 0) (n := 3) (cs' := #[vI .i64 0, vI .u32 0, vS Ao117 (([] : List Acc)).length co118]) (H' := [Cel b120 #[vI .i64 0, vI .u32 0, vS Ao117 (([] : List Acc)).length co118] 35, Cel b97 #[vI .i64 3, vI .u32 5, vS Ao94 (([⟨1, ⟨1, 2⟩, 2⟩] : List Acc)).length co95] 35, Cel b74 #[vI .i64 2, vI .u32 5, vS Ao71 (([⟨0, ⟨0, 1⟩, 3⟩] : List Acc)).length co72] 35, Cel b51 #[vI .i64 0, vI .u32 0, vS Ao48 (([] : List Acc)).length co49] 35, Cel b28 #[vI .i64 0, vI .u32 0, vS Ao25 (([] : List Acc)).length co26] 35, PlS n2 n3 n4 u105 n6 u106 (1000) wk5 (((((0 + 1) + 1) + 1) + 1) + 1) n8 u107 wM5 u110 u111 u109 5]) (by kernel_rfl) (by kernel_rfl) (by kernel_rfl) (by kernel_rfl) (by kernel_rfl) hW 0 (by rfl) (Nat.le_of_ble_eq_true (by kernel_rfl)) (by kernel_rfl) (by rfl) ?_); clear hA ac hW; intro w122 hW ac hA
 refine st_p (vB false) hA fun ac hA => st_p (vI .i64 0) hA fun ac hA => wn <| wr <| st_p (vI .i64 0) hA ?_; clear hA ac; intro ac hA
 refine st_s hA (Runs.callN (v := vI .i64 (0)) (fun _ => by kernel_rfl) hW (e_num (0) w122) ?_); clear hA ac hW; intro w123 hW hfw123 ac hA
 refine st_p (vI .i64 0) hA ?_; clear hA ac; intro ac hA
 refine st_s hA (Runs.callN (v := vI .i64 (0)) (fun _ => by kernel_rfl) hW (e_num (0) w123) ?_); clear hA ac hW; intro w124 hW hfw124 ac hA
 refine st_q (vI .i64 (((0) : Int) + (0))) hA hW.cls (Rd.pureE (v0 := vI .i64 (IntKind.i64.wrap (((0) : Int) + (0)))) (fun _ => by kernel_rfl) (congrArg (vI .i64) ((w_i64 (x := ((0) : Int) + (0)) (by omega) (by omega)).trans (by omega)))) fun ac hA => st_p (vI .i64 0) hA fun ac hA => st_s hA (Runs.callN (v := vI .i64 (0)) (fun _ => by kernel_rfl) hW (e_num (0) w124) ?_); clear hA ac hW; intro w125 hW hfw125 ac hA
 refine st_q (vI .i64 ((((0) : Int) + (0) : Int) + (0))) hA hW.cls (Rd.pureE (v0 := vI .i64 (IntKind.i64.wrap ((((0) : Int) + (0) : Int) + (0)))) (fun _ => by kernel_rfl) (congrArg (vI .i64) ((w_i64 (x := (((0) : Int) + (0) : Int) + (0)) (by omega) (by omega)).trans (by omega)))) fun ac hA => st_p (vI .i64 0) hA fun ac hA => st_s hA (Runs.callN (v := vI .i64 (0)) (fun _ => by kernel_rfl) hW (e_num (0) w125) ?_); clear hA ac hW; intro w126 hW hfw126 ac hA
 refine st_q (vI .i64 (((((0) : Int) + (0) : Int) + (0) : Int) + (0))) hA hW.cls (Rd.pureE (v0 := vI .i64 (IntKind.i64.wrap (((((0) : Int) + (0) : Int) + (0) : Int) + (0)))) (fun _ => by kernel_rfl) (congrArg (vI .i64) ((w_i64 (x := ((((0) : Int) + (0) : Int) + (0) : Int) + (0)) (by omega) (by omega)).trans (by omega)))) fun ac hA => st_p (vI .i64 0) hA fun ac hA => st_s hA (Runs.callN (v := vI .i64 (0)) (fun _ => by kernel_rfl) hW (e_num (0) w126) ?_); clear hA ac hW; intro w127 hW hfw127 ac hA
 refine st_q (vI .i64 ((((((0) : Int) + (0) : Int) + (0) : Int) + (0) : Int) + (0))) hA hW.cls (Rd.pureE (v0 := vI .i64 (IntKind.i64.wrap ((((((0) : Int) + (0) : Int) + (0) : Int) + (0) : Int) + (0)))) (fun _ => by kernel_rfl) (congrArg (vI .i64) ((w_i64 (x := (((((0) : Int) + (0) : Int) + (0) : Int) + (0) : Int) + (0)) (by omega) (by omega)).trans (by omega)))) fun ac hA => st_p (vI .i64 0) hA fun ac hA => st_s hA (Runs.callN (v := vI .i64 (0)) (fun _ => by kernel_rfl) hW (e_num (0) w127) ?_); clear hA ac hW; intro w128 hW hfw128 ac hA
 refine st_q (vI .i64 (((((((0) : Int) + (0) : Int) + (0) : Int) + (0) : Int) + (0) : Int) + (0))) hA hW.cls (Rd.pureE (v0 := vI .i64 (IntKind.i64.wrap (((((((0) : Int) + (0) : Int) + (0) : Int) + (0) : Int) + (0) : Int) + (0)))) (fun _ => by kernel_rfl) (congrArg (vI .i64) ((w_i64 (x := ((((((0) : Int) + (0) : Int) + (0) : Int) + (0) : Int) + (0) : Int) + (0)) (by omega) (by omega)).trans (by omega)))) fun ac hA => st_p (vB ((((((((0) : Int) + (0) : Int) + (0) : Int) + (0) : Int) + (0) : Int) + (0) : Int) == (0 : Int))) hA fun ac hA => st_p (vB ((((((((0) : Int) + (0) : Int) + (0) : Int) + (0) : Int) + (0) : Int) + (0) : Int) == (0 : Int))) hA fun ac hA => ?_
 rcases Bool.eq_false_or_eq_true ((((((((0) : Int) + (0) : Int) + (0) : Int) + (0) : Int) + (0) : Int) + (0) : Int) == (0 : Int)) with h129 | h129
 ·
  rw [h129] at hA
  have h129 := eq_of_beq h129
  refine st_p (vB false) hA fun ac hA => st_p (vB true) hA fun ac hA => st_p (vB true) hA fun ac hA => st_p (vB true) hA fun ac hA => st_p (vB false) hA fun ac hA => st_p (vB true) hA fun ac hA => st_p (vB true) hA fun ac hA => st_p (vB true) hA fun ac hA => st_p (vB true) hA fun ac hA => st_p (vB true) hA fun ac hA => st_p (vB true) hA fun ac hA => st_p (vB true) hA fun ac hA => st_p (vB true) hA fun ac hA => st_p (vB true) hA fun ac hA => st_p (vB false) hA fun ac hA => st_p (vB true) hA fun ac hA => st_p (vB true) hA fun ac hA => st_p (vB true) hA fun ac hA => st_q (vA #[vI .i64 2, vI .u32 5, vS Ao71 (([⟨0, ⟨0, 1⟩, 3⟩] : List Acc)).length co72]) hA hW.cls (rl b74 0 2) fun ac hA => st_p (vA #[vI .i64 0, vI .i64 1]) hA fun ac hA => st_p (vA #[vI .i64 0, vI .i64 0, vI .i64 1, vI .i64 3]) hA fun ac hA => st_s hA (Runs.cells (fun b => vS (some ⟨b, 0, none⟩) 1 1) #[vI .i64 0, vI .i64 0, vI .i64 1, vI .i64 3] 52 (fun _ => by kernel_rfl) hW ?_); clear hA ac hW; intro b130 w131 hW hb130 hfw131 ac hA
  refine st_p (vA #[vI .i64 2, vI .u32 5, vS (some ⟨b130, 0, none⟩) 1 1]) hA ?_; clear hA ac; intro ac hA
  refine st_s hA (Runs.callN (v := vB (decide ((2) = (2) ∧ (5) = (5) ∧ ([⟨0, ⟨0, 1⟩, 3⟩] : List Acc) = ([(⟨0, (⟨0, 1⟩ : Site), 3⟩ : Acc)] : List Acc)))) (fun _ => by kernel_rfl) hW (e_r26same (2) (5) Ao71 co72 ([⟨0, ⟨0, 1⟩, 3⟩] : List Acc) (2) (5) (some ⟨b130, 0, none⟩) 1 ([(⟨0, (⟨0, 1⟩ : Site), 3⟩ : Acc)] : List Acc) w131 ((hW).getG 4 rfl) (by first | assumption | omega | (simp; omega) | simp) (rowAt_cel ((hW).cel 0 rfl) ([(⟨0, (⟨0, 1⟩ : Site), 3⟩ : Acc)] : List Acc) (by rfl) elt_Acc.len) (by first | assumption | omega | (simp; omega) | simp) (by first | decide | omega | assumption | exact wko0 | exact wko1 | exact wko2 | exact wko3 | exact wko4 | (rw [wml.1]; decide) | (rw [wml.2]; decide)) (by first | decide | omega | assumption | exact wko0 | exact wko1 | exact wko2 | exact wko3 | exact wko4 | (rw [wml.1]; decide) | (rw [wml.2]; decide))) ?_); clear hA ac hW; intro w132 hW hfw132 ac hA
  refine st_p (vB (decide ((2) = (2) ∧ (5) = (5) ∧ ([⟨0, ⟨0, 1⟩, 3⟩] : List Acc) = ([(⟨0, (⟨0, 1⟩ : Site), 3⟩ : Acc)] : List Acc)))) hA fun ac hA => st_p (vB (decide ((2) = (2) ∧ (5) = (5) ∧ ([⟨0, ⟨0, 1⟩, 3⟩] : List Acc) = ([(⟨0, (⟨0, 1⟩ : Site), 3⟩ : Acc)] : List Acc)))) hA fun ac hA => ?_
  rcases Bool.eq_false_or_eq_true (decide ((2) = (2) ∧ (5) = (5) ∧ ([⟨0, ⟨0, 1⟩, 3⟩] : List Acc) = ([(⟨0, (⟨0, 1⟩ : Site), 3⟩ : Acc)] : List Acc))) with h133 | h133
  ·
   rw [h133] at hA
   have h133 := of_decide_eq_true h133
   refine st_q (vA #[vI .i64 3, vI .u32 5, vS Ao94 (([⟨1, ⟨1, 2⟩, 2⟩] : List Acc)).length co95]) hA hW.cls (rl b97 0 2) fun ac hA => st_p (vA #[vI .i64 1, vI .i64 2]) hA fun ac hA => st_p (vA #[vI .i64 1, vI .i64 1, vI .i64 2, vI .i64 2]) hA fun ac hA => st_s hA (Runs.cells (fun b => vS (some ⟨b, 0, none⟩) 1 1) #[vI .i64 1, vI .i64 1, vI .i64 2, vI .i64 2] 52 (fun _ => by kernel_rfl) hW ?_); clear hA ac hW; intro b134 w135 hW hb134 hfw135 ac hA
   refine st_p (vA #[vI .i64 3, vI .u32 5, vS (some ⟨b134, 0, none⟩) 1 1]) hA ?_; clear hA ac; intro ac hA
   refine st_s hA (Runs.callN (v := vB (decide ((3) = (3) ∧ (5) = (5) ∧ ([⟨1, ⟨1, 2⟩, 2⟩] : List Acc) = ([(⟨1, (⟨1, 2⟩ : Site), 2⟩ : Acc)] : List Acc)))) (fun _ => by kernel_rfl) hW (e_r26same (3) (5) Ao94 co95 ([⟨1, ⟨1, 2⟩, 2⟩] : List Acc) (3) (5) (some ⟨b134, 0, none⟩) 1 ([(⟨1, (⟨1, 2⟩ : Site), 2⟩ : Acc)] : List Acc) w135 ((hW).getG 2 rfl) (by first | assumption | omega | (simp; omega) | simp) (rowAt_cel ((hW).cel 0 rfl) ([(⟨1, (⟨1, 2⟩ : Site), 2⟩ : Acc)] : List Acc) (by rfl) elt_Acc.len) (by first | assumption | omega | (simp; omega) | simp) (by first | decide | omega | assumption | exact wko0 | exact wko1 | exact wko2 | exact wko3 | exact wko4 | (rw [wml.1]; decide) | (rw [wml.2]; decide)) (by first | decide | omega | assumption | exact wko0 | exact wko1 | exact wko2 | exact wko3 | exact wko4 | (rw [wml.1]; decide) | (rw [wml.2]; decide))) ?_); clear hA ac hW; intro w136 hW hfw136 ac hA
   refine st_p (vB (decide ((3) = (3) ∧ (5) = (5) ∧ ([⟨1, ⟨1, 2⟩, 2⟩] : List Acc) = ([(⟨1, (⟨1, 2⟩ : Site), 2⟩ : Acc)] : List Acc)))) hA fun ac hA => st_p (vB (decide ((3) = (3) ∧ (5) = (5) ∧ ([⟨1, ⟨1, 2⟩, 2⟩] : List Acc) = ([(⟨1, (⟨1, 2⟩ : Site), 2⟩ : Acc)] : List Acc)))) hA fun ac hA => ?_
   rcases Bool.eq_false_or_eq_true (decide ((3) = (3) ∧ (5) = (5) ∧ ([⟨1, ⟨1, 2⟩, 2⟩] : List Acc) = ([(⟨1, (⟨1, 2⟩ : Site), 2⟩ : Acc)] : List Acc))) with h137 | h137
   ·
    rw [h137] at hA
    have h137 := of_decide_eq_true h137
    refine st_p (pA n2 0) hA ?_; clear hA ac; intro ac hA
    refine st_s hA (Runs.callRow (E := 29) (sz := 1) (en := enU8) (l := (trimC (wM5 (5)).2.1)) (fun _ => by kernel_rfl) hW (e_vloads n2 n3 n4 u105 n6 u106 (1000) wk5 (((((0 + 1) + 1) + 1) + 1) + 1) n8 u107 wM5 u110 u111 u109 5 (5) w136 ((hW).get 7 rfl) ((hW).lt _ (List.mem_of_getElem? (i := 7) rfl)) (by first | decide | omega | assumption | exact wko0 | exact wko1 | exact wko2 | exact wko3 | exact wko4 | (rw [wml.1]; decide) | (rw [wml.2]; decide))) ?_); clear hA ac hW; intro A139 c140 w138 hW hcc140 hfw138 ac hA
    refine st_s hA (Runs.cells (fun b => vS (some ⟨b, 0, none⟩) 2 2) #[vI .u64 2, vI .u64 1] 29 (fun _ => by kernel_rfl) hW ?_); clear hA ac hW; intro b142 w143 hW hb142 hfw143 ac hA
    refine st_s hA (Runs.callN (v := vB (decide (trimC (wM5 (5)).2.1 = ([2, 1] : List Int)))) (fun _ => by kernel_rfl) hW (e_r4equal A139 c140 (trimC (wM5 (5)).2.1) (some ⟨b142, 0, none⟩) 2 ([2, 1] : List Int) w143 (rowR_at ((hW).get 1 rfl) elt_U8.len) (own_cap ((hW).get 1 rfl)) (rowAt_cel ((hW).cel 0 rfl) ([2, 1] : List Int) (by rfl) elt_U8.len) (by first | assumption | omega | (simp; omega) | simp) (by first | decide | omega | assumption | exact wko0 | exact wko1 | exact wko2 | exact wko3 | exact wko4 | (rw [wml.1]; decide) | (rw [wml.2]; decide)) (by first | decide | omega | assumption | exact wko0 | exact wko1 | exact wko2 | exact wko3 | exact wko4 | (rw [wml.1]; decide) | (rw [wml.2]; decide))) ?_); clear hA ac hW; intro w144 hW hfw144 ac hA
    refine st_p (vB (decide (trimC (wM5 (5)).2.1 = ([2, 1] : List Int)))) hA fun ac hA => st_p (vB (decide (trimC (wM5 (5)).2.1 = ([2, 1] : List Int)))) hA fun ac hA => ?_
    rcases Bool.eq_false_or_eq_true (decide (trimC (wM5 (5)).2.1 = ([2, 1] : List Int))) with h145 | h145
    ·
     rw [h145] at hA
     refine st_p (pA n2 0) hA ?_; clear hA ac; intro ac hA
     refine st_s hA (Runs.callRow (E := 29) (sz := 1) (en := enU8) (l := (trimC (wM5 (5)).1.1)) (fun _ => by kernel_rfl) hW (e_vstores n2 n3 n4 u105 n6 u106 (1000) wk5 (((((0 + 1) + 1) + 1) + 1) + 1) n8 u107 wM5 u110 u111 u109 5 (5) w144 ((hW).get 9 rfl) ((hW).lt _ (List.mem_of_getElem? (i := 9) rfl)) (by first | decide | omega | assumption | exact wko0 | exact wko1 | exact wko2 | exact wko3 | exact wko4 | (rw [wml.1]; decide) | (rw [wml.2]; decide))) ?_); clear hA ac hW; intro A147 c148 w146 hW hcc148 hfw146 ac hA
     refine st_s hA (Runs.cells (fun b => vS (some ⟨b, 0, none⟩) 1 1) #[vI .u64 2] 29 (fun _ => by kernel_rfl) hW ?_); clear hA ac hW; intro b150 w151 hW hb150 hfw151 ac hA
     refine st_s hA (Runs.callN (v := vB (decide (trimC (wM5 (5)).1.1 = ([2] : List Int)))) (fun _ => by kernel_rfl) hW (e_r4equal A147 c148 (trimC (wM5 (5)).1.1) (some ⟨b150, 0, none⟩) 1 ([2] : List Int) w151 (rowR_at ((hW).get 1 rfl) elt_U8.len) (own_cap ((hW).get 1 rfl)) (rowAt_cel ((hW).cel 0 rfl) ([2] : List Int) (by rfl) elt_U8.len) (by first | assumption | omega | (simp; omega) | simp) (by first | decide | omega | assumption | exact wko0 | exact wko1 | exact wko2 | exact wko3 | exact wko4 | (rw [wml.1]; decide) | (rw [wml.2]; decide)) (by first | decide | omega | assumption | exact wko0 | exact wko1 | exact wko2 | exact wko3 | exact wko4 | (rw [wml.1]; decide) | (rw [wml.2]; decide))) ?_); clear hA ac hW; intro w152 hW hfw152 ac hA
     refine st_p (vB (decide (trimC (wM5 (5)).1.1 = ([2] : List Int)))) hA fun ac hA => st_p (vB (decide (trimC (wM5 (5)).1.1 = ([2] : List Int)))) hA fun ac hA => wn <| wp_ret <| r1 (vB (decide (trimC (wM5 (5)).1.1 = ([2] : List Int)))) hA ?_
     clear hA
     exact ⟨retv (by rfl), hW.fr⟩
    rw [h145] at hA
    exfalso; clear hA hW; exact absurd (by first | decide | exact wml.1 | exact wml.2) (of_decide_eq_false h145)
   rw [h137] at hA
   have h137 := of_decide_eq_false h137
   exfalso; clear hA hW; exact absurd (by first | decide | exact wml.1 | exact wml.2) h137
  rw [h133] at hA
  have h133 := of_decide_eq_false h133
  exfalso; clear hA hW; exact absurd (by first | decide | exact wml.1 | exact wml.2) h133
 rw [h129] at hA
 have h129 := ne_of_beq_false h129
 exfalso; clear hA hW; omega

end Go.Proofs.YtoakhhilmnfpkaaGreatDoor.L
