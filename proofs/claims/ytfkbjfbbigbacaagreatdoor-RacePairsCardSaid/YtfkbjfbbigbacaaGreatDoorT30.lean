/- Contracts, walked by program over the engine's laws. -/
import Derived.Test.YtfkbjfbbigbacaaGreatDoorProg
import Derived.Test.YtfkbjfbbigbacaaGreatDoorRelP21
namespace Go.Proofs.YtfkbjfbbigbacaaGreatDoor.L
open Go.RowKit
open Go.Value renaming int → vI, slice → vS, bool → vB, pointer → vP, func → vF, agg → vA, map → vM, tuple → vT

def enPair (x : Pair) : List Value := [.int .i64 x.a.f, .int .i64 x.a.pc, .int .i64 x.b.f, .int .i64 x.b.pc]
theorem elt_Pair : Elt Tryz.prog 45 4 enPair := ⟨⟨vA #[vI .i64 0, vI .i64 0, vI .i64 0, vI .i64 0], 32, by kernel_rfl, rfl, by decide⟩, by decide, fun _ => rfl, fun x u hu => List.all_eq_true.1 (show (enPair x).all (·.oneCell') = true from rfl) u hu⟩
def PairsR (p : Nat) (b : Nat) (m : List (Pair × Int)) : Res := allR [Cel p #[vM (some b)] 94, mapR b Pair.v (fun a : Int => vI .i64 a) m]
theorem PairsR.px {w : World} {p b : Nat} {m : List (Pair × Int)} (h : (PairsR p b m).p w) : PX w p b m := ⟨h.2 _ (.head _), h.2 _ (.tail _ (.head _))⟩
theorem PairsR.of {w : World} {p b : Nat} {m : List (Pair × Int)} (h : PX w p b m) : (PairsR p b m).p w := by
  refine ⟨List.pairwise_cons.2 ⟨fun s hs x hx hx' => ?_, List.pairwise_singleton _ _⟩, fun r hr => ?_⟩
  · rw [List.mem_singleton] at hs; subst hs
    simp [Cel, mapR] at hx hx'; exact h.ne (hx.symm.trans hx')
  · rcases List.mem_cons.1 hr with rfl | hr
    · exact h.cell
    · rw [List.mem_singleton] at hr; subst hr; exact h.holds
theorem PairsR.fp {p b : Nat} {m : List (Pair × Int)} (x : Nat) : x ∈ (PairsR p b m).fp ↔ x = p ∨ x = b := by simp [PairsR, mem_allR, Cel, mapR]
theorem e_padd (p b : Nat) (m : List (Pair × Int)) (x : Pair) (w : World) (ho : (PairsR p b m).p w) (hl : ∀ y ∈ (PairsR p b m).fp, y < w.heap.size) (hx : x.ok = true) (h0 : 0 ≤ came m x ∧ came m x ≤ 1000000) :
    Calls Tryz.prog 67 #[.pointer (some ⟨p, 0, none⟩), x.v] w fun e w' => e = .returned (.tuple #[.bool (came m x == 0), .int .i64 0]) ∧ Upd (PairsR p b m) (PairsR p b (put m x (came m x + 1))) w w' := by
  refine (Add_any w p b m (PairsR.px ho) x hx h0.1 (by omega)).mono ?_
  rintro e w' ⟨rfl, hx', hf⟩
  refine ⟨rfl, hf.mono (fun i _ e => (PairsR.fp i).2 (.inr e)), PairsR.of hx', fun y hy => ⟨.inl ((PairsR.fp y).2 ((PairsR.fp y).1 hy)), Nat.lt_of_lt_of_le (hl y ((PairsR.fp y).2 ((PairsR.fp y).1 hy))) hf.size⟩⟩
set_option maxRecDepth 100000 in
theorem e_spnone (p : Nat) (b : Nat) (w : World) (ho_p : w.heap[p]? = some (.cells #[vM (some b)] 94 (0, 0))) : Calls Tryz.prog 46 #[pA p 0] w (fun e w' => e = .returned (vB false) ∧ w = w') := by
 have _hu := ho_p; clear _hu
 refine enter_E 12 Tryz.func46 rfl rfl (by kernel_rfl) (L := [(0, pA p 0)]) (by kernel_rfl) ?_
 intro ac hA
 have hW := Ws.start w No
 have hW := hW.celG ho_p
 refine wr <| st_p (vB false) hA ?_; clear hA ac; intro ac hA
 refine wn <| wr <| st_p (pA p 0) hA fun ac hA => st_p (vB false) hA fun ac hA => st_p (vB false) hA fun ac hA => st_p (pA p 0) hA fun ac hA => st_p (pA p 0) hA fun ac hA => st_p (pA p 0) hA fun ac hA => st_q (vM (some b)) hA hW.cls (Rd.load (b := p) (i := 0) (by kernel_rfl) (fun _ hw => show _ = _ from (hw.1).getG 0 rfl) (by kernel_rfl)) fun ac hA => st_p (vB false) hA fun ac hA => st_p (vB false) hA fun ac hA => st_p (vB false) hA fun ac hA => wn <| wp_ret <| r1 (vB false) hA ?_
 clear hA
 exact ⟨retv (by rfl), rfl⟩

set_option maxRecDepth 100000 in
theorem e_splen (p : Nat) (b : Nat) (m : List (Pair × Int)) (w : World) (ho_p : (PairsR p b m).p w) (hl_p : ∀ x_ ∈ (PairsR p b m).fp, x_ < w.heap.size) : Calls Tryz.prog 23 #[pA p 0] w (fun e w' => e = .returned (vI .i64 (m.length : Int)) ∧ Fr No w w') := by
 have _hu := ho_p; have _hv := hl_p; clear _hu _hv
 refine enter_E 10 Tryz.func23 rfl rfl (by kernel_rfl) (L := [(0, pA p 0)]) (by kernel_rfl) ?_
 intro ac hA
 have hW := Ws.start w No
 have hW := hW.addG (PairsR p b m) ho_p hl_p (by simp)
 have hW := hW.objG (L := [Cel p #[vM (some b)] 94, mapR b Pair.v (fun a : Int => vI .i64 a) m]) ho_p hl_p
 clear ho_p hl_p
 refine wr <| st_p (vI .i64 0) hA ?_; clear hA ac; intro ac hA
 refine wn <| wp_seq <| wr <| st_p (pA p 0) hA ?_; clear hA ac; intro ac hA
 refine st_s hA (Runs.callS (v := vB false) (fun _ => by kernel_rfl) (e_spnone p b w (show _ = _ from (hW).getG 0 rfl)) ?_); clear hA ac; intro  ac hA
 refine wn <| wp_cond_false (hA.eval (by kernel_rfl)) <| wp_skip <| thenN <| wr <| st_p (pA p 0) hA fun ac hA => st_p (pA p 0) hA fun ac hA => st_p (pA p 0) hA fun ac hA => st_q (vM (some b)) hA hW.cls (Rd.load (b := p) (i := 0) (by kernel_rfl) (fun _ hw => show _ = _ from (hw.1).getG 0 rfl) (by kernel_rfl)) fun ac hA => st_q (vI .i64 (m.length : Int)) hA hW.cls (Rd.mapLen (k := 45) (e := 3) (ek := Pair.v) (ev := (fun a : Int => vI .i64 a)) (m := m) (by kernel_rfl) (by kernel_rfl) (fun _ hw => (hw.1).getG 1 rfl)) fun ac hA => st_p (vI .i64 (m.length : Int)) hA fun ac hA => wn <| wp_ret <| r1 (vI .i64 (m.length : Int)) hA ?_
 clear hA
 exact ⟨retv (by rfl), hW.fr⟩

end Go.Proofs.YtfkbjfbbigbacaaGreatDoor.L
