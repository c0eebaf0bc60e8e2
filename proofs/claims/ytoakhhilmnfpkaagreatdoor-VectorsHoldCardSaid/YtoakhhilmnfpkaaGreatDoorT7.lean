/- Contracts, walked by program over the engine's laws. -/
import Derived.Test.YtoakhhilmnfpkaaGreatDoorProg
import Derived.Test.YtoakhhilmnfpkaaGreatDoorT6
import Derived.Test.YtoakhhilmnfpkaaGreatDoorT3
namespace Go.Proofs.YtoakhhilmnfpkaaGreatDoor.L
open Go.RowKit
open Go.Value renaming int → vI, slice → vS, bool → vB, pointer → vP, func → vF, agg → vA, map → vM, tuple → vT

structure Thing where
  kd : Int
  ob : Int
deriving DecidableEq
def Thing.v (x : Thing) : Value := .agg #[.int .i64 x.kd, .int .i64 x.ob]
def enThing (x : Thing) : List Value := [.int .i64 x.kd, .int .i64 x.ob]
set_option maxRecDepth 100000 in
theorem eqIn_Thing (d : Nat) (a b : Thing) (w : World) : (Op.equalIn (d + 2) 162 a.v b.v).run Tryz.prog w = .ok (decide (a = b)) w := by
  have h := eq_struct (P := Tryz.prog) (d := d + 1) (t := 162) (u := a.v) (v := b.v) rfl rfl (by kernel_rfl) (by kernel_rfl) (eqF_cons { name := "kind", type := 38, offset := 0, embedded := false, tag := "", pkgPath := "linesman/clocks", byteOffset := 0 } (fs := [{ name := "obj", type := 3, offset := 1, embedded := false, tag := "", pkgPath := "linesman/clocks", byteOffset := 8 }]) (u := vI .i64 a.kd) (v := vI .i64 b.kd) (r := (a.kd == b.kd)) (by kernel_rfl) (by decide) (fun _ => by kernel_rfl) (fun _ => by kernel_rfl) (fun _ => by kernel_rfl) (eqF_cons { name := "obj", type := 3, offset := 1, embedded := false, tag := "", pkgPath := "linesman/clocks", byteOffset := 8 } (fs := []) (u := vI .i64 a.ob) (v := vI .i64 b.ob) (r := (a.ob == b.ob)) (by kernel_rfl) (by decide) (fun _ => by kernel_rfl) (fun _ => by kernel_rfl) (fun _ => by kernel_rfl) (eqF_nil (by kernel_rfl)))) w
  rw [h]; congr 1
  obtain ⟨x0, x1⟩ := a; obtain ⟨y0, y1⟩ := b; rw [Bool.eq_iff_iff]; simp
theorem eq_Thing (w : World) (a b : Thing) : (Op.equal 162 a.v b.v).run Tryz.prog w = .ok (decide (a = b)) w := eqIn_Thing 9998 a b w
theorem Thing.eqi (a b : Thing) : a = b ↔ a.kd = b.kd ∧ a.ob = b.ob := by
  obtain ⟨x0, x1⟩ := a; obtain ⟨y0, y1⟩ := b; simp
def enKd (x : Int) : List Value := [.int .i64 x]
theorem elt_Kd : Elt Tryz.prog 38 1 enKd := ⟨⟨vI .i64 0, 8, by kernel_rfl, rfl, by decide⟩, by decide, fun _ => rfl, fun x u hu => List.all_eq_true.1 (show (enKd x).all (·.oneCell') = true from rfl) u hu⟩
theorem check_intT (w : World) (em : Bool) (n : Nat) (a : Int) {q : IntKind} {k : TypeId} (hk : Tryz.prog.underlying k = some (.int q)) : (Instr.checkKey em (n + 1) k (.int q a)).run Tryz.prog w = .ok () w :=
  MapKept.run_checkKey (d := .int q) hk (show MapKept.IsKey (.int q) (.int q a) from rfl) em n
theorem thing_check (w : World) (em : Bool) (a : Thing) : (Instr.checkKey em 10000 162 a.v).run Tryz.prog w = .ok () w := by
  have a3 := Tryz.isAgg3
  have a4 := Tryz.isAgg38
  have z3 := Tryz.sizeOf3
  have z4 := Tryz.sizeOf38
  have hu : Tryz.prog.underlying 162 = some (.struct (Tryz.prog.fieldsOf 162)) := by kernel_rfl
  have h1 := fun w em n (a : Int) => check_intT w em n a (q := .i64) (k := 3) (by kernel_rfl)
  have h2 := fun w em n (a : Int) => check_intT w em n a (q := .i64) (k := 38) (by kernel_rfl)
  obtain ⟨af, ap⟩ := a
  unfold Thing.v
  rw [show (10000 : Nat) = 9999 + 1 from rfl]
  generalize hn : (9999 : Nat) = n
  obtain ⟨m, rfl⟩ : ∃ m, n = m + 1 := ⟨9998, by omega⟩
  clear hn
  unfold Instr.checkKey
  simp only [Sem.run_bind, run_underlying hu, Result.andThen, ← Array.forIn_toList]
  simp [go_sem, h1, h2, a3, a4, z3, z4]
theorem thingKey : KeyE Tryz.prog 162 Thing.v :=
  KeyE.struct (fs := Tryz.prog.fieldsOf 162) (by kernel_rfl) (fun {a b} h => by
    obtain ⟨af, ap⟩ := a
    obtain ⟨bf, bp⟩ := b
    simp [Thing.v] at h
    obtain ⟨rfl, rfl⟩ := h
    rfl) eq_Thing thing_check (fun a => by simp [Thing.v, Instr.sameBits])
/-- The kinds that lead to a kind. -/
def fromL (k : Int) : List Int := if k = 5 then [6] else if k = 7 then [10] else if k = 9 then [10, 8] else if k = 12 then [11] else []
theorem celfpR {b : Nat} {cs : Array Value} {t sz : Nat} {α : Type} {en : α → List Value} {l : List α} {o : Nat} : ∀ x ∈ (roR (some ⟨b, o, none⟩) sz en l).fp, x ∈ (Cel b cs t).fp := by
  intro x hx
  simp only [roR] at hx
  split at hx
  · cases hx
  · simpa [Cel] using hx
set_option maxRecDepth 100000 in
theorem e_kfrom (k : Int) (w : World)  : Calls Tryz.prog 68 #[vI .i64 k] w (fun e w' => ∃ (A_o : Option Addr) (c_o : Nat), e = .returned (vS A_o (fromL k).length c_o) ∧ (fromL k).length ≤ c_o ∧ (roR A_o 1 enKd (fromL k)).from_ [] w w' ∧ Fr No w w') := by
 refine enter_E 18 Tryz.func68 rfl rfl (by kernel_rfl) (L := [(0, vI .i64 k)]) (by kernel_rfl) ?_
 intro ac hA
 have hW := Ws.start w No
 refine wr <| st_p (vS none 0 0) hA ?_; clear hA ac; intro ac hA
 refine wn <| wr <| st_p (vA #[vI .i64 6, vI .i64 10, vI .i64 8, vI .i64 11]) hA ?_; clear hA ac; intro ac hA
 refine st_s hA (Runs.cells (fun b => pA b 0) #[vI .i64 0, vI .i64 0, vI .i64 0, vI .i64 0] 211 (fun _ => by kernel_rfl) hW ?_); clear hA ac hW; intro b1 w2 hW hb1 hfw2 ac hA
 refine st_s hA (Runs.store (v := vA #[vI .i64 6, vI .i64 10, vI .i64 8, vI .i64 11]) (b := b1) (j := 0) (n := 4) (cs' := #[vI .i64 6, vI .i64 10, vI .i64 8, vI .i64 11]) (H' := [Cel b1 #[vI .i64 6, vI .i64 10, vI .i64 8, vI .i64 11] 211]) (by kernel_rfl) (by kernel_rfl) (by kernel_rfl) (by kernel_rfl) (by kernel_rfl) hW 0 (by rfl) (Nat.le_of_ble_eq_true (by kernel_rfl)) (by kernel_rfl) (by rfl) ?_); clear hA ac hW; intro w3 hW ac hA
 refine wn <| wp_seq <| wr <| st_p (vI .i64 k) hA ?_; clear hA ac; intro ac hA
 refine wn <| wp_block <| wr <| st_p (vB ((k : Int) == (5 : Int))) hA fun ac hA => st_p (vB ((k : Int) == (5 : Int))) hA fun ac hA => wn <| wp_cond_split (t := (k : Int) == (5 : Int)) (hA.eval (by kernel_rfl)) (fun h4 => ?_) (fun h4 => ?_)
 ·
  have h4 := eq_of_beq h4
  refine wr <| st_p (vS (some ⟨b1, 0, none⟩) 1 4) hA fun ac hA => st_p (vS (some ⟨b1, 0, none⟩) 1 4) hA fun ac hA => wn <| wp_ret <| blkR <| thenR <| r1 (vS (some ⟨b1, 0, none⟩) 1 4) hA ?_
  clear hA
  have hsq_ : Res.src (roR ((some ⟨b1, 0, none⟩)) 1 enKd (([6, 10, 8, 11] : List Int).take 1)) [] w := fun b_ hb_ => .inr ((hW.may _ (List.mem_of_getElem? (i := 0) rfl) b_ (celfpR (cs := #[vI .i64 6, vI .i64 10, vI .i64 8, vI .i64 11]) (t := 211) b_ hb_)).resolve_left (fun h_ => h_))
  have hW := hW.share 0 rfl (H' := []) rfl
  have hW := hW.nestG (roR ((some ⟨b1, 0, none⟩)) 1 enKd (([6, 10, 8, 11] : List Int).take 1)) ((rowAt_cel (show _ = _ from (hW).getG 0 rfl) ([6, 10, 8, 11] : List Int) (by rfl) elt_Kd.len).takeE 1) (fun b_ hb_ => ⟨_, List.mem_of_getElem? (i := 0) rfl, celfpR b_ hb_⟩)
  have hc_q_ : ((([6, 10, 8, 11] : List Int).take 1)).length ≤ 4 := by decide
  have hfl_ : fromL k = (([6, 10, 8, 11] : List Int).take 1) := by rw [show k = 5 from by omega]; rfl
  rw [hfl_]
  exact ⟨(some ⟨b1, 0, none⟩), 4, by first | rfl | (simp; done), (by first | assumption | omega | (simp; omega) | simp), (hW.outSrc 0 rfl hsq_), hW.fr⟩
 have h4 := ne_of_beq_false h4
 refine wr <| st_p (vB ((k : Int) == (7 : Int))) hA fun ac hA => st_p (vB ((k : Int) == (7 : Int))) hA fun ac hA => wn <| wp_cond_split (t := (k : Int) == (7 : Int)) (hA.eval (by kernel_rfl)) (fun h5 => ?_) (fun h5 => ?_)
 ·
  have h5 := eq_of_beq h5
  refine wr <| st_p (vS (some ⟨b1, 1, none⟩) 1 3) hA fun ac hA => st_p (vS (some ⟨b1, 1, none⟩) 1 3) hA fun ac hA => wn <| wp_ret <| blkR <| thenR <| r1 (vS (some ⟨b1, 1, none⟩) 1 3) hA ?_
  clear hA
  have hsq_ : Res.src (roR ((some ⟨b1, 1, none⟩)) 1 enKd ([10] : List Int)) [] w := fun b_ hb_ => .inr ((hW.may _ (List.mem_of_getElem? (i := 0) rfl) b_ (celfpR (cs := #[vI .i64 6, vI .i64 10, vI .i64 8, vI .i64 11]) (t := 211) b_ hb_)).resolve_left (fun h_ => h_))
  have hW := hW.share 0 rfl (H' := []) rfl
  have hW := hW.nestG (roR ((some ⟨b1, 1, none⟩)) 1 enKd ([10] : List Int)) (show RowAt _ (some ⟨b1, 1, none⟩) 1 enKd ([10] : List Int) from ((rowAt_cel (show _ = _ from (hW).getG 0 rfl) ([6, 10, 8, 11] : List Int) (by rfl) elt_Kd.len).takeE 2).dropE (c := 4) (by decide) 1) (fun b_ hb_ => ⟨_, List.mem_of_getElem? (i := 0) rfl, celfpR b_ hb_⟩)
  have hc_q_ : (([10] : List Int)).length ≤ 3 := by decide
  have hfl_ : fromL k = ([10] : List Int) := by rw [show k = 7 from by omega]; rfl
  rw [hfl_]
  exact ⟨(some ⟨b1, 1, none⟩), 3, by first | rfl | (simp; done), (by first | assumption | omega | (simp; omega) | simp), (hW.outSrc 0 rfl hsq_), hW.fr⟩
 have h5 := ne_of_beq_false h5
 refine wr <| st_p (vB ((k : Int) == (9 : Int))) hA fun ac hA => st_p (vB ((k : Int) == (9 : Int))) hA fun ac hA => wn <| wp_cond_split (t := (k : Int) == (9 : Int)) (hA.eval (by kernel_rfl)) (fun h6 => ?_) (fun h6 => ?_)
 ·
  have h6 := eq_of_beq h6
  refine wr <| st_p (vS (some ⟨b1, 1, none⟩) 2 3) hA fun ac hA => st_p (vS (some ⟨b1, 1, none⟩) 2 3) hA fun ac hA => wn <| wp_ret <| blkR <| thenR <| r1 (vS (some ⟨b1, 1, none⟩) 2 3) hA ?_
  clear hA
  have hsq_ : Res.src (roR ((some ⟨b1, 1, none⟩)) 1 enKd ([10, 8] : List Int)) [] w := fun b_ hb_ => .inr ((hW.may _ (List.mem_of_getElem? (i := 0) rfl) b_ (celfpR (cs := #[vI .i64 6, vI .i64 10, vI .i64 8, vI .i64 11]) (t := 211) b_ hb_)).resolve_left (fun h_ => h_))
  have hW := hW.share 0 rfl (H' := []) rfl
  have hW := hW.nestG (roR ((some ⟨b1, 1, none⟩)) 1 enKd ([10, 8] : List Int)) (show RowAt _ (some ⟨b1, 1, none⟩) 1 enKd ([10, 8] : List Int) from ((rowAt_cel (show _ = _ from (hW).getG 0 rfl) ([6, 10, 8, 11] : List Int) (by rfl) elt_Kd.len).takeE 3).dropE (c := 4) (by decide) 1) (fun b_ hb_ => ⟨_, List.mem_of_getElem? (i := 0) rfl, celfpR b_ hb_⟩)
  have hc_q_ : (([10, 8] : List Int)).length ≤ 3 := by decide
  have hfl_ : fromL k = ([10, 8] : List Int) := by rw [show k = 9 from by omega]; rfl
  rw [hfl_]
  exact ⟨(some ⟨b1, 1, none⟩), 3, by first | rfl | (simp; done), (by first | assumption | omega | (simp; omega) | simp), (hW.outSrc 0 rfl hsq_), hW.fr⟩
 have h6 := ne_of_beq_false h6
 refine wr <| st_p (vB ((k : Int) == (12 : Int))) hA fun ac hA => st_p (vB ((k : Int) == (12 : Int))) hA fun ac hA => wn <| wp_cond_split (t := (k : Int) == (12 : Int)) (hA.eval (by kernel_rfl)) (fun h7 => ?_) (fun h7 => ?_)
 ·
  have h7 := eq_of_beq h7
  refine wr <| st_p (vS (some ⟨b1, 3, none⟩) 1 1) hA fun ac hA => st_p (vS (some ⟨b1, 3, none⟩) 1 1) hA fun ac hA => wn <| wp_ret <| blkR <| thenR <| r1 (vS (some ⟨b1, 3, none⟩) 1 1) hA ?_
  clear hA
  have hsq_ : Res.src (roR ((some ⟨b1, 3, none⟩)) 1 enKd ([11] : List Int)) [] w := fun b_ hb_ => .inr ((hW.may _ (List.mem_of_getElem? (i := 0) rfl) b_ (celfpR (cs := #[vI .i64 6, vI .i64 10, vI .i64 8, vI .i64 11]) (t := 211) b_ hb_)).resolve_left (fun h_ => h_))
  have hW := hW.share 0 rfl (H' := []) rfl
  have hW := hW.nestG (roR ((some ⟨b1, 3, none⟩)) 1 enKd ([11] : List Int)) (show RowAt _ (some ⟨b1, 3, none⟩) 1 enKd ([11] : List Int) from ((rowAt_cel (show _ = _ from (hW).getG 0 rfl) ([6, 10, 8, 11] : List Int) (by rfl) elt_Kd.len).takeE 4).dropE (c := 4) (by decide) 3) (fun b_ hb_ => ⟨_, List.mem_of_getElem? (i := 0) rfl, celfpR b_ hb_⟩)
  have hc_q_ : (([11] : List Int)).length ≤ 1 := by decide
  have hfl_ : fromL k = ([11] : List Int) := by rw [show k = 12 from by omega]; rfl
  rw [hfl_]
  exact ⟨(some ⟨b1, 3, none⟩), 1, by first | rfl | (simp; done), (by first | assumption | omega | (simp; omega) | simp), (hW.outSrc 0 rfl hsq_), hW.fr⟩
 have h7 := ne_of_beq_false h7
 refine wp_skip <| blkN <| thenN <| wr <| st_p (vS none 0 0) hA ?_; clear hA ac; intro ac hA
 refine wn <| wp_ret <| r1 (vS none 0 0) hA ?_
 clear hA
 have hfl_ : fromL k = ([] : List Int) := by unfold fromL; rw [if_neg (by omega), if_neg (by omega), if_neg (by omega), if_neg (by omega)]
 rw [hfl_]
 exact ⟨none, 0, by first | rfl | (simp; done), (by simp), from_nil, hW.fr⟩

end Go.Proofs.YtoakhhilmnfpkaaGreatDoor.L
