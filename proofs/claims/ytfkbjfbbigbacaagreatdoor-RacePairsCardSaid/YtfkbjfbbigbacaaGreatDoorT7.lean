/- Contracts, walked by program over the engine's laws. -/
import Derived.Test.YtfkbjfbbigbacaaGreatDoorProg
import Derived.Test.YtfkbjfbbigbacaaGreatDoorT6
import Derived.Test.YtfkbjfbbigbacaaGreatDoorT3
namespace Go.Proofs.YtfkbjfbbigbacaaGreatDoor.L
open Go.RowKit
open Go.Value renaming int → vI, slice → vS, bool → vB, pointer → vP, func → vF, agg → vA, map → vM, tuple → vT

structure Thing where
  kd : Int
  ob : Int
deriving DecidableEq
def Thing.v (x : Thing) : Value := .agg #[.int .i64 x.kd, .int .i64 x.ob]
def enThing (x : Thing) : List Value := [.int .i64 x.kd, .int .i64 x.ob]
set_option maxRecDepth 100000 in
theorem eqIn_Thing (d : Nat) (a b : Thing) (w : World) : (Op.equalIn (d + 2) 110 a.v b.v).run Tryz.prog w = .ok (decide (a = b)) w := by
  have h := eq_struct (P := Tryz.prog) (d := d + 1) (t := 110) (u := a.v) (v := b.v) rfl rfl (by kernel_rfl) (by kernel_rfl) (eqF_cons { name := "kind", type := 48, offset := 0, embedded := false, tag := "", pkgPath := "linesman/order", byteOffset := 0 } (fs := [{ name := "obj", type := 3, offset := 1, embedded := false, tag := "", pkgPath := "linesman/order", byteOffset := 8 }]) (u := vI .i64 a.kd) (v := vI .i64 b.kd) (r := (a.kd == b.kd)) (by kernel_rfl) (by decide) (fun _ => by kernel_rfl) (fun _ => by kernel_rfl) (fun _ => by kernel_rfl) (eqF_cons { name := "obj", type := 3, offset := 1, embedded := false, tag := "", pkgPath := "linesman/order", byteOffset := 8 } (fs := []) (u := vI .i64 a.ob) (v := vI .i64 b.ob) (r := (a.ob == b.ob)) (by kernel_rfl) (by decide) (fun _ => by kernel_rfl) (fun _ => by kernel_rfl) (fun _ => by kernel_rfl) (eqF_nil (by kernel_rfl)))) w
  rw [h]; congr 1
  obtain ⟨x0, x1⟩ := a; obtain ⟨y0, y1⟩ := b; rw [Bool.eq_iff_iff]; simp
theorem eq_Thing (w : World) (a b : Thing) : (Op.equal 110 a.v b.v).run Tryz.prog w = .ok (decide (a = b)) w := eqIn_Thing 9998 a b w
theorem Thing.eqi (a b : Thing) : a = b ↔ a.kd = b.kd ∧ a.ob = b.ob := by
  obtain ⟨x0, x1⟩ := a; obtain ⟨y0, y1⟩ := b; simp
def enKd (x : Int) : List Value := [.int .i64 x]
theorem elt_Kd : Elt Tryz.prog 48 1 enKd := ⟨⟨vI .i64 0, 8, by kernel_rfl, rfl, by decide⟩, by decide, fun _ => rfl, fun x u hu => List.all_eq_true.1 (show (enKd x).all (·.oneCell') = true from rfl) u hu⟩
theorem check_intT (w : World) (em : Bool) (n : Nat) (a : Int) {q : IntKind} {k : TypeId} (hk : Tryz.prog.underlying k = some (.int q)) : (Instr.checkKey em (n + 1) k (.int q a)).run Tryz.prog w = .ok () w :=
  MapKept.run_checkKey (d := .int q) hk (show MapKept.IsKey (.int q) (.int q a) from rfl) em n
theorem thing_check (w : World) (em : Bool) (a : Thing) : (Instr.checkKey em 10000 110 a.v).run Tryz.prog w = .ok () w := by
  have a3 := Tryz.isAgg3
  have a4 := Tryz.isAgg48
  have z3 := Tryz.sizeOf3
  have z4 := Tryz.sizeOf48
  have hu : Tryz.prog.underlying 110 = some (.struct (Tryz.prog.fieldsOf 110)) := by kernel_rfl
  have h1 := fun w em n (a : Int) => check_intT w em n a (q := .i64) (k := 3) (by kernel_rfl)
  have h2 := fun w em n (a : Int) => check_intT w em n a (q := .i64) (k := 48) (by kernel_rfl)
  obtain ⟨af, ap⟩ := a
  unfold Thing.v
  rw [show (10000 : Nat) = 9999 + 1 from rfl]
  generalize hn : (9999 : Nat) = n
  obtain ⟨m, rfl⟩ : ∃ m, n = m + 1 := ⟨9998, by omega⟩
  clear hn
  unfold Instr.checkKey
  simp only [Sem.run_bind, run_underlying hu, Result.andThen, ← Array.forIn_toList]
  simp [go_sem, h1, h2, a3, a4, z3, z4]
theorem thingKey : KeyE Tryz.prog 110 Thing.v :=
  KeyE.struct (fs := Tryz.prog.fieldsOf 110) (by kernel_rfl) (fun {a b} h => by
    obtain ⟨af, ap⟩ := a
    obtain ⟨bf, bp⟩ := b
    simp [Thing.v] at h
    obtain ⟨rfl, rfl⟩ := h
    rfl) eq_Thing thing_check (fun a => by simp [Thing.v, Instr.sameBits])
/-- The kinds that lead to a kind. -/
def fromL (k : Int) : List Int := if k = 5 then [6] else if k = 7 then [10] else if k = 9 then [10, 8] else if k = 12 then [11] else []
theorem celfpR {b : Nat} {cs : Array Value} {t sz : Nat} {α : Type} {en : α → List Value} {l : List α} : ∀ x ∈ (roR (some ⟨b, 0, none⟩) sz en l).fp, x ∈ (Cel b cs t).fp := by
  intro x hx
  simp only [roR] at hx
  split at hx
  · cases hx
  · simpa [Cel] using hx
set_option maxRecDepth 100000 in
theorem e_ofrom (k : Int) (w : World)  : Calls Tryz.prog 55 #[vI .i64 k] w (fun e w' => ∃ (A_o : Option Addr) (c_o : Nat), e = .returned (vS A_o (fromL k).length c_o) ∧ (fromL k).length ≤ c_o ∧ (roR A_o 1 enKd (fromL k)).from_ [] w w' ∧ Fr No w w') := by
 refine enter_E 18 Tryz.func55 rfl rfl (by kernel_rfl) (L := [(0, vI .i64 k)]) (by kernel_rfl) ?_
 intro ac hA
 have hW := Ws.start w No
 refine wr <| st_p (vS none 0 0) hA ?_; clear hA ac; intro ac hA
 refine wn <| wr <| st_p (vA #[vI .i64 10, vI .i64 8]) hA ?_; clear hA ac; intro ac hA
 refine st_s hA (Runs.cells (fun b => pA b 0) #[vI .i64 0, vI .i64 0] 135 (fun _ => by kernel_rfl) hW ?_); clear hA ac hW; intro b1 w2 hW hb1 hfw2 ac hA
 refine st_s hA (Runs.store (v := vA #[vI .i64 10, vI .i64 8]) (b := b1) (j := 0) (n := 2) (cs' := #[vI .i64 10, vI .i64 8]) (H' := [Cel b1 #[vI .i64 10, vI .i64 8] 135]) (by kernel_rfl) (by kernel_rfl) (by kernel_rfl) (by kernel_rfl) (by kernel_rfl) hW 0 (by rfl) (Nat.le_of_ble_eq_true (by kernel_rfl)) (by kernel_rfl) (by rfl) ?_); clear hA ac hW; intro w3 hW ac hA
 refine wn <| wp_seq <| wr <| st_p (vI .i64 k) hA ?_; clear hA ac; intro ac hA
 refine wn <| wp_block <| wr <| st_p (vB ((k : Int) == (5 : Int))) hA fun ac hA => st_p (vB ((k : Int) == (5 : Int))) hA fun ac hA => wn <| wp_cond_split (t := (k : Int) == (5 : Int)) (hA.eval (by kernel_rfl)) (fun h4 => ?_) (fun h4 => ?_)
 ·
  have h4 := eq_of_beq h4
  refine wr <| st_s hA (Runs.cells (fun b => vS (some ⟨b, 0, none⟩) 1 1) #[vI .i64 6] 48 (fun _ => by kernel_rfl) hW ?_); clear hA ac hW; intro b5 w6 hW hb5 hfw6 ac hA
  refine st_p (vS (some ⟨b5, 0, none⟩) 1 1) hA ?_; clear hA ac; intro ac hA
  refine wn <| wp_ret <| blkR <| thenR <| r1 (vS (some ⟨b5, 0, none⟩) 1 1) hA ?_
  clear hA
  have hsq_ : Res.src (roR (some ⟨b5, 0, none⟩) 1 enKd ([6] : List Int)) [] w := fun b_ hb_ => .inr ((hW.may _ (List.mem_of_getElem? (i := 0) rfl) b_ (celfpR (cs := #[vI .i64 6]) (t := 48) b_ hb_)).resolve_left (fun h_ => h_))
  have hW := hW.share 0 rfl (H' := [Cel b1 #[vI .i64 10, vI .i64 8] 135]) rfl
  have hW := hW.nestG (roR (some ⟨b5, 0, none⟩) 1 enKd ([6] : List Int)) (rowAt_cel (show _ = _ from hW.getG 0 rfl) ([6] : List Int) (by rfl) elt_Kd.len) (fun b_ hb_ => ⟨_, List.mem_of_getElem? (i := 0) rfl, celfpR b_ hb_⟩)
  have hc_q_ : (([6] : List Int)).length ≤ 1 := by decide
  have hfl_ : fromL k = ([6] : List Int) := by rw [show k = 5 from by omega]; rfl
  rw [hfl_]
  exact ⟨(some ⟨b5, 0, none⟩), 1, by first | rfl | (simp; done), (by first | assumption | omega | (simp; omega) | simp), (hW.outSrc 0 rfl hsq_), hW.fr⟩
 have h4 := ne_of_beq_false h4
 refine wr <| st_p (vB ((k : Int) == (7 : Int))) hA fun ac hA => st_p (vB ((k : Int) == (7 : Int))) hA fun ac hA => wn <| wp_cond_split (t := (k : Int) == (7 : Int)) (hA.eval (by kernel_rfl)) (fun h7 => ?_) (fun h7 => ?_)
 ·
  have h7 := eq_of_beq h7
  refine wr <| st_p (vS (some ⟨b1, 0, none⟩) 1 2) hA fun ac hA => st_p (vS (some ⟨b1, 0, none⟩) 1 2) hA fun ac hA => wn <| wp_ret <| blkR <| thenR <| r1 (vS (some ⟨b1, 0, none⟩) 1 2) hA ?_
  clear hA
  have hsq_ : Res.src (roR (some ⟨b1, 0, none⟩) 1 enKd (([10, 8] : List Int).take 1)) [] w := fun b_ hb_ => .inr ((hW.may _ (List.mem_of_getElem? (i := 0) rfl) b_ (celfpR (cs := #[vI .i64 10, vI .i64 8]) (t := 135) b_ hb_)).resolve_left (fun h_ => h_))
  have hW := hW.share 0 rfl (H' := []) rfl
  have hW := hW.nestG (roR (some ⟨b1, 0, none⟩) 1 enKd (([10, 8] : List Int).take 1)) ((rowAt_cel (show _ = _ from hW.getG 0 rfl) ([10, 8] : List Int) (by rfl) elt_Kd.len).takeE 1) (fun b_ hb_ => ⟨_, List.mem_of_getElem? (i := 0) rfl, celfpR b_ hb_⟩)
  have hc_q_ : ((([10, 8] : List Int).take 1)).length ≤ 2 := by decide
  have hfl_ : fromL k = (([10, 8] : List Int).take 1) := by rw [show k = 7 from by omega]; rfl
  rw [hfl_]
  exact ⟨(some ⟨b1, 0, none⟩), 2, by first | rfl | (simp; done), (by first | assumption | omega | (simp; omega) | simp), (hW.outSrc 0 rfl hsq_), hW.fr⟩
 have h7 := ne_of_beq_false h7
 refine wr <| st_p (vB ((k : Int) == (9 : Int))) hA fun ac hA => st_p (vB ((k : Int) == (9 : Int))) hA fun ac hA => wn <| wp_cond_split (t := (k : Int) == (9 : Int)) (hA.eval (by kernel_rfl)) (fun h8 => ?_) (fun h8 => ?_)
 ·
  have h8 := eq_of_beq h8
  refine wr <| st_p (vS (some ⟨b1, 0, none⟩) 2 2) hA fun ac hA => st_p (vS (some ⟨b1, 0, none⟩) 2 2) hA fun ac hA => wn <| wp_ret <| blkR <| thenR <| r1 (vS (some ⟨b1, 0, none⟩) 2 2) hA ?_
  clear hA
  have hsq_ : Res.src (roR (some ⟨b1, 0, none⟩) 1 enKd ([10, 8] : List Int)) [] w := fun b_ hb_ => .inr ((hW.may _ (List.mem_of_getElem? (i := 0) rfl) b_ (celfpR (cs := #[vI .i64 10, vI .i64 8]) (t := 135) b_ hb_)).resolve_left (fun h_ => h_))
  have hW := hW.share 0 rfl (H' := []) rfl
  have hW := hW.nestG (roR (some ⟨b1, 0, none⟩) 1 enKd ([10, 8] : List Int)) (rowAt_cel (show _ = _ from hW.getG 0 rfl) ([10, 8] : List Int) (by rfl) elt_Kd.len) (fun b_ hb_ => ⟨_, List.mem_of_getElem? (i := 0) rfl, celfpR b_ hb_⟩)
  have hc_q_ : (([10, 8] : List Int)).length ≤ 2 := by decide
  have hfl_ : fromL k = ([10, 8] : List Int) := by rw [show k = 9 from by omega]; rfl
  rw [hfl_]
  exact ⟨(some ⟨b1, 0, none⟩), 2, by first | rfl | (simp; done), (by first | assumption | omega | (simp; omega) | simp), (hW.outSrc 0 rfl hsq_), hW.fr⟩
 have h8 := ne_of_beq_false h8
 refine wr <| st_p (vB ((k : Int) == (12 : Int))) hA fun ac hA => st_p (vB ((k : Int) == (12 : Int))) hA fun ac hA => wn <| wp_cond_split (t := (k : Int) == (12 : Int)) (hA.eval (by kernel_rfl)) (fun h9 => ?_) (fun h9 => ?_)
 ·
  have h9 := eq_of_beq h9
  refine wr <| st_s hA (Runs.cells (fun b => vS (some ⟨b, 0, none⟩) 1 1) #[vI .i64 11] 48 (fun _ => by kernel_rfl) hW ?_); clear hA ac hW; intro b10 w11 hW hb10 hfw11 ac hA
  refine st_p (vS (some ⟨b10, 0, none⟩) 1 1) hA ?_; clear hA ac; intro ac hA
  refine wn <| wp_ret <| blkR <| thenR <| r1 (vS (some ⟨b10, 0, none⟩) 1 1) hA ?_
  clear hA
  have hsq_ : Res.src (roR (some ⟨b10, 0, none⟩) 1 enKd ([11] : List Int)) [] w := fun b_ hb_ => .inr ((hW.may _ (List.mem_of_getElem? (i := 0) rfl) b_ (celfpR (cs := #[vI .i64 11]) (t := 48) b_ hb_)).resolve_left (fun h_ => h_))
  have hW := hW.share 0 rfl (H' := [Cel b1 #[vI .i64 10, vI .i64 8] 135]) rfl
  have hW := hW.nestG (roR (some ⟨b10, 0, none⟩) 1 enKd ([11] : List Int)) (rowAt_cel (show _ = _ from hW.getG 0 rfl) ([11] : List Int) (by rfl) elt_Kd.len) (fun b_ hb_ => ⟨_, List.mem_of_getElem? (i := 0) rfl, celfpR b_ hb_⟩)
  have hc_q_ : (([11] : List Int)).length ≤ 1 := by decide
  have hfl_ : fromL k = ([11] : List Int) := by rw [show k = 12 from by omega]; rfl
  rw [hfl_]
  exact ⟨(some ⟨b10, 0, none⟩), 1, by first | rfl | (simp; done), (by first | assumption | omega | (simp; omega) | simp), (hW.outSrc 0 rfl hsq_), hW.fr⟩
 have h9 := ne_of_beq_false h9
 refine wp_skip <| blkN <| thenN <| wr <| st_p (vS none 0 0) hA ?_; clear hA ac; intro ac hA
 refine wn <| wp_ret <| r1 (vS none 0 0) hA ?_
 clear hA
 have hfl_ : fromL k = ([] : List Int) := by unfold fromL; rw [if_neg (by omega), if_neg (by omega), if_neg (by omega), if_neg (by omega)]
 rw [hfl_]
 exact ⟨none, 0, by first | rfl | (simp; done), (by simp), from_nil, hW.fr⟩

end Go.Proofs.YtfkbjfbbigbacaaGreatDoor.L
