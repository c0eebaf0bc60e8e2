/- Contracts, walked by program over the engine's laws. -/
import Derived.Test.YtfkbjfbbigbacaaGreatDoorProg
import Derived.Test.YtfkbjfbbigbacaaGreatDoorT10
import Derived.Test.YtfkbjfbbigbacaaGreatDoorSiteC
namespace Go.Proofs.YtfkbjfbbigbacaaGreatDoor.L
open Go.RowKit
open Go.Value renaming int → vI, slice → vS, bool → vB, pointer → vP, func → vF, agg → vA, map → vM, tuple → vT

def enI64 (x : Int) : List Value := [.int .i64 x]
theorem elt_I64 : Elt Tryz.prog 3 1 enI64 := ⟨⟨vI .i64 0, 8, by kernel_rfl, rfl, by decide⟩, by decide, fun _ => rfl, fun x u hu => List.all_eq_true.1 (show (enI64 x).all (·.oneCell') = true from rfl) u hu⟩
set_option maxRecDepth 100000 in
theorem eqIn_Pair (d : Nat) (a b : Pair) (w : World) : (Op.equalIn (d + 3) 45 a.v b.v).run Tryz.prog w = .ok (decide (a = b)) w := by
  have h := eq_struct (P := Tryz.prog) (d := d + 2) (t := 45) (u := a.v) (v := b.v) rfl rfl (by kernel_rfl) (by kernel_rfl) (eqF_cons { name := "A", type := 43, offset := 0, embedded := false, tag := "", pkgPath := "", byteOffset := 0 } (fs := [{ name := "B", type := 43, offset := 2, embedded := false, tag := "", pkgPath := "", byteOffset := 16 }]) (u := a.a.v) (v := b.a.v) (r := decide (a.a = b.a)) (by kernel_rfl) (by decide) (fun _ => by kernel_rfl) (fun _ => by kernel_rfl) (eqIn_Site (d + 0) a.a b.a) (eqF_cons { name := "B", type := 43, offset := 2, embedded := false, tag := "", pkgPath := "", byteOffset := 16 } (fs := []) (u := a.b.v) (v := b.b.v) (r := decide (a.b = b.b)) (by kernel_rfl) (by decide) (fun _ => by kernel_rfl) (fun _ => by kernel_rfl) (eqIn_Site (d + 0) a.b b.b) (eqF_nil (by kernel_rfl)))) w
  rw [h]; congr 1
  obtain ⟨x0, x1⟩ := a; obtain ⟨y0, y1⟩ := b; rw [Bool.eq_iff_iff]; simp
theorem eq_Pair (w : World) (a b : Pair) : (Op.equal 45 a.v b.v).run Tryz.prog w = .ok (decide (a = b)) w := eqIn_Pair 9997 a b w
theorem Pair.eqi (a b : Pair) : a = b ↔ a.a.f = b.a.f ∧ a.a.pc = b.a.pc ∧ a.b.f = b.b.f ∧ a.b.pc = b.b.pc := by
  obtain ⟨x0, x1⟩ := a; obtain ⟨y0, y1⟩ := b; first | (simp [Site.eqi]; done) | (simp [Site.eqi, and_assoc]; done)
structure Race where
  i : Int
  j : Int
  addr : Int
  p : Pair
deriving DecidableEq
def Race.v (x : Race) : Value := .agg #[.int .i64 x.i, .int .i64 x.j, .int .u32 x.addr, .int .i64 x.p.a.f, .int .i64 x.p.a.pc, .int .i64 x.p.b.f, .int .i64 x.p.b.pc]
def enRace (x : Race) : List Value := [.int .i64 x.i, .int .i64 x.j, .int .u32 x.addr, .int .i64 x.p.a.f, .int .i64 x.p.a.pc, .int .i64 x.p.b.f, .int .i64 x.p.b.pc]
set_option maxRecDepth 100000 in
theorem eqIn_Race (d : Nat) (a b : Race) (w : World) : (Op.equalIn (d + 4) 47 a.v b.v).run Tryz.prog w = .ok (decide (a = b)) w := by
  have h := eq_struct (P := Tryz.prog) (d := d + 3) (t := 47) (u := a.v) (v := b.v) rfl rfl (by kernel_rfl) (by kernel_rfl) (eqF_cons { name := "I", type := 3, offset := 0, embedded := false, tag := "", pkgPath := "", byteOffset := 0 } (fs := [{ name := "J", type := 3, offset := 1, embedded := false, tag := "", pkgPath := "", byteOffset := 8 }, { name := "Addr", type := 41, offset := 2, embedded := false, tag := "", pkgPath := "", byteOffset := 16 }, { name := "Pair", type := 45, offset := 3, embedded := false, tag := "", pkgPath := "", byteOffset := 24 }]) (u := vI .i64 a.i) (v := vI .i64 b.i) (r := (a.i == b.i)) (by kernel_rfl) (by decide) (fun _ => by kernel_rfl) (fun _ => by kernel_rfl) (fun _ => by kernel_rfl) (eqF_cons { name := "J", type := 3, offset := 1, embedded := false, tag := "", pkgPath := "", byteOffset := 8 } (fs := [{ name := "Addr", type := 41, offset := 2, embedded := false, tag := "", pkgPath := "", byteOffset := 16 }, { name := "Pair", type := 45, offset := 3, embedded := false, tag := "", pkgPath := "", byteOffset := 24 }]) (u := vI .i64 a.j) (v := vI .i64 b.j) (r := (a.j == b.j)) (by kernel_rfl) (by decide) (fun _ => by kernel_rfl) (fun _ => by kernel_rfl) (fun _ => by kernel_rfl) (eqF_cons { name := "Addr", type := 41, offset := 2, embedded := false, tag := "", pkgPath := "", byteOffset := 16 } (fs := [{ name := "Pair", type := 45, offset := 3, embedded := false, tag := "", pkgPath := "", byteOffset := 24 }]) (u := vI .u32 a.addr) (v := vI .u32 b.addr) (r := (a.addr == b.addr)) (by kernel_rfl) (by decide) (fun _ => by kernel_rfl) (fun _ => by kernel_rfl) (fun _ => by kernel_rfl) (eqF_cons { name := "Pair", type := 45, offset := 3, embedded := false, tag := "", pkgPath := "", byteOffset := 24 } (fs := []) (u := a.p.v) (v := b.p.v) (r := decide (a.p = b.p)) (by kernel_rfl) (by decide) (fun _ => by kernel_rfl) (fun _ => by kernel_rfl) (eqIn_Pair (d + 0) a.p b.p) (eqF_nil (by kernel_rfl)))))) w
  rw [h]; congr 1
  obtain ⟨x0, x1, x2, x3⟩ := a; obtain ⟨y0, y1, y2, y3⟩ := b; rw [Bool.eq_iff_iff]; simp
theorem eq_Race (w : World) (a b : Race) : (Op.equal 47 a.v b.v).run Tryz.prog w = .ok (decide (a = b)) w := eqIn_Race 9996 a b w
theorem Race.eqi (a b : Race) : a = b ↔ a.i = b.i ∧ a.j = b.j ∧ a.addr = b.addr ∧ a.p.a.f = b.p.a.f ∧ a.p.a.pc = b.p.a.pc ∧ a.p.b.f = b.p.b.f ∧ a.p.b.pc = b.p.b.pc := by
  obtain ⟨x0, x1, x2, x3⟩ := a; obtain ⟨y0, y1, y2, y3⟩ := b; first | (simp [Pair.eqi]; done) | (simp [Pair.eqi, and_assoc]; done)
theorem elt_Race : Elt Tryz.prog 47 7 enRace := ⟨⟨vA #[vI .i64 0, vI .i64 0, vI .u32 0, vI .i64 0, vI .i64 0, vI .i64 0, vI .i64 0], 56, by kernel_rfl, rfl, by decide⟩, by decide, fun _ => rfl, fun x u hu => List.all_eq_true.1 (show (enRace x).all (·.oneCell') = true from rfl) u hu⟩
/-- Which two conflict. -/
def EvConf (a b : Event) : Prop := (a.kind = 2 ∨ a.kind = 3) ∧ (b.kind = 2 ∨ b.kind = 3) ∧ a.addr = b.addr ∧ (a.kind = 3 ∨ b.kind = 3)
instance (a b : Event) : Decidable (EvConf a b) := by unfold EvConf; infer_instance
def evConf (a b : Event) : Bool := decide (EvConf a b)
/-- Which race with one. -/
def raceY (E : List Event) (y : Event) (i j : Int) : Bool := evConf (evAt E i) y && apartE E i j
def withY (E : List Event) (n : Nat) (y : Event) (j : Int) : List Int := ((List.range n).filter fun i : Nat => raceY E y (i : Int) j).map fun i : Nat => (i : Int)
def withE (E : List Event) (j : Int) : List Int := if 0 ≤ j ∧ j < (E.length : Int) then withY E j.toNat (evAt E j) j else []
theorem with_snoc (E : List Event) (k : Nat) (y : Event) (j : Int) : withY E (k + 1) y j = withY E k y j ++ if raceY E y (k : Int) j = true then [(k : Int)] else [] := by
  unfold withY; rw [List.range_succ, List.filter_append, List.map_append]; congr 1
  by_cases h : raceY E y (k : Int) j = true
  · rw [if_pos h]; simp [h]
  · rw [if_neg h]; simp [h]
theorem with_len (E : List Event) (n : Nat) (y : Event) (j : Int) : (withY E n y j).length ≤ n := by
  unfold withY; rw [List.length_map]; have := List.length_filter_le (fun i : Nat => raceY E y (i : Int) j) (List.range n); simpa using this
theorem withE_len (E : List Event) (j : Int) : (withE E j).length ≤ E.length := by
  unfold withE; split
  · have := with_len E j.toNat (evAt E j) j; omega
  · simp
theorem with_mem {E : List Event} {n : Nat} {y : Event} {j x : Int} (h : x ∈ withY E n y j) : 0 ≤ x ∧ x < (n : Int) ∧ raceY E y x j = true := by
  unfold withY at h; obtain ⟨i, hi, rfl⟩ := List.mem_map.1 h; rw [List.mem_filter, List.mem_range] at hi; exact ⟨by omega, by omega, hi.2⟩
theorem withE_mem {E : List Event} {j x : Int} (h : x ∈ withE E j) : 0 ≤ x ∧ x < j ∧ j < (E.length : Int) := by
  unfold withE at h; split at h
  · have := with_mem h; omega
  · cases h
set_option maxRecDepth 100000 in
theorem e_eaccess (x : Event) (w : World)  : Calls Tryz.prog 104 #[x.v] w (fun e w' => e = .returned (vB (decide (x.kind = 2 ∨ x.kind = 3))) ∧ Fr No w w') := by
 refine enter_E 11 Tryz.func104 rfl rfl (by kernel_rfl) (L := [(0, x.v)]) (by kernel_rfl) ?_
 intro ac hA
 have hW := Ws.start w No
 refine wr <| st_s hA (Runs.cells (fun b => pA b 0) #[vI .i64 x.g, vI .i64 x.kind, vI .i64 x.site.f, vI .i64 x.site.pc, vI .u32 x.addr, vI .i64 x.child, vI .i64 x.obj, vI .i64 x.n, vI .i64 x.trap] 51 (fun _ => by kernel_rfl) hW ?_); clear hA ac hW; intro b1 w2 hW hb1 hfw2 ac hA
 refine st_p (vB false) hA ?_; clear hA ac; intro ac hA
 refine wn <| wr <| st_p (pA b1 1) hA fun ac hA => st_q (vI .i64 x.kind) hA hW.cls (rl b1 1 0) fun ac hA => st_p (vB ((x.kind : Int) == (2 : Int))) hA fun ac hA => st_p (vB ((x.kind : Int) == (2 : Int))) hA fun ac hA => ?_
 rcases Bool.eq_false_or_eq_true ((x.kind : Int) == (2 : Int)) with h3 | h3
 ·
  rw [h3] at hA
  have h3 := eq_of_beq h3
  refine st_k hA fun ac hA => st_k hA fun ac hA => st_k hA fun ac hA => st_p (vB true) hA fun ac hA => st_p (vB true) hA fun ac hA => wn <| wp_ret <| r1 (vB true) hA ?_
  clear hA
  exact ⟨retv (congrArg vB (decide_eq_true (by omega)).symm), hW.fr⟩
 rw [h3] at hA
 have h3 := ne_of_beq_false h3
 refine st_p (pA b1 1) hA fun ac hA => st_q (vI .i64 x.kind) hA hW.cls (rl b1 1 0) fun ac hA => st_p (vB ((x.kind : Int) == (3 : Int))) hA fun ac hA => st_p (vB ((x.kind : Int) == (3 : Int))) hA fun ac hA => st_p (vB ((x.kind : Int) == (3 : Int))) hA fun ac hA => wn <| wp_ret <| r1 (vB ((x.kind : Int) == (3 : Int))) hA ?_
 clear hA
 refine ⟨retv (congrArg vB ?_), hW.fr⟩
 rcases Bool.eq_false_or_eq_true ((x.kind : Int) == (3 : Int)) with q_ | q_
 · rw [q_]
   have q_ := eq_of_beq q_
   exact (decide_eq_true (by omega)).symm
 · rw [q_]
   have q_ := ne_of_beq_false q_
   exact (decide_eq_false (by omega)).symm

set_option maxRecDepth 100000 in
theorem e_econf (x : Event) (y : Event) (w : World)  : Calls Tryz.prog 71 #[x.v, y.v] w (fun e w' => e = .returned (vB (evConf x y)) ∧ Fr No w w') := by
 refine enter_E 28 Tryz.func71 rfl rfl (by kernel_rfl) (L := [(0, x.v), (1, y.v)]) (by kernel_rfl) ?_
 intro ac hA
 have hW := Ws.start w No
 refine wr <| st_s hA (Runs.cells (fun b => pA b 0) #[vI .i64 x.g, vI .i64 x.kind, vI .i64 x.site.f, vI .i64 x.site.pc, vI .u32 x.addr, vI .i64 x.child, vI .i64 x.obj, vI .i64 x.n, vI .i64 x.trap] 51 (fun _ => by kernel_rfl) hW ?_); clear hA ac hW; intro b1 w2 hW hb1 hfw2 ac hA
 refine st_s hA (Runs.cells (fun b => pA b 0) #[vI .i64 y.g, vI .i64 y.kind, vI .i64 y.site.f, vI .i64 y.site.pc, vI .u32 y.addr, vI .i64 y.child, vI .i64 y.obj, vI .i64 y.n, vI .i64 y.trap] 51 (fun _ => by kernel_rfl) hW ?_); clear hA ac hW; intro b3 w4 hW hb3 hfw4 ac hA
 refine st_p (vB false) hA ?_; clear hA ac; intro ac hA
 refine wn <| wr <| st_q (vA #[vI .i64 x.g, vI .i64 x.kind, vI .i64 x.site.f, vI .i64 x.site.pc, vI .u32 x.addr, vI .i64 x.child, vI .i64 x.obj, vI .i64 x.n, vI .i64 x.trap]) hA hW.cls (rl b1 0 1) ?_; clear hA ac; intro ac hA
 refine st_s hA (Runs.callN (v := vB (decide (x.kind = 2 ∨ x.kind = 3))) (fun _ => by kernel_rfl) hW (e_eaccess x w4) ?_); clear hA ac hW; intro w5 hW hfw5 ac hA
 refine st_p (vB (decide (x.kind = 2 ∨ x.kind = 3))) hA ?_; clear hA ac; intro ac hA
 rcases Bool.eq_false_or_eq_true (decide (x.kind = 2 ∨ x.kind = 3)) with h6 | h6
 ·
  rw [h6] at hA
  have h6 := of_decide_eq_true h6
  refine st_q (vA #[vI .i64 y.g, vI .i64 y.kind, vI .i64 y.site.f, vI .i64 y.site.pc, vI .u32 y.addr, vI .i64 y.child, vI .i64 y.obj, vI .i64 y.n, vI .i64 y.trap]) hA hW.cls (rl b3 0 0) ?_; clear hA ac; intro ac hA
  refine st_s hA (Runs.callN (v := vB (decide (y.kind = 2 ∨ y.kind = 3))) (fun _ => by kernel_rfl) hW (e_eaccess y w5) ?_); clear hA ac hW; intro w7 hW hfw7 ac hA
  refine st_p (vB (decide (y.kind = 2 ∨ y.kind = 3))) hA fun ac hA => st_p (vB (decide (y.kind = 2 ∨ y.kind = 3))) hA fun ac hA => ?_
  rcases Bool.eq_false_or_eq_true (decide (y.kind = 2 ∨ y.kind = 3)) with h8 | h8
  ·
   rw [h8] at hA
   have h8 := of_decide_eq_true h8
   refine st_p (pA b1 4) hA fun ac hA => st_q (vI .u32 x.addr) hA hW.cls (rl b1 4 1) fun ac hA => st_p (pA b3 4) hA fun ac hA => st_q (vI .u32 y.addr) hA hW.cls (rl b3 4 0) fun ac hA => st_p (vB ((x.addr : Int) == (y.addr : Int))) hA fun ac hA => st_p (vB ((x.addr : Int) == (y.addr : Int))) hA fun ac hA => st_p (vB ((x.addr : Int) == (y.addr : Int))) hA fun ac hA => ?_
   rcases Bool.eq_false_or_eq_true ((x.addr : Int) == (y.addr : Int)) with h9 | h9
   ·
    rw [h9] at hA
    have h9 := eq_of_beq h9
    refine st_p (pA b1 1) hA fun ac hA => st_q (vI .i64 x.kind) hA hW.cls (rl b1 1 1) fun ac hA => st_p (vB ((x.kind : Int) == (3 : Int))) hA fun ac hA => st_p (vB ((x.kind : Int) == (3 : Int))) hA fun ac hA => ?_
    rcases Bool.eq_false_or_eq_true ((x.kind : Int) == (3 : Int)) with h10 | h10
    ·
     rw [h10] at hA
     have h10 := eq_of_beq h10
     refine st_k hA fun ac hA => st_k hA fun ac hA => st_k hA fun ac hA => st_p (vB true) hA fun ac hA => st_p (vB true) hA fun ac hA => st_p (vB true) hA fun ac hA => wn <| wp_ret <| r1 (vB true) hA ?_
     clear hA
     exact ⟨retv (congrArg vB (decide_eq_true (by unfold EvConf; omega)).symm), hW.fr⟩
    rw [h10] at hA
    have h10 := ne_of_beq_false h10
    refine st_p (pA b3 1) hA fun ac hA => st_q (vI .i64 y.kind) hA hW.cls (rl b3 1 0) fun ac hA => st_p (vB ((y.kind : Int) == (3 : Int))) hA fun ac hA => st_p (vB ((y.kind : Int) == (3 : Int))) hA fun ac hA => st_p (vB ((y.kind : Int) == (3 : Int))) hA fun ac hA => st_p (vB ((y.kind : Int) == (3 : Int))) hA fun ac hA => wn <| wp_ret <| r1 (vB ((y.kind : Int) == (3 : Int))) hA ?_
    clear hA
    refine ⟨retv (congrArg vB ?_), hW.fr⟩
    rcases Bool.eq_false_or_eq_true ((y.kind : Int) == (3 : Int)) with q_ | q_
    · rw [q_]
      have q_ := eq_of_beq q_
      exact (decide_eq_true (by unfold EvConf; omega)).symm
    · rw [q_]
      have q_ := ne_of_beq_false q_
      exact (decide_eq_false (by unfold EvConf; omega)).symm
   rw [h9] at hA
   have h9 := ne_of_beq_false h9
   refine st_k hA fun ac hA => st_k hA fun ac hA => st_k hA fun ac hA => st_k hA fun ac hA => st_k hA fun ac hA => st_k hA fun ac hA => st_k hA fun ac hA => st_k hA fun ac hA => st_p (vB false) hA fun ac hA => st_p (vB false) hA fun ac hA => wn <| wp_ret <| r1 (vB false) hA ?_
   clear hA
   exact ⟨retv (congrArg vB (decide_eq_false (by unfold EvConf; omega)).symm), hW.fr⟩
  rw [h8] at hA
  have h8 := of_decide_eq_false h8
  refine st_k hA fun ac hA => st_k hA fun ac hA => st_k hA fun ac hA => st_k hA fun ac hA => st_k hA fun ac hA => st_p (vB false) hA fun ac hA => st_p (vB false) hA fun ac hA => st_k hA fun ac hA => st_k hA fun ac hA => st_k hA fun ac hA => st_k hA fun ac hA => st_k hA fun ac hA => st_k hA fun ac hA => st_k hA fun ac hA => st_k hA fun ac hA => st_p (vB false) hA fun ac hA => st_p (vB false) hA fun ac hA => wn <| wp_ret <| r1 (vB false) hA ?_
  clear hA
  exact ⟨retv (congrArg vB (decide_eq_false (by unfold EvConf; omega)).symm), hW.fr⟩
 rw [h6] at hA
 have h6 := of_decide_eq_false h6
 refine st_k hA fun ac hA => st_k hA fun ac hA => st_p (vB false) hA fun ac hA => st_p (vB false) hA fun ac hA => st_k hA fun ac hA => st_k hA fun ac hA => st_k hA fun ac hA => st_k hA fun ac hA => st_k hA fun ac hA => st_p (vB false) hA fun ac hA => st_p (vB false) hA fun ac hA => st_k hA fun ac hA => st_k hA fun ac hA => st_k hA fun ac hA => st_k hA fun ac hA => st_k hA fun ac hA => st_k hA fun ac hA => st_k hA fun ac hA => st_k hA fun ac hA => st_p (vB false) hA fun ac hA => st_p (vB false) hA fun ac hA => wn <| wp_ret <| r1 (vB false) hA ?_
 clear hA
 exact ⟨retv (congrArg vB (decide_eq_false (by unfold EvConf; omega)).symm), hW.fr⟩

set_option maxRecDepth 100000 in
theorem e_r16acc (x : Event) (w : World)  : Calls Tryz.prog 38 #[x.v] w (fun e w' => e = .returned (vB (decide (x.kind = 2 ∨ x.kind = 3))) ∧ Fr No w w') := by
 refine enter_E 11 Tryz.func38 rfl rfl (by kernel_rfl) (L := [(0, x.v)]) (by kernel_rfl) ?_
 intro ac hA
 have hW := Ws.start w No
 refine wr <| st_s hA (Runs.cells (fun b => pA b 0) #[vI .i64 x.g, vI .i64 x.kind, vI .i64 x.site.f, vI .i64 x.site.pc, vI .u32 x.addr, vI .i64 x.child, vI .i64 x.obj, vI .i64 x.n, vI .i64 x.trap] 51 (fun _ => by kernel_rfl) hW ?_); clear hA ac hW; intro b1 w2 hW hb1 hfw2 ac hA
 refine st_p (vB false) hA ?_; clear hA ac; intro ac hA
 refine wn <| wr <| st_p (pA b1 1) hA fun ac hA => st_q (vI .i64 x.kind) hA hW.cls (rl b1 1 0) fun ac hA => st_p (vB ((x.kind : Int) == (2 : Int))) hA fun ac hA => st_p (vB ((x.kind : Int) == (2 : Int))) hA fun ac hA => ?_
 rcases Bool.eq_false_or_eq_true ((x.kind : Int) == (2 : Int)) with h3 | h3
 ·
  rw [h3] at hA
  have h3 := eq_of_beq h3
  refine st_k hA fun ac hA => st_k hA fun ac hA => st_k hA fun ac hA => st_p (vB true) hA fun ac hA => st_p (vB true) hA fun ac hA => wn <| wp_ret <| r1 (vB true) hA ?_
  clear hA
  exact ⟨retv (congrArg vB (decide_eq_true (by omega)).symm), hW.fr⟩
 rw [h3] at hA
 have h3 := ne_of_beq_false h3
 refine st_p (pA b1 1) hA fun ac hA => st_q (vI .i64 x.kind) hA hW.cls (rl b1 1 0) fun ac hA => st_p (vB ((x.kind : Int) == (3 : Int))) hA fun ac hA => st_p (vB ((x.kind : Int) == (3 : Int))) hA fun ac hA => st_p (vB ((x.kind : Int) == (3 : Int))) hA fun ac hA => wn <| wp_ret <| r1 (vB ((x.kind : Int) == (3 : Int))) hA ?_
 clear hA
 refine ⟨retv (congrArg vB ?_), hW.fr⟩
 rcases Bool.eq_false_or_eq_true ((x.kind : Int) == (3 : Int)) with q_ | q_
 · rw [q_]
   have q_ := eq_of_beq q_
   exact (decide_eq_true (by omega)).symm
 · rw [q_]
   have q_ := ne_of_beq_false q_
   exact (decide_eq_false (by omega)).symm

set_option maxRecDepth 100000 in
theorem e_r16conf (x : Event) (y : Event) (w : World)  : Calls Tryz.prog 16 #[x.v, y.v] w (fun e w' => e = .returned (vB (evConf x y)) ∧ Fr No w w') := by
 refine enter_E 28 Tryz.func16 rfl rfl (by kernel_rfl) (L := [(0, x.v), (1, y.v)]) (by kernel_rfl) ?_
 intro ac hA
 have hW := Ws.start w No
 refine wr <| st_s hA (Runs.cells (fun b => pA b 0) #[vI .i64 x.g, vI .i64 x.kind, vI .i64 x.site.f, vI .i64 x.site.pc, vI .u32 x.addr, vI .i64 x.child, vI .i64 x.obj, vI .i64 x.n, vI .i64 x.trap] 51 (fun _ => by kernel_rfl) hW ?_); clear hA ac hW; intro b1 w2 hW hb1 hfw2 ac hA
 refine st_s hA (Runs.cells (fun b => pA b 0) #[vI .i64 y.g, vI .i64 y.kind, vI .i64 y.site.f, vI .i64 y.site.pc, vI .u32 y.addr, vI .i64 y.child, vI .i64 y.obj, vI .i64 y.n, vI .i64 y.trap] 51 (fun _ => by kernel_rfl) hW ?_); clear hA ac hW; intro b3 w4 hW hb3 hfw4 ac hA
 refine st_p (vB false) hA ?_; clear hA ac; intro ac hA
 refine wn <| wr <| st_q (vA #[vI .i64 x.g, vI .i64 x.kind, vI .i64 x.site.f, vI .i64 x.site.pc, vI .u32 x.addr, vI .i64 x.child, vI .i64 x.obj, vI .i64 x.n, vI .i64 x.trap]) hA hW.cls (rl b1 0 1) ?_; clear hA ac; intro ac hA
 refine st_s hA (Runs.callN (v := vB (decide (x.kind = 2 ∨ x.kind = 3))) (fun _ => by kernel_rfl) hW (e_r16acc x w4) ?_); clear hA ac hW; intro w5 hW hfw5 ac hA
 refine st_p (vB (decide (x.kind = 2 ∨ x.kind = 3))) hA ?_; clear hA ac; intro ac hA
 rcases Bool.eq_false_or_eq_true (decide (x.kind = 2 ∨ x.kind = 3)) with h6 | h6
 ·
  rw [h6] at hA
  have h6 := of_decide_eq_true h6
  refine st_q (vA #[vI .i64 y.g, vI .i64 y.kind, vI .i64 y.site.f, vI .i64 y.site.pc, vI .u32 y.addr, vI .i64 y.child, vI .i64 y.obj, vI .i64 y.n, vI .i64 y.trap]) hA hW.cls (rl b3 0 0) ?_; clear hA ac; intro ac hA
  refine st_s hA (Runs.callN (v := vB (decide (y.kind = 2 ∨ y.kind = 3))) (fun _ => by kernel_rfl) hW (e_r16acc y w5) ?_); clear hA ac hW; intro w7 hW hfw7 ac hA
  refine st_p (vB (decide (y.kind = 2 ∨ y.kind = 3))) hA fun ac hA => st_p (vB (decide (y.kind = 2 ∨ y.kind = 3))) hA fun ac hA => ?_
  rcases Bool.eq_false_or_eq_true (decide (y.kind = 2 ∨ y.kind = 3)) with h8 | h8
  ·
   rw [h8] at hA
   have h8 := of_decide_eq_true h8
   refine st_p (pA b1 4) hA fun ac hA => st_q (vI .u32 x.addr) hA hW.cls (rl b1 4 1) fun ac hA => st_p (pA b3 4) hA fun ac hA => st_q (vI .u32 y.addr) hA hW.cls (rl b3 4 0) fun ac hA => st_p (vB ((x.addr : Int) == (y.addr : Int))) hA fun ac hA => st_p (vB ((x.addr : Int) == (y.addr : Int))) hA fun ac hA => st_p (vB ((x.addr : Int) == (y.addr : Int))) hA fun ac hA => ?_
   rcases Bool.eq_false_or_eq_true ((x.addr : Int) == (y.addr : Int)) with h9 | h9
   ·
    rw [h9] at hA
    have h9 := eq_of_beq h9
    refine st_p (pA b1 1) hA fun ac hA => st_q (vI .i64 x.kind) hA hW.cls (rl b1 1 1) fun ac hA => st_p (vB ((x.kind : Int) == (3 : Int))) hA fun ac hA => st_p (vB ((x.kind : Int) == (3 : Int))) hA fun ac hA => ?_
    rcases Bool.eq_false_or_eq_true ((x.kind : Int) == (3 : Int)) with h10 | h10
    ·
     rw [h10] at hA
     have h10 := eq_of_beq h10
     refine st_k hA fun ac hA => st_k hA fun ac hA => st_k hA fun ac hA => st_p (vB true) hA fun ac hA => st_p (vB true) hA fun ac hA => st_p (vB true) hA fun ac hA => wn <| wp_ret <| r1 (vB true) hA ?_
     clear hA
     exact ⟨retv (congrArg vB (decide_eq_true (by unfold EvConf; omega)).symm), hW.fr⟩
    rw [h10] at hA
    have h10 := ne_of_beq_false h10
    refine st_p (pA b3 1) hA fun ac hA => st_q (vI .i64 y.kind) hA hW.cls (rl b3 1 0) fun ac hA => st_p (vB ((y.kind : Int) == (3 : Int))) hA fun ac hA => st_p (vB ((y.kind : Int) == (3 : Int))) hA fun ac hA => st_p (vB ((y.kind : Int) == (3 : Int))) hA fun ac hA => st_p (vB ((y.kind : Int) == (3 : Int))) hA fun ac hA => wn <| wp_ret <| r1 (vB ((y.kind : Int) == (3 : Int))) hA ?_
    clear hA
    refine ⟨retv (congrArg vB ?_), hW.fr⟩
    rcases Bool.eq_false_or_eq_true ((y.kind : Int) == (3 : Int)) with q_ | q_
    · rw [q_]
      have q_ := eq_of_beq q_
      exact (decide_eq_true (by unfold EvConf; omega)).symm
    · rw [q_]
      have q_ := ne_of_beq_false q_
      exact (decide_eq_false (by unfold EvConf; omega)).symm
   rw [h9] at hA
   have h9 := ne_of_beq_false h9
   refine st_k hA fun ac hA => st_k hA fun ac hA => st_k hA fun ac hA => st_k hA fun ac hA => st_k hA fun ac hA => st_k hA fun ac hA => st_k hA fun ac hA => st_k hA fun ac hA => st_p (vB false) hA fun ac hA => st_p (vB false) hA fun ac hA => wn <| wp_ret <| r1 (vB false) hA ?_
   clear hA
   exact ⟨retv (congrArg vB (decide_eq_false (by unfold EvConf; omega)).symm), hW.fr⟩
  rw [h8] at hA
  have h8 := of_decide_eq_false h8
  refine st_k hA fun ac hA => st_k hA fun ac hA => st_k hA fun ac hA => st_k hA fun ac hA => st_k hA fun ac hA => st_p (vB false) hA fun ac hA => st_p (vB false) hA fun ac hA => st_k hA fun ac hA => st_k hA fun ac hA => st_k hA fun ac hA => st_k hA fun ac hA => st_k hA fun ac hA => st_k hA fun ac hA => st_k hA fun ac hA => st_k hA fun ac hA => st_p (vB false) hA fun ac hA => st_p (vB false) hA fun ac hA => wn <| wp_ret <| r1 (vB false) hA ?_
  clear hA
  exact ⟨retv (congrArg vB (decide_eq_false (by unfold EvConf; omega)).symm), hW.fr⟩
 rw [h6] at hA
 have h6 := of_decide_eq_false h6
 refine st_k hA fun ac hA => st_k hA fun ac hA => st_p (vB false) hA fun ac hA => st_p (vB false) hA fun ac hA => st_k hA fun ac hA => st_k hA fun ac hA => st_k hA fun ac hA => st_k hA fun ac hA => st_k hA fun ac hA => st_p (vB false) hA fun ac hA => st_p (vB false) hA fun ac hA => st_k hA fun ac hA => st_k hA fun ac hA => st_k hA fun ac hA => st_k hA fun ac hA => st_k hA fun ac hA => st_k hA fun ac hA => st_k hA fun ac hA => st_k hA fun ac hA => st_p (vB false) hA fun ac hA => st_p (vB false) hA fun ac hA => wn <| wp_ret <| r1 (vB false) hA ?_
 clear hA
 exact ⟨retv (congrArg vB (decide_eq_false (by unfold EvConf; omega)).symm), hW.fr⟩

set_option maxRecDepth 100000 in
theorem e_with1 (i : Int) (m : Nat) (Ae : Option Addr) (ce : Nat) (E : List Event) (Ak : Option Addr) (ck : Nat) (C : List SV) (bg : Nat) (G : List (Int × SV)) (bt : Nat) (T : List (Thing × SV)) (bl : Nat) (y : Event) (be : Nat) (bj : Nat) (j : Int) (w : World) (ho_blo : (OrdR m Ae ce E Ak ck C bg G bt T).p w) (hl_blo : ∀ x_ ∈ (OrdR m Ae ce E Ak ck C bg G bt T).fp, x_ < w.heap.size) (ho_bl : w.heap[bl]? = some (.cells #[pA m 0] 96 (0, 0))) (ho_be : w.heap[be]? = some (.cells #[vI .i64 y.g, vI .i64 y.kind, vI .i64 y.site.f, vI .i64 y.site.pc, vI .u32 y.addr, vI .i64 y.child, vI .i64 y.obj, vI .i64 y.n, vI .i64 y.trap] 51 (0, 0))) (ho_bj : w.heap[bj]? = some (.cells #[vI .i64 j] 3 (0, 0))) (hok : OrdOk E C G T) (hi : -9223372036854775808 ≤ i ∧ i ≤ 9223372036854775807) (hj : -9223372036854775808 ≤ j ∧ j ≤ 9223372036854775807) : Calls Tryz.prog 70 #[vI .i64 i, pA bl 0, pA be 0, pA bj 0] w (fun e w' => e = .returned (vB (raceY E y i j)) ∧ Fr No w w') := by
 have _hu := ho_bl; clear _hu
 have _hu := ho_be; clear _hu
 have _hu := ho_bj; clear _hu
 have _hu := ho_blo; have _hv := hl_blo; clear _hu _hv
 have _hu := hok; clear _hu
 have _hu := hi; clear _hu
 have _hu := hj; clear _hu
 have hlen_ := hok.len
 refine enter_E 25 Tryz.func70 rfl rfl (by kernel_rfl) (L := [(0, vI .i64 i), (1, pA bl 0), (2, pA be 0), (3, pA bj 0)]) (by kernel_rfl) ?_
 intro ac hA
 have hW := Ws.start w No
 have hW := hW.celG ho_bl
 have hW := hW.celG ho_be
 have hW := hW.celG ho_bj
 have hW := hW.addG (OrdR m Ae ce E Ak ck C bg G bt T) ho_blo hl_blo (by simp)
 clear ho_blo hl_blo
 refine wr <| st_p (vB false) hA ?_; clear hA ac; intro ac hA
 refine wn <| wr <| st_p (pA bl 0) hA fun ac hA => st_q (pA m 0) hA hW.cls (Rd.load (b := bl) (i := 0) (by kernel_rfl) (fun _ hw => show _ = _ from (hw.1).getG 3 rfl) (by kernel_rfl)) fun ac hA => st_p (vI .i64 i) hA fun ac hA => st_s hA (Runs.callN (v := vT #[(evAt E (i)).v, vB (decide (0 ≤ (i) ∧ (i) < (E.length : Int)))]) (fun _ => by kernel_rfl) hW (e_oevent m Ae ce E Ak ck C bg G bt T (i) w ((hW).getG 0 rfl) ((hW).glt _ (List.mem_of_getElem? (i := 0) rfl)) (by first | omega | assumption | exact ⟨by omega, by omega⟩) (by first | omega | assumption | exact ⟨by omega, by omega⟩)) ?_); clear hA ac hW; intro w1 hW hfw1 ac hA
 refine st_p (vT #[(evAt E (i)).v, vB (decide (0 ≤ (i) ∧ (i) < (E.length : Int)))]) hA fun ac hA => st_p ((evAt E (i)).v) hA fun ac hA => st_p (vB (decide (0 ≤ (i) ∧ (i) < (E.length : Int)))) hA fun ac hA => st_s hA (Runs.cells (fun b => pA b 0) #[vI .i64 0, vI .i64 0, vI .i64 0, vI .i64 0, vI .u32 0, vI .i64 0, vI .i64 0, vI .i64 0, vI .i64 0] 51 (fun _ => by kernel_rfl) hW ?_); clear hA ac hW; intro b2 w3 hW hb2 hfw3 ac hA
 refine st_s hA (Runs.store (v := (evAt E (i)).v) (b := b2) (j := 0) (n := 9) (cs' := #[vI .i64 (evAt E (i)).g, vI .i64 (evAt E (i)).kind, vI .i64 (evAt E (i)).site.f, vI .i64 (evAt E (i)).site.pc, vI .u32 (evAt E (i)).addr, vI .i64 (evAt E (i)).child, vI .i64 (evAt E (i)).obj, vI .i64 (evAt E (i)).n, vI .i64 (evAt E (i)).trap]) (H' := [Cel b2 #[vI .i64 (evAt E (i)).g, vI .i64 (evAt E (i)).kind, vI .i64 (evAt E (i)).site.f, vI .i64 (evAt E (i)).site.pc, vI .u32 (evAt E (i)).addr, vI .i64 (evAt E (i)).child, vI .i64 (evAt E (i)).obj, vI .i64 (evAt E (i)).n, vI .i64 (evAt E (i)).trap] 51]) (by kernel_rfl) (by kernel_rfl) (by kernel_rfl) (by kernel_rfl) (by kernel_rfl) hW 0 (by rfl) (Nat.le_of_ble_eq_true (by kernel_rfl)) (by kernel_rfl) (by rfl) ?_); clear hA ac hW; intro w4 hW ac hA
 refine st_p (vB (decide (0 ≤ (i) ∧ (i) < (E.length : Int)))) hA ?_; clear hA ac; intro ac hA
 refine wn <| wr <| st_q (vA #[vI .i64 (evAt E (i)).g, vI .i64 (evAt E (i)).kind, vI .i64 (evAt E (i)).site.f, vI .i64 (evAt E (i)).site.pc, vI .u32 (evAt E (i)).addr, vI .i64 (evAt E (i)).child, vI .i64 (evAt E (i)).obj, vI .i64 (evAt E (i)).n, vI .i64 (evAt E (i)).trap]) hA hW.cls (rl b2 0 0) fun ac hA => st_q (vA #[vI .i64 y.g, vI .i64 y.kind, vI .i64 y.site.f, vI .i64 y.site.pc, vI .u32 y.addr, vI .i64 y.child, vI .i64 y.obj, vI .i64 y.n, vI .i64 y.trap]) hA hW.cls (Rd.load (b := be) (i := 0) (by kernel_rfl) (fun _ hw => show _ = _ from (hw.1).getG 2 rfl) (by kernel_rfl)) fun ac hA => st_s hA (Runs.callN (v := vB (evConf (evAt E (i)) y)) (fun _ => by kernel_rfl) hW (e_econf (evAt E (i)) y w4) ?_); clear hA ac hW; intro w5 hW hfw5 ac hA
 refine st_p (vB (evConf (evAt E (i)) y)) hA ?_; clear hA ac; intro ac hA
 rcases Bool.eq_false_or_eq_true (evConf (evAt E (i)) y) with h6 | h6
 ·
  rw [h6] at hA
  refine st_p (pA bl 0) hA fun ac hA => st_q (pA m 0) hA hW.cls (Rd.load (b := bl) (i := 0) (by kernel_rfl) (fun _ hw => show _ = _ from (hw.1).getG 3 rfl) (by kernel_rfl)) fun ac hA => st_p (vI .i64 i) hA fun ac hA => st_q (vI .i64 j) hA hW.cls (Rd.load (b := bj) (i := 0) (by kernel_rfl) (fun _ hw => show _ = _ from (hw.1).getG 1 rfl) (by kernel_rfl)) fun ac hA => st_s hA (Runs.callN (v := vB (apartE E (i) (j))) (fun _ => by kernel_rfl) hW (e_oapart m Ae ce E Ak ck C bg G bt T (i) (j) w5 ((hW).getG 0 rfl) ((hW).glt _ (List.mem_of_getElem? (i := 0) rfl)) (by first | omega | assumption | exact ⟨by omega, by omega⟩) (by first | omega | assumption | exact ⟨by omega, by omega⟩) (by first | omega | assumption | exact ⟨by omega, by omega⟩)) ?_); clear hA ac hW; intro w7 hW hfw7 ac hA
  refine st_p (vB (apartE E (i) (j))) hA fun ac hA => st_p (vB (apartE E (i) (j))) hA fun ac hA => wn <| wp_ret <| r1 (vB (apartE E (i) (j))) hA ?_
  clear hA
  exact ⟨retv (congrArg vB (by unfold raceY; rw [h6]; rfl)), hW.fr⟩
 rw [h6] at hA
 refine st_k hA fun ac hA => st_k hA fun ac hA => st_k hA fun ac hA => st_k hA fun ac hA => st_k hA fun ac hA => st_p (vB false) hA fun ac hA => st_p (vB false) hA fun ac hA => wn <| wp_ret <| r1 (vB false) hA ?_
 clear hA
 exact ⟨retv (congrArg vB (by unfold raceY; rw [h6]; rfl)), hW.fr⟩

set_option maxRecDepth 100000 in
theorem e_rsift (n : Int) (m : Nat) (Ae : Option Addr) (ce : Nat) (E : List Event) (Ak : Option Addr) (ck : Nat) (C : List SV) (bg : Nat) (G : List (Int × SV)) (bt : Nat) (T : List (Thing × SV)) (bl : Nat) (y : Event) (be : Nat) (bj : Nat) (j : Int) (w : World) (ho_blo : (OrdR m Ae ce E Ak ck C bg G bt T).p w) (hl_blo : ∀ x_ ∈ (OrdR m Ae ce E Ak ck C bg G bt T).fp, x_ < w.heap.size) (ho_bl : w.heap[bl]? = some (.cells #[pA m 0] 96 (0, 0))) (ho_be : w.heap[be]? = some (.cells #[vI .i64 y.g, vI .i64 y.kind, vI .i64 y.site.f, vI .i64 y.site.pc, vI .u32 y.addr, vI .i64 y.child, vI .i64 y.obj, vI .i64 y.n, vI .i64 y.trap] 51 (0, 0))) (ho_bj : w.heap[bj]? = some (.cells #[vI .i64 j] 3 (0, 0))) (hok : OrdOk E C G T) (hj : -9223372036854775808 ≤ j ∧ j ≤ 9223372036854775807) (hn : n ≤ 4096) : Calls Tryz.prog 69 #[vI .i64 n, vF (.func 70) #[] #[pA bl 0, pA be 0, pA bj 0]] w (Fresh 3 1 enI64 (withY E (Int.toNat n) y j) w) := by
 have _hu := ho_bl; clear _hu
 have _hu := ho_be; clear _hu
 have _hu := ho_bj; clear _hu
 have _hu := ho_blo; have _hv := hl_blo; clear _hu _hv
 have _hu := hok; clear _hu
 have _hu := hj; clear _hu
 have _hu := hn; clear _hu
 have hlc_ := hok.clen; have hll_ := hok.len
 refine enter_E 20 Tryz.func69 rfl rfl (by kernel_rfl) (L := [(0, vI .i64 n), (1, vF (.func 70) #[] #[pA bl 0, pA be 0, pA bj 0])]) (by kernel_rfl) ?_
 intro ac hA
 have hW := Ws.start w No
 have hW := hW.celG ho_bl
 have hW := hW.celG ho_be
 have hW := hW.celG ho_bj
 have hW := hW.addG (OrdR m Ae ce E Ak ck C bg G bt T) ho_blo hl_blo (by simp)
 clear ho_blo hl_blo
 refine wr <| st_p (vS none 0 0) hA ?_; clear hA ac; intro ac hA
 refine wn <| wp_seq <| wr <| st_p (vI .i64 0) hA fun ac hA => st_p (vI .i64 0) hA fun ac hA => wn <| wp_block ?_
 have hW := hW.addNil 3 1 enI64
 refine wp_loop_m (fun m_ ac_ wl_ => ∃ k : Nat, ∃ d : List Int, ∃ A : Option Addr, ∃ cc : Nat, m_ = n.toNat - k ∧ (d = withY E k y j) ∧ (k = 0 ∨ (k : Int) ≤ n) ∧ (d.length ≤ cc) ∧ Fm 20 [] [(0, vI .i64 n), (1, vF (.func 70) #[] #[pA bl 0, pA be 0, pA bj 0]), (4, vS A d.length cc), (5, vI .i64 (k : Int))] ac_ ∧ Ws w No [rowR 3 1 enI64 (vS A d.length cc) d] [OrdR m Ae ce E Ak ck C bg G bt T, Cel bj #[vI .i64 j] 3, Cel be #[vI .i64 y.g, vI .i64 y.kind, vI .i64 y.site.f, vI .i64 y.site.pc, vI .u32 y.addr, vI .i64 y.child, vI .i64 y.obj, vI .i64 y.n, vI .i64 y.trap] 51, Cel bl #[pA m 0] 96] wl_) _ ⟨0, [], none, 0, rfl, by rfl, by omega, by simp, hA.sub (by and_intros <;> first | kernel_rfl | trivial), (hW.pick [0] (by decide) rfl).pickG [0, 1, 2, 3] rfl⟩ ?_
 clear hA ac hW; rintro m_ ac w1 ⟨k, d, A, cc, rfl, hd, hk, hcc, hA, hW⟩
 have hwl_ : d.length ≤ k := by rw [hd]; exact with_len E k y j
 refine wp_seq <| wr <| st_p (vI .i64 (k : Int)) hA fun ac hA => st_p (vI .i64 n) hA fun ac hA => st_p (vB (decide ((k : Int) < (n : Int)))) hA fun ac hA => wn <| wp_cond_split (t := decide ((k : Int) < (n : Int))) (hA.eval (by kernel_rfl)) (fun h2 => ?_) (fun h2 => ?_)
 ·
  have h2 := of_decide_eq_true h2
  refine wp_skip <| thenN <| wp_seq <| wp_block <| wr <| st_p (vF (.func 70) #[] #[pA bl 0, pA be 0, pA bj 0]) hA fun ac hA => st_p (vI .i64 (k : Int)) hA fun ac hA => st_s hA (Runs.callN (v := vB (raceY E y (k : Int) (j : Int))) (fun _ => by kernel_rfl) hW (e_with1 (k : Int) m Ae ce E Ak ck C bg G bt T bl y be bj (j : Int) w1 ((hW).getG 0 rfl) ((hW).glt _ (List.mem_of_getElem? (i := 0) rfl)) (show _ = _ from (hW).getG 3 rfl) (show _ = _ from (hW).getG 2 rfl) (show _ = _ from (hW).getG 1 rfl) (by first | omega | assumption | exact ⟨by omega, by omega⟩) (by first | omega | assumption | exact ⟨by omega, by omega⟩) (by first | omega | assumption | exact ⟨by omega, by omega⟩)) ?_); clear hA ac hW; intro w3 hW hfw3 ac hA
  refine wn <| wp_cond_split (t := raceY E y (k : Int) (j : Int)) (hA.eval (by kernel_rfl)) (fun h4 => ?_) (fun h4 => ?_)
  ·
   refine wp_region_lit <| st_p (vS A d.length cc) hA fun ac hA => st_p (vI .i64 (k : Int)) hA fun ac hA => st_s hA (Runs.cells (fun b => vS (some ⟨b, 0, none⟩) 1 1) #[vI .i64 (k : Int)] 3 (fun _ => by kernel_rfl) hW ?_); clear hA ac hW; intro b5 w6 hW hb5 hfw6 ac hA
   refine st_s hA (Runs.appOwn (B := (some ⟨b5, 0, none⟩)) (k := 1) (E := 3) (sz := 1) (en := enI64) (l := d) (m := ([(k : Int)] : List Int)) (i := 1) (by kernel_rfl) (by kernel_rfl) elt_I64 (by kernel_rfl) hW rfl (rowAt_cel ((hW).cel 0 rfl) ([(k : Int)] : List Int) (by rfl) elt_I64.len) (by first | omega | (simp; done) | (simp; omega)) (by first | omega | (simp; done) | (simp; omega)) ?_); clear hA ac hW; intro A7 c8 w9 hW hcc8 ac hA
   refine st_p (vS A7 (d ++ ([(k : Int)] : List Int)).length c8) hA ?_; clear hA ac; intro ac hA
   refine wpList_nil <| blkN <| thenN <| wp_region_lit <| st_p (vI .i64 (k : Int)) hA fun ac hA => st_q (vI .i64 ((k + 1 : Nat) : Int)) hA hW.cls (Rd.pureE (v0 := vI .i64 (IntKind.i64.wrap ((k : Int) + 1))) (fun _ => by kernel_rfl) (congrArg (vI .i64) ((w_i64 (x := (k : Int) + 1) (by omega) (by omega)).trans (by omega)))) fun ac hA => st_p (vI .i64 ((k + 1 : Nat) : Int)) hA fun ac hA => wn ?_
   exact ⟨n.toNat - (k + 1), by omega, k + 1, d ++ ([(k : Int)] : List Int), A7, c8, rfl, by rw [with_snoc, if_pos h4, hd], by omega, by exact hcc8, hA.sub (by and_intros <;> first | kernel_rfl | trivial), (hW.pick [1] (by decide) rfl).pickG [0, 1, 2, 3] rfl⟩
  refine wp_skip <| blkN <| thenN <| wp_region_lit <| st_p (vI .i64 (k : Int)) hA fun ac hA => st_q (vI .i64 ((k + 1 : Nat) : Int)) hA hW.cls (Rd.pureE (v0 := vI .i64 (IntKind.i64.wrap ((k : Int) + 1))) (fun _ => by kernel_rfl) (congrArg (vI .i64) ((w_i64 (x := (k : Int) + 1) (by omega) (by omega)).trans (by omega)))) fun ac hA => st_p (vI .i64 ((k + 1 : Nat) : Int)) hA fun ac hA => wn ?_
  exact ⟨n.toNat - (k + 1), by omega, k + 1, d, A, cc, rfl, by rw [with_snoc, if_neg (by rw [h4]; decide), hd, List.append_nil], by omega, by exact hcc, hA.sub (by and_intros <;> first | kernel_rfl | trivial), (hW.pick [0] (by decide) rfl).pickG [0, 1, 2, 3] rfl⟩
 have h2 := of_decide_eq_false h2
 refine wp_exit <| thenX <| thenX <| blkX <| thenN <| wr <| st_p (vS A d.length cc) hA fun ac hA => st_p (vS A d.length cc) hA fun ac hA => wn <| wp_ret <| r1 (vS A d.length cc) hA ?_
 clear hA
 have hq_ : withY E n.toNat y j = d := by rw [hd, show k = n.toNat from by omega]
 rw [hq_]; exact ⟨_, rfl, hW.fresh 0 rfl (fun _ h => h), hW.fr⟩

set_option maxRecDepth 100000 in
theorem e_rwith (m : Nat) (Ae : Option Addr) (ce : Nat) (E : List Event) (Ak : Option Addr) (ck : Nat) (C : List SV) (bg : Nat) (G : List (Int × SV)) (bt : Nat) (T : List (Thing × SV)) (j : Int) (w : World) (ho_o : (OrdR m Ae ce E Ak ck C bg G bt T).p w) (hl_o : ∀ x_ ∈ (OrdR m Ae ce E Ak ck C bg G bt T).fp, x_ < w.heap.size) (hok : OrdOk E C G T) (hj : -9223372036854775808 ≤ j ∧ j ≤ 9223372036854775807) : Calls Tryz.prog 47 #[vA #[pA m 0], vI .i64 j] w (Fresh 3 1 enI64 (withE E j) w) := by
 have _hu := ho_o; have _hv := hl_o; clear _hu _hv
 have _hu := hok; clear _hu
 have _hu := hj; clear _hu
 have hlen_ := hok.len
 refine enter_E 19 Tryz.func47 rfl rfl (by kernel_rfl) (L := [(0, vA #[pA m 0]), (1, vI .i64 j)]) (by kernel_rfl) ?_
 intro ac hA
 have hW := Ws.start w No
 have hW := hW.addG (OrdR m Ae ce E Ak ck C bg G bt T) ho_o hl_o (by simp)
 clear ho_o hl_o
 refine wr <| st_s hA (Runs.cells (fun b => pA b 0) #[pA m 0] 96 (fun _ => by kernel_rfl) hW ?_); clear hA ac hW; intro b1 w2 hW hb1 hfw2 ac hA
 refine st_s hA (Runs.cells (fun b => pA b 0) #[vI .i64 j] 3 (fun _ => by kernel_rfl) hW ?_); clear hA ac hW; intro b3 w4 hW hb3 hfw4 ac hA
 refine st_p (vS none 0 0) hA ?_; clear hA ac; intro ac hA
 refine wn <| wr <| st_p (pA b1 0) hA fun ac hA => st_q (pA m 0) hA hW.cls (rl b1 0 1) fun ac hA => st_q (vI .i64 j) hA hW.cls (rl b3 0 0) fun ac hA => st_s hA (Runs.callN (v := vT #[(evAt E (j)).v, vB (decide (0 ≤ (j) ∧ (j) < (E.length : Int)))]) (fun _ => by kernel_rfl) hW (e_oevent m Ae ce E Ak ck C bg G bt T (j) w4 ((hW).getG 0 rfl) ((hW).glt _ (List.mem_of_getElem? (i := 0) rfl)) (by first | omega | assumption | exact ⟨by omega, by omega⟩) (by first | omega | assumption | exact ⟨by omega, by omega⟩)) ?_); clear hA ac hW; intro w5 hW hfw5 ac hA
 refine st_p (vT #[(evAt E (j)).v, vB (decide (0 ≤ (j) ∧ (j) < (E.length : Int)))]) hA fun ac hA => st_p ((evAt E (j)).v) hA fun ac hA => st_p (vB (decide (0 ≤ (j) ∧ (j) < (E.length : Int)))) hA fun ac hA => st_s hA (Runs.cells (fun b => pA b 0) #[vI .i64 0, vI .i64 0, vI .i64 0, vI .i64 0, vI .u32 0, vI .i64 0, vI .i64 0, vI .i64 0, vI .i64 0] 51 (fun _ => by kernel_rfl) hW ?_); clear hA ac hW; intro b6 w7 hW hb6 hfw7 ac hA
 refine st_s hA (Runs.store (v := (evAt E (j)).v) (b := b6) (j := 0) (n := 9) (cs' := #[vI .i64 (evAt E (j)).g, vI .i64 (evAt E (j)).kind, vI .i64 (evAt E (j)).site.f, vI .i64 (evAt E (j)).site.pc, vI .u32 (evAt E (j)).addr, vI .i64 (evAt E (j)).child, vI .i64 (evAt E (j)).obj, vI .i64 (evAt E (j)).n, vI .i64 (evAt E (j)).trap]) (H' := [Cel b6 #[vI .i64 (evAt E (j)).g, vI .i64 (evAt E (j)).kind, vI .i64 (evAt E (j)).site.f, vI .i64 (evAt E (j)).site.pc, vI .u32 (evAt E (j)).addr, vI .i64 (evAt E (j)).child, vI .i64 (evAt E (j)).obj, vI .i64 (evAt E (j)).n, vI .i64 (evAt E (j)).trap] 51, Cel b3 #[vI .i64 j] 3, Cel b1 #[pA m 0] 96]) (by kernel_rfl) (by kernel_rfl) (by kernel_rfl) (by kernel_rfl) (by kernel_rfl) hW 0 (by rfl) (Nat.le_of_ble_eq_true (by kernel_rfl)) (by kernel_rfl) (by rfl) ?_); clear hA ac hW; intro w8 hW ac hA
 refine st_p (vB (decide (0 ≤ (j) ∧ (j) < (E.length : Int)))) hA ?_; clear hA ac; intro ac hA
 refine wn <| wp_seq <| wr <| st_p (vB (decide (0 ≤ (j) ∧ (j) < (E.length : Int)))) hA fun ac hA => st_p (vB (!(decide (0 ≤ (j) ∧ (j) < (E.length : Int))))) hA fun ac hA => wn <| wp_cond_split (t := !(decide (0 ≤ (j) ∧ (j) < (E.length : Int)))) (hA.eval (by kernel_rfl)) (fun h9 => ?_) (fun h9 => ?_)
 ·
  have h9 := not_t h9
  have h9 := of_decide_eq_false h9
  refine wr <| st_p (vS none 0 0) hA ?_; clear hA ac; intro ac hA
  refine wn <| wp_ret <| thenR <| r1 (vS none 0 0) hA ?_
  clear hA
  rw [show withE E j = [] from by unfold withE; rw [if_neg (by omega)]]
  have hW := hW.addNil 3 1 enI64
  exact ⟨_, rfl, hW.fresh 0 rfl (fun _ h => h), hW.fr⟩
 have h9 := not_f h9
 have h9 := of_decide_eq_true h9
 refine wp_skip <| thenN <| wr <| st_q (vI .i64 j) hA hW.cls (rl b3 0 1) fun ac hA => st_p (vF (.func 70) #[] #[pA b1 0, pA b6 0, pA b3 0]) hA fun ac hA => st_s hA (Runs.callRow (E := 3) (sz := 1) (en := enI64) (l := (withY E (Int.toNat (j)) (evAt E (j)) (j : Int))) (fun _ => by kernel_rfl) hW (e_rsift (j) m Ae ce E Ak ck C bg G bt T b1 (evAt E (j)) b6 b3 (j : Int) w8 ((hW).getG 0 rfl) ((hW).glt _ (List.mem_of_getElem? (i := 0) rfl)) ((hW).cel 2 rfl) ((hW).cel 0 rfl) ((hW).cel 1 rfl) (by first | omega | assumption | exact ⟨by omega, by omega⟩) (by first | omega | assumption | exact ⟨by omega, by omega⟩) (by first | omega | assumption | exact ⟨by omega, by omega⟩)) ?_); clear hA ac hW; intro A11 c12 w10 hW hcc12 hfw10 ac hA
 refine st_p (vS A11 (withY E (Int.toNat (j)) (evAt E (j)) (j : Int)).length c12) hA ?_; clear hA ac; intro ac hA
 refine wn <| wp_ret <| r1 (vS A11 (withY E (Int.toNat (j)) (evAt E (j)) (j : Int)).length c12) hA ?_
 clear hA
 rw [show withE E j = withY E (Int.toNat (j)) (evAt E (j)) (j : Int) from by unfold withE; rw [if_pos (by omega)]]
 exact ⟨_, rfl, hW.fresh 0 rfl (fun _ h => h), hW.fr⟩

end Go.Proofs.YtfkbjfbbigbacaaGreatDoor.L
