/- Contracts, walked by program over the engine's laws. -/
import Derived.Test.YtoakhhilmnfpkaaGreatDoorProg
import Derived.Test.YtoakhhilmnfpkaaGreatDoorT3
namespace Go.Proofs.YtoakhhilmnfpkaaGreatDoor.L
open Go.RowKit
open Go.Value renaming int → vI, slice → vS, bool → vB, pointer → vP, func → vF, agg → vA, map → vM, tuple → vT

structure Event where
  g : Int
  kind : Int
  site : Site
  addr : Int
  child : Int
  obj : Int
  n : Int
  trap : Int
deriving DecidableEq
def Event.v (x : Event) : Value := .agg #[.int .i64 x.g, .int .i64 x.kind, .int .i64 x.site.f, .int .i64 x.site.pc, .int .u32 x.addr, .int .i64 x.child, .int .i64 x.obj, .int .i64 x.n, .int .i64 x.trap]
def enEvent (x : Event) : List Value := [.int .i64 x.g, .int .i64 x.kind, .int .i64 x.site.f, .int .i64 x.site.pc, .int .u32 x.addr, .int .i64 x.child, .int .i64 x.obj, .int .i64 x.n, .int .i64 x.trap]
theorem elt_Event : Elt Tryz.prog 43 9 enEvent := ⟨⟨vA #[vI .i64 0, vI .i64 0, vI .i64 0, vI .i64 0, vI .u32 0, vI .i64 0, vI .i64 0, vI .i64 0, vI .i64 0], 72, by kernel_rfl, rfl, by decide⟩, by decide, fun _ => rfl, fun x u hu => List.all_eq_true.1 (show (enEvent x).all (·.oneCell') = true from rfl) u hu⟩
def enStr (s : ByteArray) : List Value := [.string s]
theorem elt_Str : Elt Tryz.prog 9 1 enStr := ⟨⟨Value.string ByteArray.empty, 16, by kernel_rfl, rfl, by decide⟩, by decide, fun _ => rfl, fun x u hu => List.all_eq_true.1 (show (enStr x).all (·.oneCell') = true from rfl) u hu⟩
set_option maxRecDepth 100000 in
theorem eqIn_Site (d : Nat) (a b : Site) (w : World) : (Op.equalIn (d + 2) 40 a.v b.v).run Tryz.prog w = .ok (decide (a = b)) w := by
  have h := eq_struct (P := Tryz.prog) (d := d + 1) (t := 40) (u := a.v) (v := b.v) rfl rfl (by kernel_rfl) (by kernel_rfl) (eqF_cons { name := "Func", type := 3, offset := 0, embedded := false, tag := "", pkgPath := "", byteOffset := 0 } (fs := [{ name := "Pc", type := 3, offset := 1, embedded := false, tag := "", pkgPath := "", byteOffset := 8 }]) (u := vI .i64 a.f) (v := vI .i64 b.f) (r := (a.f == b.f)) (by kernel_rfl) (by decide) (fun _ => by kernel_rfl) (fun _ => by kernel_rfl) (fun _ => by kernel_rfl) (eqF_cons { name := "Pc", type := 3, offset := 1, embedded := false, tag := "", pkgPath := "", byteOffset := 8 } (fs := []) (u := vI .i64 a.pc) (v := vI .i64 b.pc) (r := (a.pc == b.pc)) (by kernel_rfl) (by decide) (fun _ => by kernel_rfl) (fun _ => by kernel_rfl) (fun _ => by kernel_rfl) (eqF_nil (by kernel_rfl)))) w
  rw [h]; congr 1
  obtain ⟨x0, x1⟩ := a; obtain ⟨y0, y1⟩ := b; rw [Bool.eq_iff_iff]; simp
theorem eq_Site (w : World) (a b : Site) : (Op.equal 40 a.v b.v).run Tryz.prog w = .ok (decide (a = b)) w := eqIn_Site 9998 a b w
theorem Site.eqi (a b : Site) : a = b ↔ a.f = b.f ∧ a.pc = b.pc := by
  obtain ⟨x0, x1⟩ := a; obtain ⟨y0, y1⟩ := b; simp
set_option maxRecDepth 100000 in
theorem eqIn_Event (d : Nat) (a b : Event) (w : World) : (Op.equalIn (d + 3) 43 a.v b.v).run Tryz.prog w = .ok (decide (a = b)) w := by
  have h := eq_struct (P := Tryz.prog) (d := d + 2) (t := 43) (u := a.v) (v := b.v) rfl rfl (by kernel_rfl) (by kernel_rfl) (eqF_cons { name := "G", type := 3, offset := 0, embedded := false, tag := "", pkgPath := "", byteOffset := 0 } (fs := [{ name := "Kind", type := 38, offset := 1, embedded := false, tag := "", pkgPath := "", byteOffset := 8 }, { name := "Site", type := 40, offset := 2, embedded := false, tag := "", pkgPath := "", byteOffset := 16 }, { name := "Addr", type := 32, offset := 4, embedded := false, tag := "", pkgPath := "", byteOffset := 32 }, { name := "Child", type := 3, offset := 5, embedded := false, tag := "", pkgPath := "", byteOffset := 40 }, { name := "Obj", type := 3, offset := 6, embedded := false, tag := "", pkgPath := "", byteOffset := 48 }, { name := "N", type := 2, offset := 7, embedded := false, tag := "", pkgPath := "", byteOffset := 56 }, { name := "Trap", type := 41, offset := 8, embedded := false, tag := "", pkgPath := "", byteOffset := 64 }]) (u := vI .i64 a.g) (v := vI .i64 b.g) (r := (a.g == b.g)) (by kernel_rfl) (by decide) (fun _ => by kernel_rfl) (fun _ => by kernel_rfl) (fun _ => by kernel_rfl) (eqF_cons { name := "Kind", type := 38, offset := 1, embedded := false, tag := "", pkgPath := "", byteOffset := 8 } (fs := [{ name := "Site", type := 40, offset := 2, embedded := false, tag := "", pkgPath := "", byteOffset := 16 }, { name := "Addr", type := 32, offset := 4, embedded := false, tag := "", pkgPath := "", byteOffset := 32 }, { name := "Child", type := 3, offset := 5, embedded := false, tag := "", pkgPath := "", byteOffset := 40 }, { name := "Obj", type := 3, offset := 6, embedded := false, tag := "", pkgPath := "", byteOffset := 48 }, { name := "N", type := 2, offset := 7, embedded := false, tag := "", pkgPath := "", byteOffset := 56 }, { name := "Trap", type := 41, offset := 8, embedded := false, tag := "", pkgPath := "", byteOffset := 64 }]) (u := vI .i64 a.kind) (v := vI .i64 b.kind) (r := (a.kind == b.kind)) (by kernel_rfl) (by decide) (fun _ => by kernel_rfl) (fun _ => by kernel_rfl) (fun _ => by kernel_rfl) (eqF_cons { name := "Site", type := 40, offset := 2, embedded := false, tag := "", pkgPath := "", byteOffset := 16 } (fs := [{ name := "Addr", type := 32, offset := 4, embedded := false, tag := "", pkgPath := "", byteOffset := 32 }, { name := "Child", type := 3, offset := 5, embedded := false, tag := "", pkgPath := "", byteOffset := 40 }, { name := "Obj", type := 3, offset := 6, embedded := false, tag := "", pkgPath := "", byteOffset := 48 }, { name := "N", type := 2, offset := 7, embedded := false, tag := "", pkgPath := "", byteOffset := 56 }, { name := "Trap", type := 41, offset := 8, embedded := false, tag := "", pkgPath := "", byteOffset := 64 }]) (u := a.site.v) (v := b.site.v) (r := decide (a.site = b.site)) (by kernel_rfl) (by decide) (fun _ => by kernel_rfl) (fun _ => by kernel_rfl) (eqIn_Site (d + 0) a.site b.site) (eqF_cons { name := "Addr", type := 32, offset := 4, embedded := false, tag := "", pkgPath := "", byteOffset := 32 } (fs := [{ name := "Child", type := 3, offset := 5, embedded := false, tag := "", pkgPath := "", byteOffset := 40 }, { name := "Obj", type := 3, offset := 6, embedded := false, tag := "", pkgPath := "", byteOffset := 48 }, { name := "N", type := 2, offset := 7, embedded := false, tag := "", pkgPath := "", byteOffset := 56 }, { name := "Trap", type := 41, offset := 8, embedded := false, tag := "", pkgPath := "", byteOffset := 64 }]) (u := vI .u32 a.addr) (v := vI .u32 b.addr) (r := (a.addr == b.addr)) (by kernel_rfl) (by decide) (fun _ => by kernel_rfl) (fun _ => by kernel_rfl) (fun _ => by kernel_rfl) (eqF_cons { name := "Child", type := 3, offset := 5, embedded := false, tag := "", pkgPath := "", byteOffset := 40 } (fs := [{ name := "Obj", type := 3, offset := 6, embedded := false, tag := "", pkgPath := "", byteOffset := 48 }, { name := "N", type := 2, offset := 7, embedded := false, tag := "", pkgPath := "", byteOffset := 56 }, { name := "Trap", type := 41, offset := 8, embedded := false, tag := "", pkgPath := "", byteOffset := 64 }]) (u := vI .i64 a.child) (v := vI .i64 b.child) (r := (a.child == b.child)) (by kernel_rfl) (by decide) (fun _ => by kernel_rfl) (fun _ => by kernel_rfl) (fun _ => by kernel_rfl) (eqF_cons { name := "Obj", type := 3, offset := 6, embedded := false, tag := "", pkgPath := "", byteOffset := 48 } (fs := [{ name := "N", type := 2, offset := 7, embedded := false, tag := "", pkgPath := "", byteOffset := 56 }, { name := "Trap", type := 41, offset := 8, embedded := false, tag := "", pkgPath := "", byteOffset := 64 }]) (u := vI .i64 a.obj) (v := vI .i64 b.obj) (r := (a.obj == b.obj)) (by kernel_rfl) (by decide) (fun _ => by kernel_rfl) (fun _ => by kernel_rfl) (fun _ => by kernel_rfl) (eqF_cons { name := "N", type := 2, offset := 7, embedded := false, tag := "", pkgPath := "", byteOffset := 56 } (fs := [{ name := "Trap", type := 41, offset := 8, embedded := false, tag := "", pkgPath := "", byteOffset := 64 }]) (u := vI .i64 a.n) (v := vI .i64 b.n) (r := (a.n == b.n)) (by kernel_rfl) (by decide) (fun _ => by kernel_rfl) (fun _ => by kernel_rfl) (fun _ => by kernel_rfl) (eqF_cons { name := "Trap", type := 41, offset := 8, embedded := false, tag := "", pkgPath := "", byteOffset := 64 } (fs := []) (u := vI .i64 a.trap) (v := vI .i64 b.trap) (r := (a.trap == b.trap)) (by kernel_rfl) (by decide) (fun _ => by kernel_rfl) (fun _ => by kernel_rfl) (fun _ => by kernel_rfl) (eqF_nil (by kernel_rfl)))))))))) w
  rw [h]; congr 1
  obtain ⟨x0, x1, x2, x3, x4, x5, x6, x7⟩ := a; obtain ⟨y0, y1, y2, y3, y4, y5, y6, y7⟩ := b; rw [Bool.eq_iff_iff]; simp
theorem eq_Event (w : World) (a b : Event) : (Op.equal 43 a.v b.v).run Tryz.prog w = .ok (decide (a = b)) w := eqIn_Event 9997 a b w
theorem Event.eqi (a b : Event) : a = b ↔ a.g = b.g ∧ a.kind = b.kind ∧ a.site.f = b.site.f ∧ a.site.pc = b.site.pc ∧ a.addr = b.addr ∧ a.child = b.child ∧ a.obj = b.obj ∧ a.n = b.n ∧ a.trap = b.trap := by
  obtain ⟨x0, x1, x2, x3, x4, x5, x6, x7⟩ := a; obtain ⟨y0, y1, y2, y3, y4, y5, y6, y7⟩ := b; first | (simp [Site.eqi]; done) | (simp [Site.eqi, and_assoc]; done)
theorem Rd.indexStr {P : Program} {ρ : Operand → Value} {C : World → Prop} {d : Option Nat} {ty : TypeId} {pos : String} {aft gd} {T : TypeId} {x ix : Operand} {s : ByteArray} {i : Nat} {y : UInt8} (hx : ρ x = .string s) (hix : ρ ix = .int .i64 (i : Int)) (hu : ∀ w, (underlying T).run P w = .ok .string w) (h : s[i]? = some y) :
    Rd P ρ ⟨d, .index T x ix, ty, pos, aft, gd⟩ C (.int .u8 (y.toNat : Int)) :=
  Rd.of (s := Instr.index T (ρ x) (ρ ix)) rfl fun w _ => by
    rw [hx, hix]
    simp [Instr.index, asIntOf, Sem.run_bind, hu, Result.andThen, h]
/-- Which events may be. -/
def EvOk (e : Event) : Prop :=
  1 ≤ e.kind ∧ e.kind ≤ 14 ∧ 0 ≤ e.g ∧ e.g ≤ 65535 ∧ argErr (Site.ok e.site) = 0 ∧ (e.kind = 2 ∨ e.kind = 3 ∨ e.addr = 0) ∧ (e.kind = 4 ∨ e.child = 0) ∧ (e.kind = 4 → 1 ≤ e.child ∧ e.child ≤ 65535 ∧ e.child ≠ e.g)
  ∧ (5 ≤ e.kind ∧ e.kind ≤ 12 ∨ e.obj = 0) ∧ 0 ≤ e.obj ∧ e.obj ≤ 63 ∧ (e.kind = 11 ∨ e.n = 0) ∧ -2147483648 ≤ e.n ∧ e.n ≤ 2147483647 ∧ (e.kind = 14 ∨ e.trap = 0) ∧ (e.kind = 14 → 1 ≤ e.trap ∧ e.trap ≤ 6)
instance (e : Event) : Decidable (EvOk e) := by unfold EvOk; infer_instance
def evOk (e : Event) : Bool := decide (EvOk e)
def EvRel (e : Event) : Prop := e.kind = 4 ∨ e.kind = 6 ∨ e.kind = 8 ∨ e.kind = 10 ∨ (e.kind = 11 ∧ e.n < 0)
instance (e : Event) : Decidable (EvRel e) := by unfold EvRel; infer_instance
def evRel (e : Event) : Bool := decide (EvRel e)
/-- Which event leads to which. -/
def EvLeads (a b : Event) : Prop := a.g = b.g ∨ (a.kind = 4 ∧ a.child = b.g) ∨ (a.obj = b.obj ∧ ((a.kind = 6 ∧ b.kind = 5) ∨ (a.kind = 10 ∧ (b.kind = 7 ∨ b.kind = 9)) ∨ (a.kind = 8 ∧ b.kind = 9) ∨ (a.kind = 11 ∧ a.n < 0 ∧ b.kind = 12)))
instance (a b : Event) : Decidable (EvLeads a b) := by unfold EvLeads; infer_instance
def evLeads (a b : Event) : Bool := decide (EvLeads a b)
def namesL : List ByteArray := [⟨#[]⟩, ⟨#[97]⟩, ⟨#[97]⟩, ⟨#[99]⟩, ⟨#[111]⟩, ⟨#[111]⟩, ⟨#[111]⟩, ⟨#[111]⟩, ⟨#[111]⟩, ⟨#[111]⟩, ⟨#[111, 110]⟩, ⟨#[111]⟩, ⟨#[]⟩, ⟨#[116]⟩]
def namesS (k : Int) : ByteArray := if k < 1 ∨ k > 14 then ⟨#[45]⟩ else (namesL[(k - 1).toNat]?).getD ⟨#[]⟩
def inN (k c : Int) : Bool := (namesS k).data.toList.any fun b => (b.toNat : Int) == c
theorem in_cases {k : Int} {p : Int → Prop} (h : ∀ j : Nat, j < 14 → p (j + 1)) (h0 : k < 1 ∨ k > 14 → p k) : p k := by
  by_cases hk : k < 1 ∨ k > 14
  · exact h0 hk
  · have := h (k - 1).toNat (by omega); rwa [show (((k - 1).toNat : Nat) : Int) + 1 = k from by omega] at this
theorem namesS_no {k : Int} (h : k < 1 ∨ k > 14) : namesS k = ⟨#[45]⟩ := by unfold namesS; rw [if_pos h]
theorem inN_no {k c : Int} (h : k < 1 ∨ k > 14) (hc : c ≠ 45) : inN k c = false := by unfold inN; rw [namesS_no h]; simp; omega
theorem inN_97 (k : Int) : inN k 97 = decide (k = 2 ∨ k = 3) := by
  refine in_cases (k := k) (p := fun k => inN k 97 = decide (k = 2 ∨ k = 3)) (by decide) fun h => ?_
  rw [inN_no h (by decide), eq_comm, decide_eq_false_iff_not]; omega
theorem inN_99 (k : Int) : inN k 99 = decide (k = 4) := by
  refine in_cases (k := k) (p := fun k => inN k 99 = decide (k = 4)) (by decide) fun h => ?_
  rw [inN_no h (by decide), eq_comm, decide_eq_false_iff_not]; omega
theorem inN_111 (k : Int) : inN k 111 = decide (5 ≤ k ∧ k ≤ 12) := by
  refine in_cases (k := k) (p := fun k => inN k 111 = decide (5 ≤ k ∧ k ≤ 12)) (by decide) fun h => ?_
  rw [inN_no h (by decide), eq_comm, decide_eq_false_iff_not]; omega
theorem inN_110 (k : Int) : inN k 110 = decide (k = 11) := by
  refine in_cases (k := k) (p := fun k => inN k 110 = decide (k = 11)) (by decide) fun h => ?_
  rw [inN_no h (by decide), eq_comm, decide_eq_false_iff_not]; omega
theorem inN_116 (k : Int) : inN k 116 = decide (k = 14) := by
  refine in_cases (k := k) (p := fun k => inN k 116 = decide (k = 14)) (by decide) fun h => ?_
  rw [inN_no h (by decide), eq_comm, decide_eq_false_iff_not]; omega
def EvR (b : Nat) (x : Event) : Res := allR [Cel b #[vI .i64 x.g, vI .i64 x.kind, vI .i64 x.site.f, vI .i64 x.site.pc, vI .u32 x.addr, vI .i64 x.child, vI .i64 x.obj, vI .i64 x.n, vI .i64 x.trap] 43]
theorem w32u (n : Int) : IntKind.u32.wrap n = n % 4294967296 := by simp [IntKind.wrap, IntKind.bits, IntKind.signed]
theorem w32i {n : Int} (h0 : -2147483648 ≤ n) (h1 : n ≤ 2147483647) : IntKind.i32.wrap (n % 4294967296) = n := by simp [IntKind.wrap, IntKind.bits, IntKind.signed]; omega
def PcObj (b : Nat) : Res := Cel b #[vI .i64 0, vI .i64 63, vI .i64 1, vF (.func 168) #[] #[], vF (.func 169) #[] #[], vF (.func 170) #[] #[]] 267
def PcAddr (b : Nat) : Res := Cel b #[vI .i64 0, vI .i64 4294967295, vI .i64 4, vF (.func 171) #[] #[], vF (.func 172) #[] #[], vF (.func 170) #[] #[]] 267
def PcChild (b : Nat) : Res := Cel b #[vI .i64 1, vI .i64 65535, vI .i64 2, vF (.func 173) #[] #[], vF (.func 174) #[] #[], vF (.func 170) #[] #[]] 267
def PcObjCount (b : Nat) : Res := Cel b #[vI .i64 0, vI .i64 63, vI .i64 1, vF (.func 168) #[] #[], vF (.func 169) #[] #[], vF (.func 170) #[] #[], vI .i64 (-2147483648), vI .i64 2147483647, vI .i64 4, vF (.func 175) #[] #[], vF (.func 176) #[] #[], vF (.func 170) #[] #[]] 267
def PcTrap (b : Nat) : Res := Cel b #[vI .i64 1, vI .i64 6, vI .i64 1, vF (.func 177) #[] #[], vF (.func 178) #[] #[], vF (.func 179) #[] #[]] 267
def PcNo (b : Nat) : Res := Cel b #[] 267
def PartsR (bo ba bb bc bn bt be bf : Nat) : Res := allR [PcObj bo, PcAddr ba, PcAddr bb, PcChild bc, PcObjCount bn, PcTrap bt, PcNo be, PcNo bf]
def namedM (bo ba bb bc bn bt be bf : Nat) : List (Int × Value) := (put (put (put (put (put (put (put (put (put (put (put (put (put (put [] (1 : Int) (vS (some ⟨be, 0, none⟩) 0 0)) (2 : Int) (vS (some ⟨ba, 0, none⟩) 1 1)) (3 : Int) (vS (some ⟨bb, 0, none⟩) 1 1)) (4 : Int) (vS (some ⟨bc, 0, none⟩) 1 1)) (5 : Int) (vS (some ⟨bo, 0, none⟩) 1 1)) (6 : Int) (vS (some ⟨bo, 0, none⟩) 1 1)) (7 : Int) (vS (some ⟨bo, 0, none⟩) 1 1)) (8 : Int) (vS (some ⟨bo, 0, none⟩) 1 1)) (9 : Int) (vS (some ⟨bo, 0, none⟩) 1 1)) (10 : Int) (vS (some ⟨bo, 0, none⟩) 1 1)) (11 : Int) (vS (some ⟨bn, 0, none⟩) 2 2)) (12 : Int) (vS (some ⟨bo, 0, none⟩) 1 1)) (13 : Int) (vS (some ⟨bf, 0, none⟩) 0 0)) (14 : Int) (vS (some ⟨bt, 0, none⟩) 1 1))
def namedS (bo ba bb bc bn bt be bf : Nat) (k : Int) : Value := (look (namedM bo ba bb bc bn bt be bf) k).getD (vS none 0 0)
def namedV (bo ba bb bc bn bt be bf : Nat) (k : Int) : Value := vT #[namedS bo ba bb bc bn bt be bf k, vB (look (namedM bo ba bb bc bn bt be bf) k).isSome]
theorem named_yes {bo ba bb bc bn bt be bf : Nat} {k : Int} (h : 1 ≤ k ∧ k ≤ 14) : namedV bo ba bb bc bn bt be bf k = vT #[namedS bo ba bb bc bn bt be bf k, vB true] := by
  rcases (show k = 1 ∨ k = 2 ∨ k = 3 ∨ k = 4 ∨ k = 5 ∨ k = 6 ∨ k = 7 ∨ k = 8 ∨ k = 9 ∨ k = 10 ∨ k = 11 ∨ k = 12 ∨ k = 13 ∨ k = 14 from by omega) with rfl | rfl | rfl | rfl | rfl | rfl | rfl | rfl | rfl | rfl | rfl | rfl | rfl | rfl <;> kernel_rfl
theorem named_no {bo ba bb bc bn bt be bf : Nat} {k : Int} (h : k < 1 ∨ k > 14) : namedV bo ba bb bc bn bt be bf k = vT #[vS none 0 0, vB false] := by
  have e : look (namedM bo ba bb bc bn bt be bf) k = none := by
    unfold namedM
    rw [look_put, if_neg, look_put, if_neg, look_put, if_neg, look_put, if_neg, look_put, if_neg, look_put, if_neg, look_put, if_neg, look_put, if_neg, look_put, if_neg, look_put, if_neg, look_put, if_neg, look_put, if_neg, look_put, if_neg, look_put, if_neg]; · rfl
    all_goals omega
  unfold namedV namedS; rw [e]; rfl
theorem named_o {bo ba bb bc bn bt be bf : Nat} {k : Int} (h : 5 ≤ k ∧ k ≤ 10 ∨ k = 12) : namedS bo ba bb bc bn bt be bf k = vS (some ⟨bo, 0, none⟩) 1 1 := by
  rcases (show k = 5 ∨ k = 6 ∨ k = 7 ∨ k = 8 ∨ k = 9 ∨ k = 10 ∨ k = 12 from by omega) with rfl | rfl | rfl | rfl | rfl | rfl | rfl <;> kernel_rfl
theorem named_a {bo ba bb bc bn bt be bf : Nat} {k : Int} (h : k = 2) : namedS bo ba bb bc bn bt be bf k = vS (some ⟨ba, 0, none⟩) 1 1 := by subst h; kernel_rfl
theorem named_b {bo ba bb bc bn bt be bf : Nat} {k : Int} (h : k = 3) : namedS bo ba bb bc bn bt be bf k = vS (some ⟨bb, 0, none⟩) 1 1 := by subst h; kernel_rfl
theorem named_c {bo ba bb bc bn bt be bf : Nat} {k : Int} (h : k = 4) : namedS bo ba bb bc bn bt be bf k = vS (some ⟨bc, 0, none⟩) 1 1 := by subst h; kernel_rfl
theorem named_n {bo ba bb bc bn bt be bf : Nat} {k : Int} (h : k = 11) : namedS bo ba bb bc bn bt be bf k = vS (some ⟨bn, 0, none⟩) 2 2 := by subst h; kernel_rfl
theorem named_t {bo ba bb bc bn bt be bf : Nat} {k : Int} (h : k = 14) : namedS bo ba bb bc bn bt be bf k = vS (some ⟨bt, 0, none⟩) 1 1 := by subst h; kernel_rfl
theorem named_e {bo ba bb bc bn bt be bf : Nat} {k : Int} (h : k = 1) : namedS bo ba bb bc bn bt be bf k = vS (some ⟨be, 0, none⟩) 0 0 := by subst h; kernel_rfl
theorem named_f {bo ba bb bc bn bt be bf : Nat} {k : Int} (h : k = 13) : namedS bo ba bb bc bn bt be bf k = vS (some ⟨bf, 0, none⟩) 0 0 := by subst h; kernel_rfl
set_option maxRecDepth 100000 in
theorem e_paddr  (w : World)  : Calls Tryz.prog 155 #[] w (fun e w' => e = .returned (vA #[vI .i64 0, vI .i64 4294967295, vI .i64 4, vF (.func 171) #[] #[], vF (.func 172) #[] #[], vF (.func 170) #[] #[]]) ∧ Fr No w w') := by
 refine enter_E 2 Tryz.func155 rfl rfl (by kernel_rfl) (L := []) (by kernel_rfl) ?_
 intro ac hA
 have hW := Ws.start w No
 refine wr <| st_s hA (Runs.cells (fun b => pA b 0) #[vI .i64 0, vI .i64 0, vI .i64 0, Value.nilFunc, Value.nilFunc, Value.nilFunc] 267 (fun _ => by kernel_rfl) hW ?_); clear hA ac hW; intro b1 w2 hW hb1 hfw2 ac hA
 refine wn <| wr <| st_p (vA #[vI .i64 0, vI .i64 4294967295, vI .i64 4, vF (.func 171) #[] #[], vF (.func 172) #[] #[], vF (.func 170) #[] #[]]) hA ?_; clear hA ac; intro ac hA
 refine st_s hA (Runs.store (v := vA #[vI .i64 0, vI .i64 4294967295, vI .i64 4, vF (.func 171) #[] #[], vF (.func 172) #[] #[], vF (.func 170) #[] #[]]) (b := b1) (j := 0) (n := 6) (cs' := #[vI .i64 0, vI .i64 4294967295, vI .i64 4, vF (.func 171) #[] #[], vF (.func 172) #[] #[], vF (.func 170) #[] #[]]) (H' := [Cel b1 #[vI .i64 0, vI .i64 4294967295, vI .i64 4, vF (.func 171) #[] #[], vF (.func 172) #[] #[], vF (.func 170) #[] #[]] 267]) (by kernel_rfl) (by kernel_rfl) (by kernel_rfl) (by kernel_rfl) (by kernel_rfl) hW 0 (by rfl) (Nat.le_of_ble_eq_true (by kernel_rfl)) (by kernel_rfl) (by rfl) ?_); clear hA ac hW; intro w3 hW ac hA
 refine wn <| wp_ret <| ret1 (v := vA #[vI .i64 0, vI .i64 4294967295, vI .i64 4, vF (.func 171) #[] #[], vF (.func 172) #[] #[], vF (.func 170) #[] #[]]) (by rfl) hA (Got.cell (b := b1) (i := 0) hA (by kernel_rfl) (by kernel_rfl) (hW.cel 0 rfl) (by kernel_rfl)) ?_
 clear hA
 exact ⟨retv (by rfl), hW.fr⟩

set_option maxRecDepth 100000 in
theorem e_pchild  (w : World)  : Calls Tryz.prog 156 #[] w (fun e w' => e = .returned (vA #[vI .i64 1, vI .i64 65535, vI .i64 2, vF (.func 173) #[] #[], vF (.func 174) #[] #[], vF (.func 170) #[] #[]]) ∧ Fr No w w') := by
 refine enter_E 2 Tryz.func156 rfl rfl (by kernel_rfl) (L := []) (by kernel_rfl) ?_
 intro ac hA
 have hW := Ws.start w No
 refine wr <| st_s hA (Runs.cells (fun b => pA b 0) #[vI .i64 0, vI .i64 0, vI .i64 0, Value.nilFunc, Value.nilFunc, Value.nilFunc] 267 (fun _ => by kernel_rfl) hW ?_); clear hA ac hW; intro b1 w2 hW hb1 hfw2 ac hA
 refine wn <| wr <| st_p (vA #[vI .i64 1, vI .i64 65535, vI .i64 2, vF (.func 173) #[] #[], vF (.func 174) #[] #[], vF (.func 170) #[] #[]]) hA ?_; clear hA ac; intro ac hA
 refine st_s hA (Runs.store (v := vA #[vI .i64 1, vI .i64 65535, vI .i64 2, vF (.func 173) #[] #[], vF (.func 174) #[] #[], vF (.func 170) #[] #[]]) (b := b1) (j := 0) (n := 6) (cs' := #[vI .i64 1, vI .i64 65535, vI .i64 2, vF (.func 173) #[] #[], vF (.func 174) #[] #[], vF (.func 170) #[] #[]]) (H' := [Cel b1 #[vI .i64 1, vI .i64 65535, vI .i64 2, vF (.func 173) #[] #[], vF (.func 174) #[] #[], vF (.func 170) #[] #[]] 267]) (by kernel_rfl) (by kernel_rfl) (by kernel_rfl) (by kernel_rfl) (by kernel_rfl) hW 0 (by rfl) (Nat.le_of_ble_eq_true (by kernel_rfl)) (by kernel_rfl) (by rfl) ?_); clear hA ac hW; intro w3 hW ac hA
 refine wn <| wp_ret <| ret1 (v := vA #[vI .i64 1, vI .i64 65535, vI .i64 2, vF (.func 173) #[] #[], vF (.func 174) #[] #[], vF (.func 170) #[] #[]]) (by rfl) hA (Got.cell (b := b1) (i := 0) hA (by kernel_rfl) (by kernel_rfl) (hW.cel 0 rfl) (by kernel_rfl)) ?_
 clear hA
 exact ⟨retv (by rfl), hW.fr⟩

set_option maxRecDepth 100000 in
theorem e_pobj  (w : World)  : Calls Tryz.prog 154 #[] w (fun e w' => e = .returned (vA #[vI .i64 0, vI .i64 63, vI .i64 1, vF (.func 168) #[] #[], vF (.func 169) #[] #[], vF (.func 170) #[] #[]]) ∧ Fr No w w') := by
 refine enter_E 2 Tryz.func154 rfl rfl (by kernel_rfl) (L := []) (by kernel_rfl) ?_
 intro ac hA
 have hW := Ws.start w No
 refine wr <| st_s hA (Runs.cells (fun b => pA b 0) #[vI .i64 0, vI .i64 0, vI .i64 0, Value.nilFunc, Value.nilFunc, Value.nilFunc] 267 (fun _ => by kernel_rfl) hW ?_); clear hA ac hW; intro b1 w2 hW hb1 hfw2 ac hA
 refine wn <| wr <| st_p (vA #[vI .i64 0, vI .i64 63, vI .i64 1, vF (.func 168) #[] #[], vF (.func 169) #[] #[], vF (.func 170) #[] #[]]) hA ?_; clear hA ac; intro ac hA
 refine st_s hA (Runs.store (v := vA #[vI .i64 0, vI .i64 63, vI .i64 1, vF (.func 168) #[] #[], vF (.func 169) #[] #[], vF (.func 170) #[] #[]]) (b := b1) (j := 0) (n := 6) (cs' := #[vI .i64 0, vI .i64 63, vI .i64 1, vF (.func 168) #[] #[], vF (.func 169) #[] #[], vF (.func 170) #[] #[]]) (H' := [Cel b1 #[vI .i64 0, vI .i64 63, vI .i64 1, vF (.func 168) #[] #[], vF (.func 169) #[] #[], vF (.func 170) #[] #[]] 267]) (by kernel_rfl) (by kernel_rfl) (by kernel_rfl) (by kernel_rfl) (by kernel_rfl) hW 0 (by rfl) (Nat.le_of_ble_eq_true (by kernel_rfl)) (by kernel_rfl) (by rfl) ?_); clear hA ac hW; intro w3 hW ac hA
 refine wn <| wp_ret <| ret1 (v := vA #[vI .i64 0, vI .i64 63, vI .i64 1, vF (.func 168) #[] #[], vF (.func 169) #[] #[], vF (.func 170) #[] #[]]) (by rfl) hA (Got.cell (b := b1) (i := 0) hA (by kernel_rfl) (by kernel_rfl) (hW.cel 0 rfl) (by kernel_rfl)) ?_
 clear hA
 exact ⟨retv (by rfl), hW.fr⟩

set_option maxRecDepth 100000 in
theorem e_pcount  (w : World)  : Calls Tryz.prog 157 #[] w (fun e w' => e = .returned (vA #[vI .i64 (-2147483648), vI .i64 2147483647, vI .i64 4, vF (.func 175) #[] #[], vF (.func 176) #[] #[], vF (.func 170) #[] #[]]) ∧ Fr No w w') := by
 refine enter_E 2 Tryz.func157 rfl rfl (by kernel_rfl) (L := []) (by kernel_rfl) ?_
 intro ac hA
 have hW := Ws.start w No
 refine wr <| st_s hA (Runs.cells (fun b => pA b 0) #[vI .i64 0, vI .i64 0, vI .i64 0, Value.nilFunc, Value.nilFunc, Value.nilFunc] 267 (fun _ => by kernel_rfl) hW ?_); clear hA ac hW; intro b1 w2 hW hb1 hfw2 ac hA
 refine wn <| wr <| st_p (vA #[vI .i64 (-2147483648), vI .i64 2147483647, vI .i64 4, vF (.func 175) #[] #[], vF (.func 176) #[] #[], vF (.func 170) #[] #[]]) hA ?_; clear hA ac; intro ac hA
 refine st_s hA (Runs.store (v := vA #[vI .i64 (-2147483648), vI .i64 2147483647, vI .i64 4, vF (.func 175) #[] #[], vF (.func 176) #[] #[], vF (.func 170) #[] #[]]) (b := b1) (j := 0) (n := 6) (cs' := #[vI .i64 (-2147483648), vI .i64 2147483647, vI .i64 4, vF (.func 175) #[] #[], vF (.func 176) #[] #[], vF (.func 170) #[] #[]]) (H' := [Cel b1 #[vI .i64 (-2147483648), vI .i64 2147483647, vI .i64 4, vF (.func 175) #[] #[], vF (.func 176) #[] #[], vF (.func 170) #[] #[]] 267]) (by kernel_rfl) (by kernel_rfl) (by kernel_rfl) (by kernel_rfl) (by kernel_rfl) hW 0 (by rfl) (Nat.le_of_ble_eq_true (by kernel_rfl)) (by kernel_rfl) (by rfl) ?_); clear hA ac hW; intro w3 hW ac hA
 refine wn <| wp_ret <| ret1 (v := vA #[vI .i64 (-2147483648), vI .i64 2147483647, vI .i64 4, vF (.func 175) #[] #[], vF (.func 176) #[] #[], vF (.func 170) #[] #[]]) (by rfl) hA (Got.cell (b := b1) (i := 0) hA (by kernel_rfl) (by kernel_rfl) (hW.cel 0 rfl) (by kernel_rfl)) ?_
 clear hA
 exact ⟨retv (by rfl), hW.fr⟩

set_option maxRecDepth 100000 in
theorem e_ptrap  (w : World)  : Calls Tryz.prog 158 #[] w (fun e w' => e = .returned (vA #[vI .i64 1, vI .i64 6, vI .i64 1, vF (.func 177) #[] #[], vF (.func 178) #[] #[], vF (.func 179) #[] #[]]) ∧ Fr No w w') := by
 refine enter_E 2 Tryz.func158 rfl rfl (by kernel_rfl) (L := []) (by kernel_rfl) ?_
 intro ac hA
 have hW := Ws.start w No
 refine wr <| st_s hA (Runs.cells (fun b => pA b 0) #[vI .i64 0, vI .i64 0, vI .i64 0, Value.nilFunc, Value.nilFunc, Value.nilFunc] 267 (fun _ => by kernel_rfl) hW ?_); clear hA ac hW; intro b1 w2 hW hb1 hfw2 ac hA
 refine wn <| wr <| st_p (vA #[vI .i64 1, vI .i64 6, vI .i64 1, vF (.func 177) #[] #[], vF (.func 178) #[] #[], vF (.func 179) #[] #[]]) hA ?_; clear hA ac; intro ac hA
 refine st_s hA (Runs.store (v := vA #[vI .i64 1, vI .i64 6, vI .i64 1, vF (.func 177) #[] #[], vF (.func 178) #[] #[], vF (.func 179) #[] #[]]) (b := b1) (j := 0) (n := 6) (cs' := #[vI .i64 1, vI .i64 6, vI .i64 1, vF (.func 177) #[] #[], vF (.func 178) #[] #[], vF (.func 179) #[] #[]]) (H' := [Cel b1 #[vI .i64 1, vI .i64 6, vI .i64 1, vF (.func 177) #[] #[], vF (.func 178) #[] #[], vF (.func 179) #[] #[]] 267]) (by kernel_rfl) (by kernel_rfl) (by kernel_rfl) (by kernel_rfl) (by kernel_rfl) hW 0 (by rfl) (Nat.le_of_ble_eq_true (by kernel_rfl)) (by kernel_rfl) (by rfl) ?_); clear hA ac hW; intro w3 hW ac hA
 refine wn <| wp_ret <| ret1 (v := vA #[vI .i64 1, vI .i64 6, vI .i64 1, vF (.func 177) #[] #[], vF (.func 178) #[] #[], vF (.func 179) #[] #[]]) (by rfl) hA (Got.cell (b := b1) (i := 0) hA (by kernel_rfl) (by kernel_rfl) (hW.cel 0 rfl) (by kernel_rfl)) ?_
 clear hA
 exact ⟨retv (by rfl), hW.fr⟩

set_option maxRecDepth 100000 in
theorem e_paddr1 (x : Event) (w : World) (he : 0 ≤ x.addr ∧ x.addr ≤ 4294967295) : Calls Tryz.prog 171 #[x.v] w (fun e w' => e = .returned (vI .i64 x.addr) ∧ Fr No w w') := by
 have _hu := he; clear _hu
 refine enter_E 6 Tryz.func171 rfl rfl (by kernel_rfl) (L := [(0, x.v)]) (by kernel_rfl) ?_
 intro ac hA
 have hW := Ws.start w No
 refine wr <| st_s hA (Runs.cells (fun b => pA b 0) #[vI .i64 x.g, vI .i64 x.kind, vI .i64 x.site.f, vI .i64 x.site.pc, vI .u32 x.addr, vI .i64 x.child, vI .i64 x.obj, vI .i64 x.n, vI .i64 x.trap] 43 (fun _ => by kernel_rfl) hW ?_); clear hA ac hW; intro b1 w2 hW hb1 hfw2 ac hA
 refine st_p (vI .i64 0) hA ?_; clear hA ac; intro ac hA
 refine wn <| wr <| st_p (pA b1 4) hA fun ac hA => st_q (vI .u32 x.addr) hA hW.cls (rl b1 4 0) fun ac hA => st_q (vI .i64 x.addr) hA hW.cls (Rd.pureE (v0 := vI .i64 (IntKind.i64.wrap (x.addr))) (fun _ => by kernel_rfl) (congrArg (vI .i64) (w_i64 (x := x.addr) (by omega) (by omega)))) fun ac hA => st_p (vI .i64 x.addr) hA fun ac hA => wn <| wp_ret <| r1 (vI .i64 x.addr) hA ?_
 clear hA
 exact ⟨retv (by rfl), hW.fr⟩

set_option maxRecDepth 100000 in
theorem e_paddr2 (b : Nat) (x : Event) (n : Int) (w : World) (ho_p : (EvR b x).p w) (hl_p : ∀ x_ ∈ (EvR b x).fp, x_ < w.heap.size) (hn : 0 ≤ n ∧ n ≤ 4294967295) : Calls Tryz.prog 172 #[pA b 0, vI .i64 n] w (fun e w' => e = .returned (vT #[]) ∧ Upd (EvR b x) (EvR b (⟨x.g, x.kind, x.site, n, x.child, x.obj, x.n, x.trap⟩ : Event)) w w') := by
 have _hu := ho_p; have _hv := hl_p; clear _hu _hv
 have _hu := hn; clear _hu
 refine enter_E 9 Tryz.func172 rfl rfl (by kernel_rfl) (L := [(0, pA b 0), (1, vI .i64 n)]) (by kernel_rfl) ?_
 intro ac hA
 have hW : Ws w (· ∈ (EvR b x).fp) [Cel b #[vI .i64 x.g, vI .i64 x.kind, vI .i64 x.site.f, vI .i64 x.site.pc, vI .u32 x.addr, vI .i64 x.child, vI .i64 x.obj, vI .i64 x.n, vI .i64 x.trap] 43] [] w := Ws.unpack (K := []) (objW ho_p hl_p)
 clear ho_p hl_p
 refine wp_region_lit <| st_p (pA b 0) hA fun ac hA => st_p (vI .i64 n) hA fun ac hA => st_q (vI .u32 n) hA hW.cls (Rd.pureE (v0 := vI .u32 (IntKind.u32.wrap (n))) (fun _ => by kernel_rfl) (congrArg (vI .u32) (w_u32 (x := n) (by omega) (by omega)))) fun ac hA => st_p (pA b 0) hA fun ac hA => st_p (pA b 4) hA fun ac hA => st_s hA (Runs.store (v := vI .u32 n) (b := b) (j := 4) (n := 1) (cs' := #[vI .i64 x.g, vI .i64 x.kind, vI .i64 x.site.f, vI .i64 x.site.pc, vI .u32 n, vI .i64 x.child, vI .i64 x.obj, vI .i64 x.n, vI .i64 x.trap]) (H' := [Cel b #[vI .i64 x.g, vI .i64 x.kind, vI .i64 x.site.f, vI .i64 x.site.pc, vI .u32 n, vI .i64 x.child, vI .i64 x.obj, vI .i64 x.n, vI .i64 x.trap] 43]) (by kernel_rfl) (by kernel_rfl) (by kernel_rfl) (by kernel_rfl) (by kernel_rfl) hW 0 (by rfl) (Nat.le_of_ble_eq_true (by kernel_rfl)) (by kernel_rfl) (by rfl) ?_); clear hA ac hW; intro w1 hW ac hA
 refine wpList_nil <| ret0 (.inr rfl) rfl hA ?_
 clear hA
 exact ⟨rfl, (Ws.pack (K := []) (show Ws w (· ∈ (EvR b x).fp) ([Cel b #[vI .i64 x.g, vI .i64 x.kind, vI .i64 x.site.f, vI .i64 x.site.pc, vI .u32 n, vI .i64 x.child, vI .i64 x.obj, vI .i64 x.n, vI .i64 x.trap] 43] ++ []) [] _ from hW.pick [0] (by decide) rfl)).updDone 0 rfl⟩

set_option maxRecDepth 100000 in
theorem e_pchild1 (x : Event) (w : World)  : Calls Tryz.prog 173 #[x.v] w (fun e w' => e = .returned (vI .i64 x.child) ∧ Fr No w w') := by
 refine enter_E 5 Tryz.func173 rfl rfl (by kernel_rfl) (L := [(0, x.v)]) (by kernel_rfl) ?_
 intro ac hA
 have hW := Ws.start w No
 refine wr <| st_s hA (Runs.cells (fun b => pA b 0) #[vI .i64 x.g, vI .i64 x.kind, vI .i64 x.site.f, vI .i64 x.site.pc, vI .u32 x.addr, vI .i64 x.child, vI .i64 x.obj, vI .i64 x.n, vI .i64 x.trap] 43 (fun _ => by kernel_rfl) hW ?_); clear hA ac hW; intro b1 w2 hW hb1 hfw2 ac hA
 refine st_p (vI .i64 0) hA ?_; clear hA ac; intro ac hA
 refine wn <| wr <| st_p (pA b1 5) hA fun ac hA => st_q (vI .i64 x.child) hA hW.cls (rl b1 5 0) fun ac hA => st_p (vI .i64 x.child) hA fun ac hA => wn <| wp_ret <| r1 (vI .i64 x.child) hA ?_
 clear hA
 exact ⟨retv (by rfl), hW.fr⟩

set_option maxRecDepth 100000 in
theorem e_pchild2 (b : Nat) (x : Event) (n : Int) (w : World) (ho_p : (EvR b x).p w) (hl_p : ∀ x_ ∈ (EvR b x).fp, x_ < w.heap.size) (hn : -9223372036854775808 ≤ n ∧ n ≤ 9223372036854775807) : Calls Tryz.prog 174 #[pA b 0, vI .i64 n] w (fun e w' => e = .returned (vT #[]) ∧ Upd (EvR b x) (EvR b (⟨x.g, x.kind, x.site, x.addr, n, x.obj, x.n, x.trap⟩ : Event)) w w') := by
 have _hu := ho_p; have _hv := hl_p; clear _hu _hv
 have _hu := hn; clear _hu
 refine enter_E 8 Tryz.func174 rfl rfl (by kernel_rfl) (L := [(0, pA b 0), (1, vI .i64 n)]) (by kernel_rfl) ?_
 intro ac hA
 have hW : Ws w (· ∈ (EvR b x).fp) [Cel b #[vI .i64 x.g, vI .i64 x.kind, vI .i64 x.site.f, vI .i64 x.site.pc, vI .u32 x.addr, vI .i64 x.child, vI .i64 x.obj, vI .i64 x.n, vI .i64 x.trap] 43] [] w := Ws.unpack (K := []) (objW ho_p hl_p)
 clear ho_p hl_p
 refine wp_region_lit <| st_p (pA b 0) hA fun ac hA => st_p (vI .i64 n) hA fun ac hA => st_p (pA b 0) hA fun ac hA => st_p (pA b 5) hA fun ac hA => st_s hA (Runs.store (v := vI .i64 n) (b := b) (j := 5) (n := 1) (cs' := #[vI .i64 x.g, vI .i64 x.kind, vI .i64 x.site.f, vI .i64 x.site.pc, vI .u32 x.addr, vI .i64 n, vI .i64 x.obj, vI .i64 x.n, vI .i64 x.trap]) (H' := [Cel b #[vI .i64 x.g, vI .i64 x.kind, vI .i64 x.site.f, vI .i64 x.site.pc, vI .u32 x.addr, vI .i64 n, vI .i64 x.obj, vI .i64 x.n, vI .i64 x.trap] 43]) (by kernel_rfl) (by kernel_rfl) (by kernel_rfl) (by kernel_rfl) (by kernel_rfl) hW 0 (by rfl) (Nat.le_of_ble_eq_true (by kernel_rfl)) (by kernel_rfl) (by rfl) ?_); clear hA ac hW; intro w1 hW ac hA
 refine wpList_nil <| ret0 (.inr rfl) rfl hA ?_
 clear hA
 exact ⟨rfl, (Ws.pack (K := []) (show Ws w (· ∈ (EvR b x).fp) ([Cel b #[vI .i64 x.g, vI .i64 x.kind, vI .i64 x.site.f, vI .i64 x.site.pc, vI .u32 x.addr, vI .i64 n, vI .i64 x.obj, vI .i64 x.n, vI .i64 x.trap] 43] ++ []) [] _ from hW.pick [0] (by decide) rfl)).updDone 0 rfl⟩

set_option maxRecDepth 100000 in
theorem e_pobj1 (x : Event) (w : World)  : Calls Tryz.prog 168 #[x.v] w (fun e w' => e = .returned (vI .i64 x.obj) ∧ Fr No w w') := by
 refine enter_E 5 Tryz.func168 rfl rfl (by kernel_rfl) (L := [(0, x.v)]) (by kernel_rfl) ?_
 intro ac hA
 have hW := Ws.start w No
 refine wr <| st_s hA (Runs.cells (fun b => pA b 0) #[vI .i64 x.g, vI .i64 x.kind, vI .i64 x.site.f, vI .i64 x.site.pc, vI .u32 x.addr, vI .i64 x.child, vI .i64 x.obj, vI .i64 x.n, vI .i64 x.trap] 43 (fun _ => by kernel_rfl) hW ?_); clear hA ac hW; intro b1 w2 hW hb1 hfw2 ac hA
 refine st_p (vI .i64 0) hA ?_; clear hA ac; intro ac hA
 refine wn <| wr <| st_p (pA b1 6) hA fun ac hA => st_q (vI .i64 x.obj) hA hW.cls (rl b1 6 0) fun ac hA => st_p (vI .i64 x.obj) hA fun ac hA => wn <| wp_ret <| r1 (vI .i64 x.obj) hA ?_
 clear hA
 exact ⟨retv (by rfl), hW.fr⟩

set_option maxRecDepth 100000 in
theorem e_pobj2 (b : Nat) (x : Event) (n : Int) (w : World) (ho_p : (EvR b x).p w) (hl_p : ∀ x_ ∈ (EvR b x).fp, x_ < w.heap.size) (hn : -9223372036854775808 ≤ n ∧ n ≤ 9223372036854775807) : Calls Tryz.prog 169 #[pA b 0, vI .i64 n] w (fun e w' => e = .returned (vT #[]) ∧ Upd (EvR b x) (EvR b (⟨x.g, x.kind, x.site, x.addr, x.child, n, x.n, x.trap⟩ : Event)) w w') := by
 have _hu := ho_p; have _hv := hl_p; clear _hu _hv
 have _hu := hn; clear _hu
 refine enter_E 8 Tryz.func169 rfl rfl (by kernel_rfl) (L := [(0, pA b 0), (1, vI .i64 n)]) (by kernel_rfl) ?_
 intro ac hA
 have hW : Ws w (· ∈ (EvR b x).fp) [Cel b #[vI .i64 x.g, vI .i64 x.kind, vI .i64 x.site.f, vI .i64 x.site.pc, vI .u32 x.addr, vI .i64 x.child, vI .i64 x.obj, vI .i64 x.n, vI .i64 x.trap] 43] [] w := Ws.unpack (K := []) (objW ho_p hl_p)
 clear ho_p hl_p
 refine wp_region_lit <| st_p (pA b 0) hA fun ac hA => st_p (vI .i64 n) hA fun ac hA => st_p (pA b 0) hA fun ac hA => st_p (pA b 6) hA fun ac hA => st_s hA (Runs.store (v := vI .i64 n) (b := b) (j := 6) (n := 1) (cs' := #[vI .i64 x.g, vI .i64 x.kind, vI .i64 x.site.f, vI .i64 x.site.pc, vI .u32 x.addr, vI .i64 x.child, vI .i64 n, vI .i64 x.n, vI .i64 x.trap]) (H' := [Cel b #[vI .i64 x.g, vI .i64 x.kind, vI .i64 x.site.f, vI .i64 x.site.pc, vI .u32 x.addr, vI .i64 x.child, vI .i64 n, vI .i64 x.n, vI .i64 x.trap] 43]) (by kernel_rfl) (by kernel_rfl) (by kernel_rfl) (by kernel_rfl) (by kernel_rfl) hW 0 (by rfl) (Nat.le_of_ble_eq_true (by kernel_rfl)) (by kernel_rfl) (by rfl) ?_); clear hA ac hW; intro w1 hW ac hA
 refine wpList_nil <| ret0 (.inr rfl) rfl hA ?_
 clear hA
 exact ⟨rfl, (Ws.pack (K := []) (show Ws w (· ∈ (EvR b x).fp) ([Cel b #[vI .i64 x.g, vI .i64 x.kind, vI .i64 x.site.f, vI .i64 x.site.pc, vI .u32 x.addr, vI .i64 x.child, vI .i64 n, vI .i64 x.n, vI .i64 x.trap] 43] ++ []) [] _ from hW.pick [0] (by decide) rfl)).updDone 0 rfl⟩

set_option maxRecDepth 100000 in
theorem e_pcount1 (x : Event) (w : World)  : Calls Tryz.prog 175 #[x.v] w (fun e w' => e = .returned (vI .i64 x.n) ∧ Fr No w w') := by
 refine enter_E 5 Tryz.func175 rfl rfl (by kernel_rfl) (L := [(0, x.v)]) (by kernel_rfl) ?_
 intro ac hA
 have hW := Ws.start w No
 refine wr <| st_s hA (Runs.cells (fun b => pA b 0) #[vI .i64 x.g, vI .i64 x.kind, vI .i64 x.site.f, vI .i64 x.site.pc, vI .u32 x.addr, vI .i64 x.child, vI .i64 x.obj, vI .i64 x.n, vI .i64 x.trap] 43 (fun _ => by kernel_rfl) hW ?_); clear hA ac hW; intro b1 w2 hW hb1 hfw2 ac hA
 refine st_p (vI .i64 0) hA ?_; clear hA ac; intro ac hA
 refine wn <| wr <| st_p (pA b1 7) hA fun ac hA => st_q (vI .i64 x.n) hA hW.cls (rl b1 7 0) fun ac hA => st_p (vI .i64 x.n) hA fun ac hA => wn <| wp_ret <| r1 (vI .i64 x.n) hA ?_
 clear hA
 exact ⟨retv (by rfl), hW.fr⟩

set_option maxRecDepth 100000 in
theorem e_pcount2 (b : Nat) (x : Event) (n : Int) (w : World) (ho_p : (EvR b x).p w) (hl_p : ∀ x_ ∈ (EvR b x).fp, x_ < w.heap.size) (hn : -2147483648 ≤ n ∧ n ≤ 2147483647) : Calls Tryz.prog 176 #[pA b 0, vI .i64 n] w (fun e w' => e = .returned (vT #[]) ∧ Upd (EvR b x) (EvR b (⟨x.g, x.kind, x.site, x.addr, x.child, x.obj, n, x.trap⟩ : Event)) w w') := by
 have _hu := ho_p; have _hv := hl_p; clear _hu _hv
 have _hu := hn; clear _hu
 refine enter_E 11 Tryz.func176 rfl rfl (by kernel_rfl) (L := [(0, pA b 0), (1, vI .i64 n)]) (by kernel_rfl) ?_
 intro ac hA
 have hW : Ws w (· ∈ (EvR b x).fp) [Cel b #[vI .i64 x.g, vI .i64 x.kind, vI .i64 x.site.f, vI .i64 x.site.pc, vI .u32 x.addr, vI .i64 x.child, vI .i64 x.obj, vI .i64 x.n, vI .i64 x.trap] 43] [] w := Ws.unpack (K := []) (objW ho_p hl_p)
 clear ho_p hl_p
 refine wp_region_lit <| st_p (pA b 0) hA fun ac hA => st_p (vI .i64 n) hA fun ac hA => st_q (vI .u32 ((n : Int) % 4294967296)) hA hW.cls (Rd.pureE (v0 := vI .u32 (IntKind.u32.wrap (n))) (fun _ => by kernel_rfl) (congrArg (vI .u32) (w32u n))) fun ac hA => st_q (vI .i32 n) hA hW.cls (Rd.pureE (v0 := vI .i32 (IntKind.i32.wrap ((n : Int) % 4294967296))) (fun _ => by kernel_rfl) (congrArg (vI .i32) (w32i (by omega) (by omega)))) fun ac hA => st_q (vI .i64 n) hA hW.cls (Rd.pureE (v0 := vI .i64 (IntKind.i64.wrap (n))) (fun _ => by kernel_rfl) (congrArg (vI .i64) (w_i64 (x := n) (by omega) (by omega)))) fun ac hA => st_p (pA b 0) hA fun ac hA => st_p (pA b 7) hA fun ac hA => st_s hA (Runs.store (v := vI .i64 n) (b := b) (j := 7) (n := 1) (cs' := #[vI .i64 x.g, vI .i64 x.kind, vI .i64 x.site.f, vI .i64 x.site.pc, vI .u32 x.addr, vI .i64 x.child, vI .i64 x.obj, vI .i64 n, vI .i64 x.trap]) (H' := [Cel b #[vI .i64 x.g, vI .i64 x.kind, vI .i64 x.site.f, vI .i64 x.site.pc, vI .u32 x.addr, vI .i64 x.child, vI .i64 x.obj, vI .i64 n, vI .i64 x.trap] 43]) (by kernel_rfl) (by kernel_rfl) (by kernel_rfl) (by kernel_rfl) (by kernel_rfl) hW 0 (by rfl) (Nat.le_of_ble_eq_true (by kernel_rfl)) (by kernel_rfl) (by rfl) ?_); clear hA ac hW; intro w1 hW ac hA
 refine wpList_nil <| ret0 (.inr rfl) rfl hA ?_
 clear hA
 exact ⟨rfl, (Ws.pack (K := []) (show Ws w (· ∈ (EvR b x).fp) ([Cel b #[vI .i64 x.g, vI .i64 x.kind, vI .i64 x.site.f, vI .i64 x.site.pc, vI .u32 x.addr, vI .i64 x.child, vI .i64 x.obj, vI .i64 n, vI .i64 x.trap] 43] ++ []) [] _ from hW.pick [0] (by decide) rfl)).updDone 0 rfl⟩

set_option maxRecDepth 100000 in
theorem e_ptrap1 (x : Event) (w : World)  : Calls Tryz.prog 177 #[x.v] w (fun e w' => e = .returned (vI .i64 x.trap) ∧ Fr No w w') := by
 refine enter_E 5 Tryz.func177 rfl rfl (by kernel_rfl) (L := [(0, x.v)]) (by kernel_rfl) ?_
 intro ac hA
 have hW := Ws.start w No
 refine wr <| st_s hA (Runs.cells (fun b => pA b 0) #[vI .i64 x.g, vI .i64 x.kind, vI .i64 x.site.f, vI .i64 x.site.pc, vI .u32 x.addr, vI .i64 x.child, vI .i64 x.obj, vI .i64 x.n, vI .i64 x.trap] 43 (fun _ => by kernel_rfl) hW ?_); clear hA ac hW; intro b1 w2 hW hb1 hfw2 ac hA
 refine st_p (vI .i64 0) hA ?_; clear hA ac; intro ac hA
 refine wn <| wr <| st_p (pA b1 8) hA fun ac hA => st_q (vI .i64 x.trap) hA hW.cls (rl b1 8 0) fun ac hA => st_p (vI .i64 x.trap) hA fun ac hA => wn <| wp_ret <| r1 (vI .i64 x.trap) hA ?_
 clear hA
 exact ⟨retv (by rfl), hW.fr⟩

set_option maxRecDepth 100000 in
theorem e_ptrap2 (b : Nat) (x : Event) (n : Int) (w : World) (ho_p : (EvR b x).p w) (hl_p : ∀ x_ ∈ (EvR b x).fp, x_ < w.heap.size) (hn : -9223372036854775808 ≤ n ∧ n ≤ 9223372036854775807) : Calls Tryz.prog 178 #[pA b 0, vI .i64 n] w (fun e w' => e = .returned (vT #[]) ∧ Upd (EvR b x) (EvR b (⟨x.g, x.kind, x.site, x.addr, x.child, x.obj, x.n, n⟩ : Event)) w w') := by
 have _hu := ho_p; have _hv := hl_p; clear _hu _hv
 have _hu := hn; clear _hu
 refine enter_E 8 Tryz.func178 rfl rfl (by kernel_rfl) (L := [(0, pA b 0), (1, vI .i64 n)]) (by kernel_rfl) ?_
 intro ac hA
 have hW : Ws w (· ∈ (EvR b x).fp) [Cel b #[vI .i64 x.g, vI .i64 x.kind, vI .i64 x.site.f, vI .i64 x.site.pc, vI .u32 x.addr, vI .i64 x.child, vI .i64 x.obj, vI .i64 x.n, vI .i64 x.trap] 43] [] w := Ws.unpack (K := []) (objW ho_p hl_p)
 clear ho_p hl_p
 refine wp_region_lit <| st_p (pA b 0) hA fun ac hA => st_p (vI .i64 n) hA fun ac hA => st_p (pA b 0) hA fun ac hA => st_p (pA b 8) hA fun ac hA => st_s hA (Runs.store (v := vI .i64 n) (b := b) (j := 8) (n := 1) (cs' := #[vI .i64 x.g, vI .i64 x.kind, vI .i64 x.site.f, vI .i64 x.site.pc, vI .u32 x.addr, vI .i64 x.child, vI .i64 x.obj, vI .i64 x.n, vI .i64 n]) (H' := [Cel b #[vI .i64 x.g, vI .i64 x.kind, vI .i64 x.site.f, vI .i64 x.site.pc, vI .u32 x.addr, vI .i64 x.child, vI .i64 x.obj, vI .i64 x.n, vI .i64 n] 43]) (by kernel_rfl) (by kernel_rfl) (by kernel_rfl) (by kernel_rfl) (by kernel_rfl) hW 0 (by rfl) (Nat.le_of_ble_eq_true (by kernel_rfl)) (by kernel_rfl) (by rfl) ?_); clear hA ac hW; intro w1 hW ac hA
 refine wpList_nil <| ret0 (.inr rfl) rfl hA ?_
 clear hA
 exact ⟨rfl, (Ws.pack (K := []) (show Ws w (· ∈ (EvR b x).fp) ([Cel b #[vI .i64 x.g, vI .i64 x.kind, vI .i64 x.site.f, vI .i64 x.site.pc, vI .u32 x.addr, vI .i64 x.child, vI .i64 x.obj, vI .i64 x.n, vI .i64 n] 43] ++ []) [] _ from hW.pick [0] (by decide) rfl)).updDone 0 rfl⟩

set_option maxHeartbeats 4000000 in
set_option maxRecDepth 100000 in
theorem e_enamed (k : Int) (w : World)  : Calls Tryz.prog 142 #[vI .i64 k] w (fun e w' => ∃ bo : Nat, ∃ ba : Nat, ∃ bb : Nat, ∃ bc : Nat, ∃ bn : Nat, ∃ bt : Nat, ∃ be : Nat, ∃ bf : Nat, e = .returned (namedV bo ba bb bc bn bt be bf k) ∧ Made (PartsR bo ba bb bc bn bt be bf) w w') := by
 refine enter_E 38 Tryz.func142 rfl rfl (by kernel_rfl) (L := [(0, vI .i64 k)]) (by kernel_rfl) ?_
 intro ac hA
 have hW := Ws.start w No
 refine wr <| st_p (vS none 0 0) hA fun ac hA => st_p (vB false) hA fun ac hA => wn <| wr <| st_s hA (Runs.callN (v := vA #[vI .i64 0, vI .i64 63, vI .i64 1, vF (.func 168) #[] #[], vF (.func 169) #[] #[], vF (.func 170) #[] #[]]) (fun _ => by kernel_rfl) hW (e_pobj w) ?_); clear hA ac hW; intro w1 hW hfw1 ac hA
 refine st_s hA (Runs.cells (fun b => vS (some ⟨b, 0, none⟩) 1 1) #[vI .i64 0, vI .i64 63, vI .i64 1, vF (.func 168) #[] #[], vF (.func 169) #[] #[], vF (.func 170) #[] #[]] 267 (fun _ => by kernel_rfl) hW ?_); clear hA ac hW; intro b2 w3 hW hb2 hfw3 ac hA
 refine st_p (vS (some ⟨b2, 0, none⟩) 1 1) hA ?_; clear hA ac; intro ac hA
 refine wn <| wr <| st_s hA (Runs.makeMap (fun a : Int => vI .i64 a) (fun v_ : Value => v_) hW ?_); clear hA ac hW; intro b4 w5 hW hb4 hfw5 ac hA
 refine st_s hA (Runs.cells (fun b => vS (some ⟨b, 0, none⟩) 0 0) #[] 267 (fun _ => by kernel_rfl) hW ?_); clear hA ac hW; intro b6 w7 hW hb6 hfw7 ac hA
 refine st_s hA (Runs.insert (k := 38) (e := 260) (ek := (fun a : Int => vI .i64 a)) (ev := (fun v_ : Value => v_)) (m := ([])) (1 : Int) (vS (some ⟨b6, 0, none⟩) 0 0) (by kernel_rfl) (by kernel_rfl) (by kernel_rfl) (KeyE.int (by kernel_rfl)) (by kernel_rfl) hW (i := 1) rfl ?_); clear hA ac hW; intro w8 hW ac hA
 refine st_s hA (Runs.callN (v := vA #[vI .i64 0, vI .i64 4294967295, vI .i64 4, vF (.func 171) #[] #[], vF (.func 172) #[] #[], vF (.func 170) #[] #[]]) (fun _ => by kernel_rfl) hW (e_paddr w8) ?_); clear hA ac hW; intro w9 hW hfw9 ac hA
 refine st_s hA (Runs.cells (fun b => vS (some ⟨b, 0, none⟩) 1 1) #[vI .i64 0, vI .i64 4294967295, vI .i64 4, vF (.func 171) #[] #[], vF (.func 172) #[] #[], vF (.func 170) #[] #[]] 267 (fun _ => by kernel_rfl) hW ?_); clear hA ac hW; intro b10 w11 hW hb10 hfw11 ac hA
 refine st_s hA (Runs.insert (k := 38) (e := 260) (ek := (fun a : Int => vI .i64 a)) (ev := (fun v_ : Value => v_)) (m := (put ([]) (1 : Int) (vS (some ⟨b6, 0, none⟩) 0 0))) (2 : Int) (vS (some ⟨b10, 0, none⟩) 1 1) (by kernel_rfl) (by kernel_rfl) (by kernel_rfl) (KeyE.int (by kernel_rfl)) (by kernel_rfl) hW (i := 2) rfl ?_); clear hA ac hW; intro w12 hW ac hA
 refine st_s hA (Runs.callN (v := vA #[vI .i64 0, vI .i64 4294967295, vI .i64 4, vF (.func 171) #[] #[], vF (.func 172) #[] #[], vF (.func 170) #[] #[]]) (fun _ => by kernel_rfl) hW (e_paddr w12) ?_); clear hA ac hW; intro w13 hW hfw13 ac hA
 refine st_s hA (Runs.cells (fun b => vS (some ⟨b, 0, none⟩) 1 1) #[vI .i64 0, vI .i64 4294967295, vI .i64 4, vF (.func 171) #[] #[], vF (.func 172) #[] #[], vF (.func 170) #[] #[]] 267 (fun _ => by kernel_rfl) hW ?_); clear hA ac hW; intro b14 w15 hW hb14 hfw15 ac hA
 refine st_s hA (Runs.insert (k := 38) (e := 260) (ek := (fun a : Int => vI .i64 a)) (ev := (fun v_ : Value => v_)) (m := (put (put ([]) (1 : Int) (vS (some ⟨b6, 0, none⟩) 0 0)) (2 : Int) (vS (some ⟨b10, 0, none⟩) 1 1))) (3 : Int) (vS (some ⟨b14, 0, none⟩) 1 1) (by kernel_rfl) (by kernel_rfl) (by kernel_rfl) (KeyE.int (by kernel_rfl)) (by kernel_rfl) hW (i := 3) rfl ?_); clear hA ac hW; intro w16 hW ac hA
 refine st_s hA (Runs.callN (v := vA #[vI .i64 1, vI .i64 65535, vI .i64 2, vF (.func 173) #[] #[], vF (.func 174) #[] #[], vF (.func 170) #[] #[]]) (fun _ => by kernel_rfl) hW (e_pchild w16) ?_); clear hA ac hW; intro w17 hW hfw17 ac hA
 refine st_s hA (Runs.cells (fun b => vS (some ⟨b, 0, none⟩) 1 1) #[vI .i64 1, vI .i64 65535, vI .i64 2, vF (.func 173) #[] #[], vF (.func 174) #[] #[], vF (.func 170) #[] #[]] 267 (fun _ => by kernel_rfl) hW ?_); clear hA ac hW; intro b18 w19 hW hb18 hfw19 ac hA
 refine st_s hA (Runs.insert (k := 38) (e := 260) (ek := (fun a : Int => vI .i64 a)) (ev := (fun v_ : Value => v_)) (m := (put (put (put ([]) (1 : Int) (vS (some ⟨b6, 0, none⟩) 0 0)) (2 : Int) (vS (some ⟨b10, 0, none⟩) 1 1)) (3 : Int) (vS (some ⟨b14, 0, none⟩) 1 1))) (4 : Int) (vS (some ⟨b18, 0, none⟩) 1 1) (by kernel_rfl) (by kernel_rfl) (by kernel_rfl) (KeyE.int (by kernel_rfl)) (by kernel_rfl) hW (i := 4) rfl ?_); clear hA ac hW; intro w20 hW ac hA
 refine st_p (vS (some ⟨b2, 0, none⟩) 1 1) hA ?_; clear hA ac; intro ac hA
 refine st_s hA (Runs.insert (k := 38) (e := 260) (ek := (fun a : Int => vI .i64 a)) (ev := (fun v_ : Value => v_)) (m := (put (put (put (put ([]) (1 : Int) (vS (some ⟨b6, 0, none⟩) 0 0)) (2 : Int) (vS (some ⟨b10, 0, none⟩) 1 1)) (3 : Int) (vS (some ⟨b14, 0, none⟩) 1 1)) (4 : Int) (vS (some ⟨b18, 0, none⟩) 1 1))) (5 : Int) (vS (some ⟨b2, 0, none⟩) 1 1) (by kernel_rfl) (by kernel_rfl) (by kernel_rfl) (KeyE.int (by kernel_rfl)) (by kernel_rfl) hW (i := 4) rfl ?_); clear hA ac hW; intro w21 hW ac hA
 refine st_p (vS (some ⟨b2, 0, none⟩) 1 1) hA ?_; clear hA ac; intro ac hA
 refine st_s hA (Runs.insert (k := 38) (e := 260) (ek := (fun a : Int => vI .i64 a)) (ev := (fun v_ : Value => v_)) (m := (put (put (put (put (put ([]) (1 : Int) (vS (some ⟨b6, 0, none⟩) 0 0)) (2 : Int) (vS (some ⟨b10, 0, none⟩) 1 1)) (3 : Int) (vS (some ⟨b14, 0, none⟩) 1 1)) (4 : Int) (vS (some ⟨b18, 0, none⟩) 1 1)) (5 : Int) (vS (some ⟨b2, 0, none⟩) 1 1))) (6 : Int) (vS (some ⟨b2, 0, none⟩) 1 1) (by kernel_rfl) (by kernel_rfl) (by kernel_rfl) (KeyE.int (by kernel_rfl)) (by kernel_rfl) hW (i := 4) rfl ?_); clear hA ac hW; intro w22 hW ac hA
 refine st_p (vS (some ⟨b2, 0, none⟩) 1 1) hA ?_; clear hA ac; intro ac hA
 refine st_s hA (Runs.insert (k := 38) (e := 260) (ek := (fun a : Int => vI .i64 a)) (ev := (fun v_ : Value => v_)) (m := (put (put (put (put (put (put ([]) (1 : Int) (vS (some ⟨b6, 0, none⟩) 0 0)) (2 : Int) (vS (some ⟨b10, 0, none⟩) 1 1)) (3 : Int) (vS (some ⟨b14, 0, none⟩) 1 1)) (4 : Int) (vS (some ⟨b18, 0, none⟩) 1 1)) (5 : Int) (vS (some ⟨b2, 0, none⟩) 1 1)) (6 : Int) (vS (some ⟨b2, 0, none⟩) 1 1))) (7 : Int) (vS (some ⟨b2, 0, none⟩) 1 1) (by kernel_rfl) (by kernel_rfl) (by kernel_rfl) (KeyE.int (by kernel_rfl)) (by kernel_rfl) hW (i := 4) rfl ?_); clear hA ac hW; intro w23 hW ac hA
 refine st_p (vS (some ⟨b2, 0, none⟩) 1 1) hA ?_; clear hA ac; intro ac hA
 refine st_s hA (Runs.insert (k := 38) (e := 260) (ek := (fun a : Int => vI .i64 a)) (ev := (fun v_ : Value => v_)) (m := (put (put (put (put (put (put (put ([]) (1 : Int) (vS (some ⟨b6, 0, none⟩) 0 0)) (2 : Int) (vS (some ⟨b10, 0, none⟩) 1 1)) (3 : Int) (vS (some ⟨b14, 0, none⟩) 1 1)) (4 : Int) (vS (some ⟨b18, 0, none⟩) 1 1)) (5 : Int) (vS (some ⟨b2, 0, none⟩) 1 1)) (6 : Int) (vS (some ⟨b2, 0, none⟩) 1 1)) (7 : Int) (vS (some ⟨b2, 0, none⟩) 1 1))) (8 : Int) (vS (some ⟨b2, 0, none⟩) 1 1) (by kernel_rfl) (by kernel_rfl) (by kernel_rfl) (KeyE.int (by kernel_rfl)) (by kernel_rfl) hW (i := 4) rfl ?_); clear hA ac hW; intro w24 hW ac hA
 refine st_p (vS (some ⟨b2, 0, none⟩) 1 1) hA ?_; clear hA ac; intro ac hA
 refine st_s hA (Runs.insert (k := 38) (e := 260) (ek := (fun a : Int => vI .i64 a)) (ev := (fun v_ : Value => v_)) (m := (put (put (put (put (put (put (put (put ([]) (1 : Int) (vS (some ⟨b6, 0, none⟩) 0 0)) (2 : Int) (vS (some ⟨b10, 0, none⟩) 1 1)) (3 : Int) (vS (some ⟨b14, 0, none⟩) 1 1)) (4 : Int) (vS (some ⟨b18, 0, none⟩) 1 1)) (5 : Int) (vS (some ⟨b2, 0, none⟩) 1 1)) (6 : Int) (vS (some ⟨b2, 0, none⟩) 1 1)) (7 : Int) (vS (some ⟨b2, 0, none⟩) 1 1)) (8 : Int) (vS (some ⟨b2, 0, none⟩) 1 1))) (9 : Int) (vS (some ⟨b2, 0, none⟩) 1 1) (by kernel_rfl) (by kernel_rfl) (by kernel_rfl) (KeyE.int (by kernel_rfl)) (by kernel_rfl) hW (i := 4) rfl ?_); clear hA ac hW; intro w25 hW ac hA
 refine st_p (vS (some ⟨b2, 0, none⟩) 1 1) hA ?_; clear hA ac; intro ac hA
 refine st_s hA (Runs.insert (k := 38) (e := 260) (ek := (fun a : Int => vI .i64 a)) (ev := (fun v_ : Value => v_)) (m := (put (put (put (put (put (put (put (put (put ([]) (1 : Int) (vS (some ⟨b6, 0, none⟩) 0 0)) (2 : Int) (vS (some ⟨b10, 0, none⟩) 1 1)) (3 : Int) (vS (some ⟨b14, 0, none⟩) 1 1)) (4 : Int) (vS (some ⟨b18, 0, none⟩) 1 1)) (5 : Int) (vS (some ⟨b2, 0, none⟩) 1 1)) (6 : Int) (vS (some ⟨b2, 0, none⟩) 1 1)) (7 : Int) (vS (some ⟨b2, 0, none⟩) 1 1)) (8 : Int) (vS (some ⟨b2, 0, none⟩) 1 1)) (9 : Int) (vS (some ⟨b2, 0, none⟩) 1 1))) (10 : Int) (vS (some ⟨b2, 0, none⟩) 1 1) (by kernel_rfl) (by kernel_rfl) (by kernel_rfl) (KeyE.int (by kernel_rfl)) (by kernel_rfl) hW (i := 4) rfl ?_); clear hA ac hW; intro w26 hW ac hA
 refine st_s hA (Runs.callN (v := vA #[vI .i64 0, vI .i64 63, vI .i64 1, vF (.func 168) #[] #[], vF (.func 169) #[] #[], vF (.func 170) #[] #[]]) (fun _ => by kernel_rfl) hW (e_pobj w26) ?_); clear hA ac hW; intro w27 hW hfw27 ac hA
 refine st_s hA (Runs.callN (v := vA #[vI .i64 (-2147483648), vI .i64 2147483647, vI .i64 4, vF (.func 175) #[] #[], vF (.func 176) #[] #[], vF (.func 170) #[] #[]]) (fun _ => by kernel_rfl) hW (e_pcount w27) ?_); clear hA ac hW; intro w28 hW hfw28 ac hA
 refine st_s hA (Runs.cells (fun b => vS (some ⟨b, 0, none⟩) 2 2) #[vI .i64 0, vI .i64 63, vI .i64 1, vF (.func 168) #[] #[], vF (.func 169) #[] #[], vF (.func 170) #[] #[], vI .i64 (-2147483648), vI .i64 2147483647, vI .i64 4, vF (.func 175) #[] #[], vF (.func 176) #[] #[], vF (.func 170) #[] #[]] 267 (fun _ => by kernel_rfl) hW ?_); clear hA ac hW; intro b29 w30 hW hb29 hfw30 ac hA
 refine st_s hA (Runs.insert (k := 38) (e := 260) (ek := (fun a : Int => vI .i64 a)) (ev := (fun v_ : Value => v_)) (m := (put (put (put (put (put (put (put (put (put (put ([]) (1 : Int) (vS (some ⟨b6, 0, none⟩) 0 0)) (2 : Int) (vS (some ⟨b10, 0, none⟩) 1 1)) (3 : Int) (vS (some ⟨b14, 0, none⟩) 1 1)) (4 : Int) (vS (some ⟨b18, 0, none⟩) 1 1)) (5 : Int) (vS (some ⟨b2, 0, none⟩) 1 1)) (6 : Int) (vS (some ⟨b2, 0, none⟩) 1 1)) (7 : Int) (vS (some ⟨b2, 0, none⟩) 1 1)) (8 : Int) (vS (some ⟨b2, 0, none⟩) 1 1)) (9 : Int) (vS (some ⟨b2, 0, none⟩) 1 1)) (10 : Int) (vS (some ⟨b2, 0, none⟩) 1 1))) (11 : Int) (vS (some ⟨b29, 0, none⟩) 2 2) (by kernel_rfl) (by kernel_rfl) (by kernel_rfl) (KeyE.int (by kernel_rfl)) (by kernel_rfl) hW (i := 5) rfl ?_); clear hA ac hW; intro w31 hW ac hA
 refine st_p (vS (some ⟨b2, 0, none⟩) 1 1) hA ?_; clear hA ac; intro ac hA
 refine st_s hA (Runs.insert (k := 38) (e := 260) (ek := (fun a : Int => vI .i64 a)) (ev := (fun v_ : Value => v_)) (m := (put (put (put (put (put (put (put (put (put (put (put ([]) (1 : Int) (vS (some ⟨b6, 0, none⟩) 0 0)) (2 : Int) (vS (some ⟨b10, 0, none⟩) 1 1)) (3 : Int) (vS (some ⟨b14, 0, none⟩) 1 1)) (4 : Int) (vS (some ⟨b18, 0, none⟩) 1 1)) (5 : Int) (vS (some ⟨b2, 0, none⟩) 1 1)) (6 : Int) (vS (some ⟨b2, 0, none⟩) 1 1)) (7 : Int) (vS (some ⟨b2, 0, none⟩) 1 1)) (8 : Int) (vS (some ⟨b2, 0, none⟩) 1 1)) (9 : Int) (vS (some ⟨b2, 0, none⟩) 1 1)) (10 : Int) (vS (some ⟨b2, 0, none⟩) 1 1)) (11 : Int) (vS (some ⟨b29, 0, none⟩) 2 2))) (12 : Int) (vS (some ⟨b2, 0, none⟩) 1 1) (by kernel_rfl) (by kernel_rfl) (by kernel_rfl) (KeyE.int (by kernel_rfl)) (by kernel_rfl) hW (i := 5) rfl ?_); clear hA ac hW; intro w32 hW ac hA
 refine st_s hA (Runs.cells (fun b => vS (some ⟨b, 0, none⟩) 0 0) #[] 267 (fun _ => by kernel_rfl) hW ?_); clear hA ac hW; intro b33 w34 hW hb33 hfw34 ac hA
 refine st_s hA (Runs.insert (k := 38) (e := 260) (ek := (fun a : Int => vI .i64 a)) (ev := (fun v_ : Value => v_)) (m := (put (put (put (put (put (put (put (put (put (put (put (put ([]) (1 : Int) (vS (some ⟨b6, 0, none⟩) 0 0)) (2 : Int) (vS (some ⟨b10, 0, none⟩) 1 1)) (3 : Int) (vS (some ⟨b14, 0, none⟩) 1 1)) (4 : Int) (vS (some ⟨b18, 0, none⟩) 1 1)) (5 : Int) (vS (some ⟨b2, 0, none⟩) 1 1)) (6 : Int) (vS (some ⟨b2, 0, none⟩) 1 1)) (7 : Int) (vS (some ⟨b2, 0, none⟩) 1 1)) (8 : Int) (vS (some ⟨b2, 0, none⟩) 1 1)) (9 : Int) (vS (some ⟨b2, 0, none⟩) 1 1)) (10 : Int) (vS (some ⟨b2, 0, none⟩) 1 1)) (11 : Int) (vS (some ⟨b29, 0, none⟩) 2 2)) (12 : Int) (vS (some ⟨b2, 0, none⟩) 1 1))) (13 : Int) (vS (some ⟨b33, 0, none⟩) 0 0) (by kernel_rfl) (by kernel_rfl) (by kernel_rfl) (KeyE.int (by kernel_rfl)) (by kernel_rfl) hW (i := 6) rfl ?_); clear hA ac hW; intro w35 hW ac hA
 refine st_s hA (Runs.callN (v := vA #[vI .i64 1, vI .i64 6, vI .i64 1, vF (.func 177) #[] #[], vF (.func 178) #[] #[], vF (.func 179) #[] #[]]) (fun _ => by kernel_rfl) hW (e_ptrap w35) ?_); clear hA ac hW; intro w36 hW hfw36 ac hA
 refine st_s hA (Runs.cells (fun b => vS (some ⟨b, 0, none⟩) 1 1) #[vI .i64 1, vI .i64 6, vI .i64 1, vF (.func 177) #[] #[], vF (.func 178) #[] #[], vF (.func 179) #[] #[]] 267 (fun _ => by kernel_rfl) hW ?_); clear hA ac hW; intro b37 w38 hW hb37 hfw38 ac hA
 refine st_s hA (Runs.insert (k := 38) (e := 260) (ek := (fun a : Int => vI .i64 a)) (ev := (fun v_ : Value => v_)) (m := (put (put (put (put (put (put (put (put (put (put (put (put (put ([]) (1 : Int) (vS (some ⟨b6, 0, none⟩) 0 0)) (2 : Int) (vS (some ⟨b10, 0, none⟩) 1 1)) (3 : Int) (vS (some ⟨b14, 0, none⟩) 1 1)) (4 : Int) (vS (some ⟨b18, 0, none⟩) 1 1)) (5 : Int) (vS (some ⟨b2, 0, none⟩) 1 1)) (6 : Int) (vS (some ⟨b2, 0, none⟩) 1 1)) (7 : Int) (vS (some ⟨b2, 0, none⟩) 1 1)) (8 : Int) (vS (some ⟨b2, 0, none⟩) 1 1)) (9 : Int) (vS (some ⟨b2, 0, none⟩) 1 1)) (10 : Int) (vS (some ⟨b2, 0, none⟩) 1 1)) (11 : Int) (vS (some ⟨b29, 0, none⟩) 2 2)) (12 : Int) (vS (some ⟨b2, 0, none⟩) 1 1)) (13 : Int) (vS (some ⟨b33, 0, none⟩) 0 0))) (14 : Int) (vS (some ⟨b37, 0, none⟩) 1 1) (by kernel_rfl) (by kernel_rfl) (by kernel_rfl) (KeyE.int (by kernel_rfl)) (by kernel_rfl) hW (i := 7) rfl ?_); clear hA ac hW; intro w39 hW ac hA
 refine st_p (vM (some b4)) hA fun ac hA => st_p (vI .i64 k) hA fun ac hA => st_q (vT #[((look (put (put (put (put (put (put (put (put (put (put (put (put (put (put ([]) (1 : Int) (vS (some ⟨b6, 0, none⟩) 0 0)) (2 : Int) (vS (some ⟨b10, 0, none⟩) 1 1)) (3 : Int) (vS (some ⟨b14, 0, none⟩) 1 1)) (4 : Int) (vS (some ⟨b18, 0, none⟩) 1 1)) (5 : Int) (vS (some ⟨b2, 0, none⟩) 1 1)) (6 : Int) (vS (some ⟨b2, 0, none⟩) 1 1)) (7 : Int) (vS (some ⟨b2, 0, none⟩) 1 1)) (8 : Int) (vS (some ⟨b2, 0, none⟩) 1 1)) (9 : Int) (vS (some ⟨b2, 0, none⟩) 1 1)) (10 : Int) (vS (some ⟨b2, 0, none⟩) 1 1)) (11 : Int) (vS (some ⟨b29, 0, none⟩) 2 2)) (12 : Int) (vS (some ⟨b2, 0, none⟩) 1 1)) (13 : Int) (vS (some ⟨b33, 0, none⟩) 0 0)) (14 : Int) (vS (some ⟨b37, 0, none⟩) 1 1)) (k : Int)).getD (vS none 0 0)), vB (look (put (put (put (put (put (put (put (put (put (put (put (put (put (put ([]) (1 : Int) (vS (some ⟨b6, 0, none⟩) 0 0)) (2 : Int) (vS (some ⟨b10, 0, none⟩) 1 1)) (3 : Int) (vS (some ⟨b14, 0, none⟩) 1 1)) (4 : Int) (vS (some ⟨b18, 0, none⟩) 1 1)) (5 : Int) (vS (some ⟨b2, 0, none⟩) 1 1)) (6 : Int) (vS (some ⟨b2, 0, none⟩) 1 1)) (7 : Int) (vS (some ⟨b2, 0, none⟩) 1 1)) (8 : Int) (vS (some ⟨b2, 0, none⟩) 1 1)) (9 : Int) (vS (some ⟨b2, 0, none⟩) 1 1)) (10 : Int) (vS (some ⟨b2, 0, none⟩) 1 1)) (11 : Int) (vS (some ⟨b29, 0, none⟩) 2 2)) (12 : Int) (vS (some ⟨b2, 0, none⟩) 1 1)) (13 : Int) (vS (some ⟨b33, 0, none⟩) 0 0)) (14 : Int) (vS (some ⟨b37, 0, none⟩) 1 1)) (k : Int)).isSome]) hA hW.cls ((Rd.lookup (k := 38) (e := 260) (ek := (fun a : Int => vI .i64 a)) (ev := (fun v_ : Value => v_)) (m := (put (put (put (put (put (put (put (put (put (put (put (put (put (put ([]) (1 : Int) (vS (some ⟨b6, 0, none⟩) 0 0)) (2 : Int) (vS (some ⟨b10, 0, none⟩) 1 1)) (3 : Int) (vS (some ⟨b14, 0, none⟩) 1 1)) (4 : Int) (vS (some ⟨b18, 0, none⟩) 1 1)) (5 : Int) (vS (some ⟨b2, 0, none⟩) 1 1)) (6 : Int) (vS (some ⟨b2, 0, none⟩) 1 1)) (7 : Int) (vS (some ⟨b2, 0, none⟩) 1 1)) (8 : Int) (vS (some ⟨b2, 0, none⟩) 1 1)) (9 : Int) (vS (some ⟨b2, 0, none⟩) 1 1)) (10 : Int) (vS (some ⟨b2, 0, none⟩) 1 1)) (11 : Int) (vS (some ⟨b29, 0, none⟩) 2 2)) (12 : Int) (vS (some ⟨b2, 0, none⟩) 1 1)) (13 : Int) (vS (some ⟨b33, 0, none⟩) 0 0)) (14 : Int) (vS (some ⟨b37, 0, none⟩) 1 1))) (z := vS none 0 0) (k : Int) true (by kernel_rfl) (by kernel_rfl) (KeyE.int (by kernel_rfl)) (by kernel_rfl) (fun _ => by kernel_rfl) (fun _ hw => (hw.1).get 7 rfl)).cast (by generalize look (put (put (put (put (put (put (put (put (put (put (put (put (put (put ([]) (1 : Int) (vS (some ⟨b6, 0, none⟩) 0 0)) (2 : Int) (vS (some ⟨b10, 0, none⟩) 1 1)) (3 : Int) (vS (some ⟨b14, 0, none⟩) 1 1)) (4 : Int) (vS (some ⟨b18, 0, none⟩) 1 1)) (5 : Int) (vS (some ⟨b2, 0, none⟩) 1 1)) (6 : Int) (vS (some ⟨b2, 0, none⟩) 1 1)) (7 : Int) (vS (some ⟨b2, 0, none⟩) 1 1)) (8 : Int) (vS (some ⟨b2, 0, none⟩) 1 1)) (9 : Int) (vS (some ⟨b2, 0, none⟩) 1 1)) (10 : Int) (vS (some ⟨b2, 0, none⟩) 1 1)) (11 : Int) (vS (some ⟨b29, 0, none⟩) 2 2)) (12 : Int) (vS (some ⟨b2, 0, none⟩) 1 1)) (13 : Int) (vS (some ⟨b33, 0, none⟩) 0 0)) (14 : Int) (vS (some ⟨b37, 0, none⟩) 1 1)) (k : Int) = o_; cases o_ <;> rfl)) fun ac hA => st_p (vT #[((look (put (put (put (put (put (put (put (put (put (put (put (put (put (put ([]) (1 : Int) (vS (some ⟨b6, 0, none⟩) 0 0)) (2 : Int) (vS (some ⟨b10, 0, none⟩) 1 1)) (3 : Int) (vS (some ⟨b14, 0, none⟩) 1 1)) (4 : Int) (vS (some ⟨b18, 0, none⟩) 1 1)) (5 : Int) (vS (some ⟨b2, 0, none⟩) 1 1)) (6 : Int) (vS (some ⟨b2, 0, none⟩) 1 1)) (7 : Int) (vS (some ⟨b2, 0, none⟩) 1 1)) (8 : Int) (vS (some ⟨b2, 0, none⟩) 1 1)) (9 : Int) (vS (some ⟨b2, 0, none⟩) 1 1)) (10 : Int) (vS (some ⟨b2, 0, none⟩) 1 1)) (11 : Int) (vS (some ⟨b29, 0, none⟩) 2 2)) (12 : Int) (vS (some ⟨b2, 0, none⟩) 1 1)) (13 : Int) (vS (some ⟨b33, 0, none⟩) 0 0)) (14 : Int) (vS (some ⟨b37, 0, none⟩) 1 1)) (k : Int)).getD (vS none 0 0)), vB (look (put (put (put (put (put (put (put (put (put (put (put (put (put (put ([]) (1 : Int) (vS (some ⟨b6, 0, none⟩) 0 0)) (2 : Int) (vS (some ⟨b10, 0, none⟩) 1 1)) (3 : Int) (vS (some ⟨b14, 0, none⟩) 1 1)) (4 : Int) (vS (some ⟨b18, 0, none⟩) 1 1)) (5 : Int) (vS (some ⟨b2, 0, none⟩) 1 1)) (6 : Int) (vS (some ⟨b2, 0, none⟩) 1 1)) (7 : Int) (vS (some ⟨b2, 0, none⟩) 1 1)) (8 : Int) (vS (some ⟨b2, 0, none⟩) 1 1)) (9 : Int) (vS (some ⟨b2, 0, none⟩) 1 1)) (10 : Int) (vS (some ⟨b2, 0, none⟩) 1 1)) (11 : Int) (vS (some ⟨b29, 0, none⟩) 2 2)) (12 : Int) (vS (some ⟨b2, 0, none⟩) 1 1)) (13 : Int) (vS (some ⟨b33, 0, none⟩) 0 0)) (14 : Int) (vS (some ⟨b37, 0, none⟩) 1 1)) (k : Int)).isSome]) hA fun ac hA => st_p (((look (put (put (put (put (put (put (put (put (put (put (put (put (put (put ([]) (1 : Int) (vS (some ⟨b6, 0, none⟩) 0 0)) (2 : Int) (vS (some ⟨b10, 0, none⟩) 1 1)) (3 : Int) (vS (some ⟨b14, 0, none⟩) 1 1)) (4 : Int) (vS (some ⟨b18, 0, none⟩) 1 1)) (5 : Int) (vS (some ⟨b2, 0, none⟩) 1 1)) (6 : Int) (vS (some ⟨b2, 0, none⟩) 1 1)) (7 : Int) (vS (some ⟨b2, 0, none⟩) 1 1)) (8 : Int) (vS (some ⟨b2, 0, none⟩) 1 1)) (9 : Int) (vS (some ⟨b2, 0, none⟩) 1 1)) (10 : Int) (vS (some ⟨b2, 0, none⟩) 1 1)) (11 : Int) (vS (some ⟨b29, 0, none⟩) 2 2)) (12 : Int) (vS (some ⟨b2, 0, none⟩) 1 1)) (13 : Int) (vS (some ⟨b33, 0, none⟩) 0 0)) (14 : Int) (vS (some ⟨b37, 0, none⟩) 1 1)) (k : Int)).getD (vS none 0 0))) hA fun ac hA => st_p (vB (look (put (put (put (put (put (put (put (put (put (put (put (put (put (put ([]) (1 : Int) (vS (some ⟨b6, 0, none⟩) 0 0)) (2 : Int) (vS (some ⟨b10, 0, none⟩) 1 1)) (3 : Int) (vS (some ⟨b14, 0, none⟩) 1 1)) (4 : Int) (vS (some ⟨b18, 0, none⟩) 1 1)) (5 : Int) (vS (some ⟨b2, 0, none⟩) 1 1)) (6 : Int) (vS (some ⟨b2, 0, none⟩) 1 1)) (7 : Int) (vS (some ⟨b2, 0, none⟩) 1 1)) (8 : Int) (vS (some ⟨b2, 0, none⟩) 1 1)) (9 : Int) (vS (some ⟨b2, 0, none⟩) 1 1)) (10 : Int) (vS (some ⟨b2, 0, none⟩) 1 1)) (11 : Int) (vS (some ⟨b29, 0, none⟩) 2 2)) (12 : Int) (vS (some ⟨b2, 0, none⟩) 1 1)) (13 : Int) (vS (some ⟨b33, 0, none⟩) 0 0)) (14 : Int) (vS (some ⟨b37, 0, none⟩) 1 1)) (k : Int)).isSome) hA fun ac hA => st_p (((look (put (put (put (put (put (put (put (put (put (put (put (put (put (put ([]) (1 : Int) (vS (some ⟨b6, 0, none⟩) 0 0)) (2 : Int) (vS (some ⟨b10, 0, none⟩) 1 1)) (3 : Int) (vS (some ⟨b14, 0, none⟩) 1 1)) (4 : Int) (vS (some ⟨b18, 0, none⟩) 1 1)) (5 : Int) (vS (some ⟨b2, 0, none⟩) 1 1)) (6 : Int) (vS (some ⟨b2, 0, none⟩) 1 1)) (7 : Int) (vS (some ⟨b2, 0, none⟩) 1 1)) (8 : Int) (vS (some ⟨b2, 0, none⟩) 1 1)) (9 : Int) (vS (some ⟨b2, 0, none⟩) 1 1)) (10 : Int) (vS (some ⟨b2, 0, none⟩) 1 1)) (11 : Int) (vS (some ⟨b29, 0, none⟩) 2 2)) (12 : Int) (vS (some ⟨b2, 0, none⟩) 1 1)) (13 : Int) (vS (some ⟨b33, 0, none⟩) 0 0)) (14 : Int) (vS (some ⟨b37, 0, none⟩) 1 1)) (k : Int)).getD (vS none 0 0))) hA fun ac hA => st_p (vB (look (put (put (put (put (put (put (put (put (put (put (put (put (put (put ([]) (1 : Int) (vS (some ⟨b6, 0, none⟩) 0 0)) (2 : Int) (vS (some ⟨b10, 0, none⟩) 1 1)) (3 : Int) (vS (some ⟨b14, 0, none⟩) 1 1)) (4 : Int) (vS (some ⟨b18, 0, none⟩) 1 1)) (5 : Int) (vS (some ⟨b2, 0, none⟩) 1 1)) (6 : Int) (vS (some ⟨b2, 0, none⟩) 1 1)) (7 : Int) (vS (some ⟨b2, 0, none⟩) 1 1)) (8 : Int) (vS (some ⟨b2, 0, none⟩) 1 1)) (9 : Int) (vS (some ⟨b2, 0, none⟩) 1 1)) (10 : Int) (vS (some ⟨b2, 0, none⟩) 1 1)) (11 : Int) (vS (some ⟨b29, 0, none⟩) 2 2)) (12 : Int) (vS (some ⟨b2, 0, none⟩) 1 1)) (13 : Int) (vS (some ⟨b33, 0, none⟩) 0 0)) (14 : Int) (vS (some ⟨b37, 0, none⟩) 1 1)) (k : Int)).isSome) hA fun ac hA => wn <| wr <| st_p (((look (put (put (put (put (put (put (put (put (put (put (put (put (put (put ([]) (1 : Int) (vS (some ⟨b6, 0, none⟩) 0 0)) (2 : Int) (vS (some ⟨b10, 0, none⟩) 1 1)) (3 : Int) (vS (some ⟨b14, 0, none⟩) 1 1)) (4 : Int) (vS (some ⟨b18, 0, none⟩) 1 1)) (5 : Int) (vS (some ⟨b2, 0, none⟩) 1 1)) (6 : Int) (vS (some ⟨b2, 0, none⟩) 1 1)) (7 : Int) (vS (some ⟨b2, 0, none⟩) 1 1)) (8 : Int) (vS (some ⟨b2, 0, none⟩) 1 1)) (9 : Int) (vS (some ⟨b2, 0, none⟩) 1 1)) (10 : Int) (vS (some ⟨b2, 0, none⟩) 1 1)) (11 : Int) (vS (some ⟨b29, 0, none⟩) 2 2)) (12 : Int) (vS (some ⟨b2, 0, none⟩) 1 1)) (13 : Int) (vS (some ⟨b33, 0, none⟩) 0 0)) (14 : Int) (vS (some ⟨b37, 0, none⟩) 1 1)) (k : Int)).getD (vS none 0 0))) hA fun ac hA => st_p (vB (look (put (put (put (put (put (put (put (put (put (put (put (put (put (put ([]) (1 : Int) (vS (some ⟨b6, 0, none⟩) 0 0)) (2 : Int) (vS (some ⟨b10, 0, none⟩) 1 1)) (3 : Int) (vS (some ⟨b14, 0, none⟩) 1 1)) (4 : Int) (vS (some ⟨b18, 0, none⟩) 1 1)) (5 : Int) (vS (some ⟨b2, 0, none⟩) 1 1)) (6 : Int) (vS (some ⟨b2, 0, none⟩) 1 1)) (7 : Int) (vS (some ⟨b2, 0, none⟩) 1 1)) (8 : Int) (vS (some ⟨b2, 0, none⟩) 1 1)) (9 : Int) (vS (some ⟨b2, 0, none⟩) 1 1)) (10 : Int) (vS (some ⟨b2, 0, none⟩) 1 1)) (11 : Int) (vS (some ⟨b29, 0, none⟩) 2 2)) (12 : Int) (vS (some ⟨b2, 0, none⟩) 1 1)) (13 : Int) (vS (some ⟨b33, 0, none⟩) 0 0)) (14 : Int) (vS (some ⟨b37, 0, none⟩) 1 1)) (k : Int)).isSome) hA fun ac hA => st_p (((look (put (put (put (put (put (put (put (put (put (put (put (put (put (put ([]) (1 : Int) (vS (some ⟨b6, 0, none⟩) 0 0)) (2 : Int) (vS (some ⟨b10, 0, none⟩) 1 1)) (3 : Int) (vS (some ⟨b14, 0, none⟩) 1 1)) (4 : Int) (vS (some ⟨b18, 0, none⟩) 1 1)) (5 : Int) (vS (some ⟨b2, 0, none⟩) 1 1)) (6 : Int) (vS (some ⟨b2, 0, none⟩) 1 1)) (7 : Int) (vS (some ⟨b2, 0, none⟩) 1 1)) (8 : Int) (vS (some ⟨b2, 0, none⟩) 1 1)) (9 : Int) (vS (some ⟨b2, 0, none⟩) 1 1)) (10 : Int) (vS (some ⟨b2, 0, none⟩) 1 1)) (11 : Int) (vS (some ⟨b29, 0, none⟩) 2 2)) (12 : Int) (vS (some ⟨b2, 0, none⟩) 1 1)) (13 : Int) (vS (some ⟨b33, 0, none⟩) 0 0)) (14 : Int) (vS (some ⟨b37, 0, none⟩) 1 1)) (k : Int)).getD (vS none 0 0))) hA fun ac hA => st_p (vB (look (put (put (put (put (put (put (put (put (put (put (put (put (put (put ([]) (1 : Int) (vS (some ⟨b6, 0, none⟩) 0 0)) (2 : Int) (vS (some ⟨b10, 0, none⟩) 1 1)) (3 : Int) (vS (some ⟨b14, 0, none⟩) 1 1)) (4 : Int) (vS (some ⟨b18, 0, none⟩) 1 1)) (5 : Int) (vS (some ⟨b2, 0, none⟩) 1 1)) (6 : Int) (vS (some ⟨b2, 0, none⟩) 1 1)) (7 : Int) (vS (some ⟨b2, 0, none⟩) 1 1)) (8 : Int) (vS (some ⟨b2, 0, none⟩) 1 1)) (9 : Int) (vS (some ⟨b2, 0, none⟩) 1 1)) (10 : Int) (vS (some ⟨b2, 0, none⟩) 1 1)) (11 : Int) (vS (some ⟨b29, 0, none⟩) 2 2)) (12 : Int) (vS (some ⟨b2, 0, none⟩) 1 1)) (13 : Int) (vS (some ⟨b33, 0, none⟩) 0 0)) (14 : Int) (vS (some ⟨b37, 0, none⟩) 1 1)) (k : Int)).isSome) hA fun ac hA => wn <| wp_ret <| ret2 (v1 := ((look (put (put (put (put (put (put (put (put (put (put (put (put (put (put ([]) (1 : Int) (vS (some ⟨b6, 0, none⟩) 0 0)) (2 : Int) (vS (some ⟨b10, 0, none⟩) 1 1)) (3 : Int) (vS (some ⟨b14, 0, none⟩) 1 1)) (4 : Int) (vS (some ⟨b18, 0, none⟩) 1 1)) (5 : Int) (vS (some ⟨b2, 0, none⟩) 1 1)) (6 : Int) (vS (some ⟨b2, 0, none⟩) 1 1)) (7 : Int) (vS (some ⟨b2, 0, none⟩) 1 1)) (8 : Int) (vS (some ⟨b2, 0, none⟩) 1 1)) (9 : Int) (vS (some ⟨b2, 0, none⟩) 1 1)) (10 : Int) (vS (some ⟨b2, 0, none⟩) 1 1)) (11 : Int) (vS (some ⟨b29, 0, none⟩) 2 2)) (12 : Int) (vS (some ⟨b2, 0, none⟩) 1 1)) (13 : Int) (vS (some ⟨b33, 0, none⟩) 0 0)) (14 : Int) (vS (some ⟨b37, 0, none⟩) 1 1)) (k : Int)).getD (vS none 0 0))) (v2 := vB (look (put (put (put (put (put (put (put (put (put (put (put (put (put (put ([]) (1 : Int) (vS (some ⟨b6, 0, none⟩) 0 0)) (2 : Int) (vS (some ⟨b10, 0, none⟩) 1 1)) (3 : Int) (vS (some ⟨b14, 0, none⟩) 1 1)) (4 : Int) (vS (some ⟨b18, 0, none⟩) 1 1)) (5 : Int) (vS (some ⟨b2, 0, none⟩) 1 1)) (6 : Int) (vS (some ⟨b2, 0, none⟩) 1 1)) (7 : Int) (vS (some ⟨b2, 0, none⟩) 1 1)) (8 : Int) (vS (some ⟨b2, 0, none⟩) 1 1)) (9 : Int) (vS (some ⟨b2, 0, none⟩) 1 1)) (10 : Int) (vS (some ⟨b2, 0, none⟩) 1 1)) (11 : Int) (vS (some ⟨b29, 0, none⟩) 2 2)) (12 : Int) (vS (some ⟨b2, 0, none⟩) 1 1)) (13 : Int) (vS (some ⟨b33, 0, none⟩) 0 0)) (14 : Int) (vS (some ⟨b37, 0, none⟩) 1 1)) (k : Int)).isSome) (by rfl) hA (Got.tmp hA (by kernel_rfl) (by kernel_rfl)) (Got.tmp hA (by kernel_rfl) (by kernel_rfl)) ?_
 clear hA
 exact ⟨b2, b10, b14, b18, b29, b37, b6, b33, rfl, (Ws.pack (K := []) (show Ws w No ([Cel b2 #[vI .i64 0, vI .i64 63, vI .i64 1, vF (.func 168) #[] #[], vF (.func 169) #[] #[], vF (.func 170) #[] #[]] 267, Cel b10 #[vI .i64 0, vI .i64 4294967295, vI .i64 4, vF (.func 171) #[] #[], vF (.func 172) #[] #[], vF (.func 170) #[] #[]] 267, Cel b14 #[vI .i64 0, vI .i64 4294967295, vI .i64 4, vF (.func 171) #[] #[], vF (.func 172) #[] #[], vF (.func 170) #[] #[]] 267, Cel b18 #[vI .i64 1, vI .i64 65535, vI .i64 2, vF (.func 173) #[] #[], vF (.func 174) #[] #[], vF (.func 170) #[] #[]] 267, Cel b29 #[vI .i64 0, vI .i64 63, vI .i64 1, vF (.func 168) #[] #[], vF (.func 169) #[] #[], vF (.func 170) #[] #[], vI .i64 (-2147483648), vI .i64 2147483647, vI .i64 4, vF (.func 175) #[] #[], vF (.func 176) #[] #[], vF (.func 170) #[] #[]] 267, Cel b37 #[vI .i64 1, vI .i64 6, vI .i64 1, vF (.func 177) #[] #[], vF (.func 178) #[] #[], vF (.func 179) #[] #[]] 267, Cel b6 #[] 267, Cel b33 #[] 267] ++ []) [] _ from hW.pick [8, 5, 4, 3, 2, 0, 6, 1] (by decide) rfl)).madeDone 0 rfl⟩

end Go.Proofs.YtoakhhilmnfpkaaGreatDoor.L
