/- Contracts, walked by program over the engine's laws. -/
import Derived.Test.YtcgcippmbeileaaProg
import Derived.Test.YtcgcippmbeileaaT9
import Derived.Test.YtcgcippmbeileaaSite
import Derived.Test.YtcgcippmbeileaaE19
namespace Go.Proofs.Ytcgcippmbeileaa.L
open Go.RowKit

structure Ep where
  ep : Int
deriving DecidableEq
def Ep.v (x : Ep) : Value := .agg #[.int .u64 x.ep]
def enEp (x : Ep) : List Value := [.int .u64 x.ep]
structure Shade where
  wr : Int
  ws : Site
  rd : Int
  rs : Site
  vec : Int
deriving DecidableEq
def Shade.v (x : Shade) : Value := .agg #[.int .u64 x.wr, .int .i64 x.ws.f, .int .i64 x.ws.pc, .int .u64 x.rd, .int .i64 x.rs.f, .int .i64 x.rs.pc, .int .i64 x.vec]
def enShade (x : Shade) : List Value := [.int .u64 x.wr, .int .i64 x.ws.f, .int .i64 x.ws.pc, .int .u64 x.rd, .int .i64 x.rs.f, .int .i64 x.rs.pc, .int .i64 x.vec]
structure Half where
  ep : Int
  at_ : Site
deriving DecidableEq
def Half.v (x : Half) : Value := .agg #[.int .u64 x.ep, .int .i64 x.at_.f, .int .i64 x.at_.pc]
def enHalf (x : Half) : List Value := [.int .u64 x.ep, .int .i64 x.at_.f, .int .i64 x.at_.pc]
structure Cell22 where
  addr : Int
  x : Shade
deriving DecidableEq
def Cell22.v (x : Cell22) : Value := .agg #[.int .u32 x.addr, .int .u64 x.x.wr, .int .i64 x.x.ws.f, .int .i64 x.x.ws.pc, .int .u64 x.x.rd, .int .i64 x.x.rs.f, .int .i64 x.x.rs.pc, .int .i64 x.x.vec]
def enCell22 (x : Cell22) : List Value := [.int .u32 x.addr, .int .u64 x.x.wr, .int .i64 x.x.ws.f, .int .i64 x.x.ws.pc, .int .u64 x.x.rd, .int .i64 x.x.rs.f, .int .i64 x.x.rs.pc, .int .i64 x.x.vec]
theorem elt_Half : Elt Try.prog 91 3 enHalf := ⟨⟨Value.agg #[Value.int .u64 0, Value.int .i64 0, Value.int .i64 0], 24, by kernel_rfl, rfl, by decide⟩, by decide, fun _ => rfl, fun x u hu => List.all_eq_true.1 (show (enHalf x).all (·.oneCell') = true from rfl) u hu⟩
set_option maxRecDepth 100000 in
theorem eqIn_Site (d : Nat) (a b : Site) (w : World) : (Op.equalIn (d + 2) 29 a.v b.v).run Try.prog w = .ok (decide (a = b)) w := by
  have h := eq_struct (P := Try.prog) (d := d + 1) (t := 29) (u := a.v) (v := b.v) rfl rfl (by kernel_rfl) (by kernel_rfl) (eqF_cons { name := "Func", type := 3, offset := 0, embedded := false, tag := "", pkgPath := "", byteOffset := 0 } (fs := [{ name := "Pc", type := 3, offset := 1, embedded := false, tag := "", pkgPath := "", byteOffset := 8 }]) (u := Value.int .i64 a.f) (v := Value.int .i64 b.f) (r := (a.f == b.f)) (by kernel_rfl) (by decide) (fun _ => by kernel_rfl) (fun _ => by kernel_rfl) (fun _ => by kernel_rfl) (eqF_cons { name := "Pc", type := 3, offset := 1, embedded := false, tag := "", pkgPath := "", byteOffset := 8 } (fs := []) (u := Value.int .i64 a.pc) (v := Value.int .i64 b.pc) (r := (a.pc == b.pc)) (by kernel_rfl) (by decide) (fun _ => by kernel_rfl) (fun _ => by kernel_rfl) (fun _ => by kernel_rfl) (eqF_nil (by kernel_rfl)))) w
  rw [h]; congr 1
  obtain ⟨x0, x1⟩ := a; obtain ⟨y0, y1⟩ := b; rw [Bool.eq_iff_iff]; simp
theorem eq_Site (w : World) (a b : Site) : (Op.equal 29 a.v b.v).run Try.prog w = .ok (decide (a = b)) w := eqIn_Site 9998 a b w
theorem Site.eqi (a b : Site) : a = b ↔ a.f = b.f ∧ a.pc = b.pc := by
  obtain ⟨x0, x1⟩ := a; obtain ⟨y0, y1⟩ := b; simp
set_option maxRecDepth 100000 in
theorem eqIn_Half (d : Nat) (a b : Half) (w : World) : (Op.equalIn (d + 3) 91 a.v b.v).run Try.prog w = .ok (decide (a = b)) w := by
  have h := eq_struct (P := Try.prog) (d := d + 2) (t := 91) (u := a.v) (v := b.v) rfl rfl (by kernel_rfl) (by kernel_rfl) (eqF_cons { name := "epoch", type := 27, offset := 0, embedded := false, tag := "", pkgPath := "linesman/shadow", byteOffset := 0 } (fs := [{ name := "site", type := 29, offset := 1, embedded := false, tag := "", pkgPath := "linesman/shadow", byteOffset := 8 }]) (u := Value.int .u64 a.ep) (v := Value.int .u64 b.ep) (r := (a.ep == b.ep)) (by kernel_rfl) (by decide) (fun _ => by kernel_rfl) (fun _ => by kernel_rfl) (fun _ => by kernel_rfl) (eqF_cons { name := "site", type := 29, offset := 1, embedded := false, tag := "", pkgPath := "linesman/shadow", byteOffset := 8 } (fs := []) (u := a.at_.v) (v := b.at_.v) (r := decide (a.at_ = b.at_)) (by kernel_rfl) (by decide) (fun _ => by kernel_rfl) (fun _ => by kernel_rfl) (eqIn_Site (d + 0) a.at_ b.at_) (eqF_nil (by kernel_rfl)))) w
  rw [h]; congr 1
  obtain ⟨x0, x1⟩ := a; obtain ⟨y0, y1⟩ := b; rw [Bool.eq_iff_iff]; simp
theorem eq_Half (w : World) (a b : Half) : (Op.equal 91 a.v b.v).run Try.prog w = .ok (decide (a = b)) w := eqIn_Half 9997 a b w
theorem Half.eqi (a b : Half) : a = b ↔ a.ep = b.ep ∧ a.at_.f = b.at_.f ∧ a.at_.pc = b.at_.pc := by
  obtain ⟨x0, x1⟩ := a; obtain ⟨y0, y1⟩ := b; first | (simp [Site.eqi]; done) | (simp [Site.eqi, and_assoc]; done)
set_option maxRecDepth 100000 in
theorem eqIn_Shade (d : Nat) (a b : Shade) (w : World) : (Op.equalIn (d + 3) 31 a.v b.v).run Try.prog w = .ok (decide (a = b)) w := by
  have h := eq_struct (P := Try.prog) (d := d + 2) (t := 31) (u := a.v) (v := b.v) rfl rfl (by kernel_rfl) (by kernel_rfl) (eqF_cons { name := "Write", type := 27, offset := 0, embedded := false, tag := "", pkgPath := "", byteOffset := 0 } (fs := [{ name := "WriteSite", type := 29, offset := 1, embedded := false, tag := "", pkgPath := "", byteOffset := 8 }, { name := "Read", type := 27, offset := 3, embedded := false, tag := "", pkgPath := "", byteOffset := 24 }, { name := "ReadSite", type := 29, offset := 4, embedded := false, tag := "", pkgPath := "", byteOffset := 32 }, { name := "Vector", type := 3, offset := 6, embedded := false, tag := "", pkgPath := "", byteOffset := 48 }]) (u := Value.int .u64 a.wr) (v := Value.int .u64 b.wr) (r := (a.wr == b.wr)) (by kernel_rfl) (by decide) (fun _ => by kernel_rfl) (fun _ => by kernel_rfl) (fun _ => by kernel_rfl) (eqF_cons { name := "WriteSite", type := 29, offset := 1, embedded := false, tag := "", pkgPath := "", byteOffset := 8 } (fs := [{ name := "Read", type := 27, offset := 3, embedded := false, tag := "", pkgPath := "", byteOffset := 24 }, { name := "ReadSite", type := 29, offset := 4, embedded := false, tag := "", pkgPath := "", byteOffset := 32 }, { name := "Vector", type := 3, offset := 6, embedded := false, tag := "", pkgPath := "", byteOffset := 48 }]) (u := a.ws.v) (v := b.ws.v) (r := decide (a.ws = b.ws)) (by kernel_rfl) (by decide) (fun _ => by kernel_rfl) (fun _ => by kernel_rfl) (eqIn_Site (d + 0) a.ws b.ws) (eqF_cons { name := "Read", type := 27, offset := 3, embedded := false, tag := "", pkgPath := "", byteOffset := 24 } (fs := [{ name := "ReadSite", type := 29, offset := 4, embedded := false, tag := "", pkgPath := "", byteOffset := 32 }, { name := "Vector", type := 3, offset := 6, embedded := false, tag := "", pkgPath := "", byteOffset := 48 }]) (u := Value.int .u64 a.rd) (v := Value.int .u64 b.rd) (r := (a.rd == b.rd)) (by kernel_rfl) (by decide) (fun _ => by kernel_rfl) (fun _ => by kernel_rfl) (fun _ => by kernel_rfl) (eqF_cons { name := "ReadSite", type := 29, offset := 4, embedded := false, tag := "", pkgPath := "", byteOffset := 32 } (fs := [{ name := "Vector", type := 3, offset := 6, embedded := false, tag := "", pkgPath := "", byteOffset := 48 }]) (u := a.rs.v) (v := b.rs.v) (r := decide (a.rs = b.rs)) (by kernel_rfl) (by decide) (fun _ => by kernel_rfl) (fun _ => by kernel_rfl) (eqIn_Site (d + 0) a.rs b.rs) (eqF_cons { name := "Vector", type := 3, offset := 6, embedded := false, tag := "", pkgPath := "", byteOffset := 48 } (fs := []) (u := Value.int .i64 a.vec) (v := Value.int .i64 b.vec) (r := (a.vec == b.vec)) (by kernel_rfl) (by decide) (fun _ => by kernel_rfl) (fun _ => by kernel_rfl) (fun _ => by kernel_rfl) (eqF_nil (by kernel_rfl))))))) w
  rw [h]; congr 1
  obtain ⟨x0, x1, x2, x3, x4⟩ := a; obtain ⟨y0, y1, y2, y3, y4⟩ := b; rw [Bool.eq_iff_iff]; simp
theorem eq_Shade (w : World) (a b : Shade) : (Op.equal 31 a.v b.v).run Try.prog w = .ok (decide (a = b)) w := eqIn_Shade 9997 a b w
theorem Shade.eqi (a b : Shade) : a = b ↔ a.wr = b.wr ∧ a.ws.f = b.ws.f ∧ a.ws.pc = b.ws.pc ∧ a.rd = b.rd ∧ a.rs.f = b.rs.f ∧ a.rs.pc = b.rs.pc ∧ a.vec = b.vec := by
  obtain ⟨x0, x1, x2, x3, x4⟩ := a; obtain ⟨y0, y1, y2, y3, y4⟩ := b; first | (simp [Site.eqi]; done) | (simp [Site.eqi, and_assoc]; done)
theorem mask48 {a : Int} (h0 : 0 ≤ a) (h1 : a ≤ 18446744073709551615) : bits .and .u64 a 281474976710655 = a % 281474976710656 := by
  obtain ⟨n, rfl⟩ : ∃ n : Nat, a = (n : Int) := ⟨a.toNat, by omega⟩
  have h := (and_le (X := n) (Y := 281474976710655) (by omega) (by omega)).1
  rw [show ((281474976710655 : Nat) : Int) = (281474976710655 : Int) from rfl] at h
  rw [h, show (281474976710655 : Nat) = 2 ^ 48 - 1 from by decide, Nat.and_two_pow_sub_one_eq_mod]
  omega
/-- An epoch and a site may be; a shade may be. -/
def shOk (e : Int) (s : Site) : Bool := if e % 281474976710656 = 0 then decide (e = 0) && decide (s = ⟨0, 0⟩) else s.ok
def Half.ok (h : Half) : Bool := shOk h.ep h.at_
def Shade.ok (x : Shade) : Bool := shOk x.wr x.ws && shOk x.rd x.rs && decide (0 ≤ x.vec) && (decide (x.vec = 0) || decide (x.rd = 0))
theorem half_a {y : Half} (h : y = (⟨0, ⟨0, 0⟩⟩ : Half)) : y.ok = true := by subst h; decide
theorem half_b {y : Half} (h : ¬ y.ep % 281474976710656 = 0) (h2 : argErr (Site.ok y.at_) = 0) : y.ok = true := by
  unfold Half.ok shOk; rw [if_neg h]
  cases e : Site.ok y.at_
  · rw [e] at h2; cases h2
  · rfl
theorem half_c {y : Half} (h : y.ep % 281474976710656 = 0) (h2 : ¬ y = (⟨0, ⟨0, 0⟩⟩ : Half)) : y.ok = false := by
  unfold Half.ok shOk; rw [if_pos h]
  rw [Bool.and_eq_false_iff, decide_eq_false_iff_not, decide_eq_false_iff_not]
  by_cases e : y.ep = 0
  · exact .inr fun q => h2 (by obtain ⟨a, b⟩ := y; simp only at e q; subst e q; rfl)
  · exact .inl e
theorem half_d {y : Half} (h : ¬ y.ep % 281474976710656 = 0) (h2 : argErr (Site.ok y.at_) ≠ 0) : y.ok = false := by
  unfold Half.ok shOk; rw [if_neg h]
  cases e : Site.ok y.at_
  · rfl
  · rw [e] at h2; exact absurd rfl h2
theorem check_t {x : Shade} (h : ([⟨x.wr, x.ws⟩, ⟨x.rd, x.rs⟩] : List Half).all Half.ok = true) (hv : ¬ x.vec < 0) (hr : ¬ x.vec > 0 ∨ ¬ x.rd ≠ 0) : argErr (Shade.ok x) = 0 := by
  simp only [List.all_cons, List.all_nil, Bool.and_true, Bool.and_eq_true] at h
  have e : Shade.ok x = true := by
    unfold Shade.ok
    have h1 : shOk x.wr x.ws = true := h.1
    have h2 : shOk x.rd x.rs = true := h.2
    rw [h1, h2]; simp; omega
  rw [e]; rfl
theorem check_f {x : Shade} (h : ([⟨x.wr, x.ws⟩, ⟨x.rd, x.rs⟩] : List Half).all Half.ok = false ∨ x.vec < 0 ∨ (x.vec > 0 ∧ x.rd ≠ 0)) : argErr (Shade.ok x) = 2 := by
  have e : Shade.ok x = false := by
    unfold Shade.ok
    rcases h with h | h | h
    · simp only [List.all_cons, List.all_nil, Bool.and_true, Bool.and_eq_false_iff] at h
      rcases h with h | h
      · rw [show shOk x.wr x.ws = false from h]; simp
      · rw [show shOk x.rd x.rs = false from h]; simp
    · simp; intros; omega
    · simp; intros; omega
  rw [e]; rfl
set_option maxRecDepth 100000 in
theorem e_parts (u : Ep) (w : World) (he : 0 ≤ u.ep ∧ u.ep ≤ 18446744073709551615) : Calls Try.prog 53 #[u.v] w (fun e w' => e = .returned (Value.agg #[Value.int .u64 ((u.ep : Int) / 281474976710656), Value.int .u64 ((u.ep : Int) % 281474976710656)]) ∧ Fr No w w') := by
 have _hu := he; clear _hu
 refine enter_E 10 Try.func53 rfl rfl (by kernel_rfl) (L := [(0, u.v)]) (by kernel_rfl) ?_
 intro ac hA
 have hW := Ws.start w No
 refine wp_seq ?_
 refine wp_region_lit ?_
 refine st_s hA (Runs.cells (fun b => Value.pointer (some ⟨b, 0, none⟩)) #[Value.int .u64 u.ep] 110 (fun _ => by kernel_rfl) hW ?_); clear hA ac hW; intro b1 w2 hW hb1 hfw2 ac hA
 refine st_s hA (Runs.cells (fun b => Value.pointer (some ⟨b, 0, none⟩)) #[Value.int .u64 0, Value.int .u64 0] 108 (fun _ => by kernel_rfl) hW ?_); clear hA ac hW; intro b3 w4 hW hb3 hfw4 ac hA
 refine wpList_nil ?_
 refine thenN ?_
 refine wp_seq ?_
 refine wp_region_lit ?_
 refine st_p (Value.pointer (some ⟨b1, 0, none⟩)) hA ?_; clear hA ac; intro ac hA
 refine st_q (Value.int .u64 u.ep) hA hW.cls (Rd.load (b := b1) (i := 0) (by kernel_rfl) (fun _ hw => (hw.1).cel 1 rfl) (by kernel_rfl)) ?_; clear hA ac; intro ac hA
 refine st_q (Value.int .u64 ((u.ep : Int) / 281474976710656)) hA hW.cls (Rd.pureE (v0 := Value.int .u64 (Int.fdiv (u.ep : Int) (2 ^ 48))) (fun _ => by kernel_rfl) (congrArg (Value.int .u64) (by rw [Int.fdiv_eq_ediv_of_nonneg _ (by decide)]; rfl))) ?_; clear hA ac; intro ac hA
 refine st_p (Value.pointer (some ⟨b1, 0, none⟩)) hA ?_; clear hA ac; intro ac hA
 refine st_q (Value.int .u64 u.ep) hA hW.cls (Rd.load (b := b1) (i := 0) (by kernel_rfl) (fun _ hw => (hw.1).cel 1 rfl) (by kernel_rfl)) ?_; clear hA ac; intro ac hA
 refine st_p (Value.int .u64 (bits .and .u64 (u.ep : Int) (281474976710655 : Int))) hA ?_; clear hA ac; intro ac hA
 refine st_p (Value.agg #[Value.int .u64 ((u.ep : Int) / 281474976710656), Value.int .u64 (bits .and .u64 (u.ep : Int) (281474976710655 : Int))]) hA ?_; clear hA ac; intro ac hA
 refine st_s hA (Runs.store (v := Value.agg #[Value.int .u64 ((u.ep : Int) / 281474976710656), Value.int .u64 (bits .and .u64 (u.ep : Int) (281474976710655 : Int))]) (b := b3) (j := 0) (n := 2) (cs' := #[Value.int .u64 ((u.ep : Int) / 281474976710656), Value.int .u64 (bits .and .u64 (u.ep : Int) (281474976710655 : Int))]) (H' := [Cel b3 #[Value.int .u64 ((u.ep : Int) / 281474976710656), Value.int .u64 (bits .and .u64 (u.ep : Int) (281474976710655 : Int))] 108, Cel b1 #[Value.int .u64 u.ep] 110]) (by kernel_rfl) (by kernel_rfl) (by kernel_rfl) (by kernel_rfl) (by kernel_rfl) hW 0 (by rfl) (Nat.le_of_ble_eq_true (by kernel_rfl)) (by kernel_rfl) (by rfl) ?_); clear hA ac hW; intro w5 hW ac hA
 refine wpList_nil ?_
 refine thenN ?_
 refine wp_ret ?_
 refine ret1 (v := Value.agg #[Value.int .u64 ((u.ep : Int) / 281474976710656), Value.int .u64 (bits .and .u64 (u.ep : Int) (281474976710655 : Int))]) (by rfl) hA (Got.cell (b := b3) (i := 0) hA (by kernel_rfl) (by kernel_rfl) (hW.cel 0 rfl) (by kernel_rfl)) ?_
 clear hA
 exact ⟨retv (by rw [mask48 he.1 he.2]), hW.fr⟩

set_option maxRecDepth 100000 in
theorem e_enone (ep : Int) (w : World) (he : 0 ≤ ep ∧ ep ≤ 18446744073709551615) : Calls Try.prog 48 #[Value.int .u64 ep] w (fun e w' => e = .returned (Value.bool (decide ((ep : Int) % 281474976710656 = 0))) ∧ Fr No w w') := by
 have _hu := he; clear _hu
 refine enter_E 8 Try.func48 rfl rfl (by kernel_rfl) (L := [(0, Value.int .u64 ep)]) (by kernel_rfl) ?_
 intro ac hA
 have hW := Ws.start w No
 refine wp_seq ?_
 refine wp_region_lit ?_
 refine st_p (Value.bool false) hA ?_; clear hA ac; intro ac hA
 refine wpList_nil ?_
 refine thenN ?_
 refine wp_seq ?_
 refine wp_region_lit ?_
 refine st_p (Value.int .u64 ep) hA ?_; clear hA ac; intro ac hA
 refine st_p (Value.agg #[Value.int .u64 ep]) hA ?_; clear hA ac; intro ac hA
 refine st_s hA (Runs.callN (v := Value.agg #[Value.int .u64 (((⟨ep⟩ : Ep).ep : Int) / 281474976710656), Value.int .u64 (((⟨ep⟩ : Ep).ep : Int) % 281474976710656)]) (fun _ => by kernel_rfl) hW (e_parts (⟨ep⟩ : Ep) w (by first | omega | assumption | exact he)) ?_); clear hA ac hW; intro w1 hW hfw1 ac hA
 refine st_p (Value.int .u64 (((⟨ep⟩ : Ep).ep : Int) % 281474976710656)) hA ?_; clear hA ac; intro ac hA
 refine st_p (Value.bool ((((⟨ep⟩ : Ep).ep : Int) % 281474976710656 : Int) == (0 : Int))) hA ?_; clear hA ac; intro ac hA
 refine st_p (Value.bool ((((⟨ep⟩ : Ep).ep : Int) % 281474976710656 : Int) == (0 : Int))) hA ?_; clear hA ac; intro ac hA
 refine wpList_nil ?_
 refine thenN ?_
 refine wp_ret ?_
 refine ret1 (v := Value.bool ((((⟨ep⟩ : Ep).ep : Int) % 281474976710656 : Int) == (0 : Int))) (by rfl) hA (Got.tmp hA (by kernel_rfl) (by kernel_rfl)) ?_
 clear hA
 exact ⟨retv (by first | rfl | (exact congrArg Value.bool (by rw [Bool.eq_iff_iff]; simp))), hW.fr⟩

set_option maxRecDepth 100000 in
theorem e_fine (A_l : Option Addr) (c_l : Nat) (l : List Half) (w : World) (hr_l : RowAt w A_l 3 enHalf l) (hc_l : l.length ≤ c_l) (hl : l.length ≤ 1000) (hep : ∀ x ∈ l, 0 ≤ x.ep ∧ x.ep ≤ 18446744073709551615) : Calls Try.prog 41 #[Value.slice A_l l.length c_l] w (fun e w' => e = .returned (Value.bool (l.all Half.ok)) ∧ Fr No w w') := by
 have _hu := hc_l; have _hv := hr_l; clear _hu _hv
 have _hu := hl; clear _hu
 have _hu := hep; clear _hu
 refine enter_E 32 Try.func41 rfl rfl (by kernel_rfl) (L := [(0, Value.slice A_l l.length c_l)]) (by kernel_rfl) ?_
 intro ac hA
 have hW := Ws.start w No
 have hW := hW.arg hr_l
 refine wp_seq ?_
 refine wp_region_lit ?_
 refine st_p (Value.bool false) hA ?_; clear hA ac; intro ac hA
 refine wpList_nil ?_
 refine thenN ?_
 refine wp_seq ?_
 refine wp_seq ?_
 refine wp_region_lit ?_
 refine st_p (Value.slice A_l l.length c_l) hA ?_; clear hA ac; intro ac hA
 refine st_p (Value.int .i64 ((l.length : Nat) : Int)) hA ?_; clear hA ac; intro ac hA
 refine st_p (Value.int .i64 0) hA ?_; clear hA ac; intro ac hA
 refine wpList_nil ?_
 refine thenN ?_
 refine wp_block ?_
 refine wp_loop_m (fun m_ ac_ wl_ => ∃ k : Nat, m_ = l.length - k ∧ (k ≤ l.length) ∧ (∀ x ∈ l.take k, x.ok = true) ∧ Fm 32 [] [(5, Value.slice A_l l.length c_l), (6, Value.int .i64 ((l.length : Nat) : Int)), (7, Value.int .i64 ((k : Nat) : Int))] ac_ ∧ Ws w No [] [roR A_l 3 enHalf l] wl_) _ ⟨0, rfl, by omega, by intro x hx; simp at hx, hA.sub ⟨⟨by kernel_rfl, by kernel_rfl⟩, ⟨by kernel_rfl, by kernel_rfl⟩, ⟨by kernel_rfl, by kernel_rfl⟩, trivial⟩, (hW.pick [] (by decide) rfl).pickG [0] rfl⟩ ?_
 clear hA ac hW; rintro m_ ac w1 ⟨k, rfl, hk, hk2, hA, hW⟩
 refine wp_seq ?_
 refine wp_region_lit ?_
 refine st_p (Value.bool (decide ((((k : Nat) : Int) : Int) < (((l.length : Nat) : Int) : Int)))) hA ?_; clear hA ac; intro ac hA
 refine wpList_nil ?_
 refine thenN ?_
 refine wp_seq ?_
 refine wp_cond_split (t := decide ((((k : Nat) : Int) : Int) < (((l.length : Nat) : Int) : Int))) (hA.eval (by kernel_rfl)) (fun h2 => ?_) (fun h2 => ?_)
 · skip
   have h2 := of_decide_eq_true h2
   first
   | (exfalso; clear hA hW; omega)
   | (
     refine wp_skip ?_
     refine thenN ?_
     refine wp_seq ?_
     refine wp_block ?_
     refine wp_seq ?_
     refine wp_region_lit ?_
     obtain ⟨y3, hy3⟩ : ∃ y, l[k]? = some y := ⟨_, List.getElem?_eq_getElem (by first | omega | (simp; done) | (simp; omega))⟩
     obtain ⟨b4, o5, rfl, hbb4⟩ := row_some ((hW).getG 0 rfl) hy3
     refine st_q (Value.pointer (some ⟨b4, o5 + k * 3, none⟩)) hA hW.cls (Rd.indexAddr (e := 91) (sz := 3) (b := b4) (off := o5) (n := l.length) (c := c_l) (k := k) (by kernel_rfl) (by kernel_rfl) (by first | omega | (simp; done) | (simp; omega)) (fun _ => by kernel_rfl) (fun _ => by kernel_rfl)) ?_; clear hA ac; intro ac hA
     refine st_q (Value.agg #[Value.int .u64 y3.ep, Value.int .i64 y3.at_.f, Value.int .i64 y3.at_.pc]) hA hW.cls (Rd.loadRow (b := b4) (i := o5 + k * 3) (xs := [Value.int .u64 y3.ep, Value.int .i64 y3.at_.f, Value.int .i64 y3.at_.pc]) (by kernel_rfl) (fun _ hw => row_ld ((hw.1).getG 0 rfl) hy3 (Fr.refl No _) (fun h => h) 0 3 (by kernel_rfl)) (by kernel_rfl)) ?_; clear hA ac; intro ac hA
     refine st_s hA (Runs.cells (fun b => Value.pointer (some ⟨b, 0, none⟩)) #[Value.int .u64 0, Value.int .i64 0, Value.int .i64 0] 91 (fun _ => by kernel_rfl) hW ?_); clear hA ac hW; intro b6 w7 hW hb6 hfw7 ac hA
     refine st_s hA (Runs.store (v := Value.agg #[Value.int .u64 y3.ep, Value.int .i64 y3.at_.f, Value.int .i64 y3.at_.pc]) (b := b6) (j := 0) (n := 3) (cs' := #[Value.int .u64 y3.ep, Value.int .i64 y3.at_.f, Value.int .i64 y3.at_.pc]) (H' := [Cel b6 #[Value.int .u64 y3.ep, Value.int .i64 y3.at_.f, Value.int .i64 y3.at_.pc] 91]) (by kernel_rfl) (by kernel_rfl) (by kernel_rfl) (by kernel_rfl) (by kernel_rfl) hW 0 (by rfl) (Nat.le_of_ble_eq_true (by kernel_rfl)) (by kernel_rfl) (by rfl) ?_); clear hA ac hW; intro w8 hW ac hA
     refine wpList_nil ?_
     refine thenN ?_
     refine wp_seq ?_
     refine wp_region_lit ?_
     refine st_p (Value.pointer (some ⟨b6, 0, none⟩)) hA ?_; clear hA ac; intro ac hA
     refine st_q (Value.int .u64 y3.ep) hA hW.cls (Rd.load (b := b6) (i := 0) (by kernel_rfl) (fun _ hw => (hw.1).cel 0 rfl) (by kernel_rfl)) ?_; clear hA ac; intro ac hA
     refine st_s hA (Runs.callN (v := Value.bool (decide (((y3.ep) : Int) % 281474976710656 = 0))) (fun _ => by kernel_rfl) hW (e_enone (y3.ep) w8 (by first | omega | assumption | exact hep _ (List.mem_of_getElem? (by assumption)))) ?_); clear hA ac hW; intro w9 hW hfw9 ac hA
     refine st_p (Value.bool (decide (((y3.ep) : Int) % 281474976710656 = 0))) hA ?_; clear hA ac; intro ac hA
     rcases Bool.eq_false_or_eq_true (decide (((y3.ep) : Int) % 281474976710656 = 0)) with h10 | h10
     · skip
       rw [h10] at hA
       have h10 := of_decide_eq_true h10
       first
       | (exfalso; clear hA hW; omega)
       | (
         refine st_q (Value.agg #[Value.int .u64 y3.ep, Value.int .i64 y3.at_.f, Value.int .i64 y3.at_.pc]) hA hW.cls (Rd.load (b := b6) (i := 0) (by kernel_rfl) (fun _ hw => (hw.1).cel 0 rfl) (by kernel_rfl)) ?_; clear hA ac; intro ac hA
         refine st_p (Value.agg #[Value.int .u64 0, Value.int .i64 0, Value.int .i64 0]) hA ?_; clear hA ac; intro ac hA
         refine st_q (Value.bool (!decide (y3 = (⟨0, (⟨0, 0⟩ : Site)⟩ : Half)))) hA hW.cls (Rd.neS (u := y3.v) (v := (⟨0, (⟨0, 0⟩ : Site)⟩ : Half).v) (by kernel_rfl) (by kernel_rfl) rfl rfl (by kernel_rfl) (fun w => eq_Half w y3 (⟨0, (⟨0, 0⟩ : Site)⟩ : Half))) ?_; clear hA ac; intro ac hA
         refine st_p (Value.bool (!decide (y3 = (⟨0, (⟨0, 0⟩ : Site)⟩ : Half)))) hA ?_; clear hA ac; intro ac hA
         refine st_p (Value.bool (!decide (y3 = (⟨0, (⟨0, 0⟩ : Site)⟩ : Half)))) hA ?_; clear hA ac; intro ac hA
         rcases Bool.eq_false_or_eq_true (!decide (y3 = (⟨0, (⟨0, 0⟩ : Site)⟩ : Half))) with h11 | h11
         · skip
           rw [h11] at hA
           have h11 := not_t h11
           have h11 := of_decide_eq_false h11
           have h11e := fun e => h11 ((Half.eqi _ _).2 e)
           first
           | (exfalso; clear hA hW; omega)
           | (
             refine st_k hA ?_; clear hA ac; intro ac hA
             refine st_k hA ?_; clear hA ac; intro ac hA
             refine st_k hA ?_; clear hA ac; intro ac hA
             refine st_k hA ?_; clear hA ac; intro ac hA
             refine st_k hA ?_; clear hA ac; intro ac hA
             refine st_k hA ?_; clear hA ac; intro ac hA
             refine st_k hA ?_; clear hA ac; intro ac hA
             refine st_k hA ?_; clear hA ac; intro ac hA
             refine st_k hA ?_; clear hA ac; intro ac hA
             refine st_k hA ?_; clear hA ac; intro ac hA
             refine st_p (Value.bool true) hA ?_; clear hA ac; intro ac hA
             refine wpList_nil ?_
             refine thenN ?_
             refine wp_cond_true (hA.eval (by kernel_rfl)) ?_
             refine wp_seq ?_
             refine wp_region_lit ?_
             refine st_p (Value.bool false) hA ?_; clear hA ac; intro ac hA
             refine wpList_nil ?_
             refine thenN ?_
             refine wp_ret ?_
             refine blkR ?_
             refine thenR ?_
             refine thenR ?_
             refine blkR ?_
             refine thenR ?_
             refine ret1 (v := Value.bool false) (by rfl) hA (Got.tmp hA (by kernel_rfl) (by kernel_rfl)) ?_
             clear hA
             exact ⟨retv (congrArg Value.bool (List.all_eq_false.2 ⟨_, List.mem_of_getElem? hy3, by rw [half_c h10 (by first | exact h11 | simpa using h11)]; simp⟩).symm), hW.fr⟩)
         · skip
           rw [h11] at hA
           have h11 := not_f h11
           have h11 := of_decide_eq_true h11
           have h11e := (Half.eqi _ _).1 h11
           first
           | (exfalso; clear hA hW; omega)
           | (
             refine st_p (Value.pointer (some ⟨b6, 0, none⟩)) hA ?_; clear hA ac; intro ac hA
             refine st_q (Value.int .u64 y3.ep) hA hW.cls (Rd.load (b := b6) (i := 0) (by kernel_rfl) (fun _ hw => (hw.1).cel 0 rfl) (by kernel_rfl)) ?_; clear hA ac; intro ac hA
             refine st_s hA (Runs.callN (v := Value.bool (decide (((y3.ep) : Int) % 281474976710656 = 0))) (fun _ => by kernel_rfl) hW (e_enone (y3.ep) w9 (by first | omega | assumption | exact hep _ (List.mem_of_getElem? (by assumption)))) ?_); clear hA ac hW; intro w12 hW hfw12 ac hA
             refine st_p (Value.bool (!(decide (((y3.ep) : Int) % 281474976710656 = 0)))) hA ?_; clear hA ac; intro ac hA
             refine st_p (Value.bool (!(decide (((y3.ep) : Int) % 281474976710656 = 0)))) hA ?_; clear hA ac; intro ac hA
             rcases Bool.eq_false_or_eq_true (!(decide (((y3.ep) : Int) % 281474976710656 = 0))) with h13 | h13
             · skip
               rw [h13] at hA
               have h13 := not_t h13
               have h13 := of_decide_eq_false h13
               first
               | (exfalso; clear hA hW; omega)
               | (
                 refine st_p (Value.pointer (some ⟨b6, 1, none⟩)) hA ?_; clear hA ac; intro ac hA
                 refine st_q (Value.agg #[Value.int .i64 y3.at_.f, Value.int .i64 y3.at_.pc]) hA hW.cls (Rd.load (b := b6) (i := 1) (by kernel_rfl) (fun _ hw => (hw.1).cel 0 rfl) (by kernel_rfl)) ?_; clear hA ac; intro ac hA
                 refine st_s hA (Runs.callN (v := Value.int .i64 (argErr (Site.ok y3.at_))) (fun _ => by kernel_rfl) hW (check_any y3.at_ w12) ?_); clear hA ac hW; intro w14 hW hfw14 ac hA
                 refine st_p (Value.bool ((argErr (Site.ok y3.at_) : Int) != (0 : Int))) hA ?_; clear hA ac; intro ac hA
                 refine st_p (Value.bool ((argErr (Site.ok y3.at_) : Int) != (0 : Int))) hA ?_; clear hA ac; intro ac hA
                 refine st_p (Value.bool ((argErr (Site.ok y3.at_) : Int) != (0 : Int))) hA ?_; clear hA ac; intro ac hA
                 refine wpList_nil ?_
                 refine thenN ?_
                 refine wp_cond_split (t := (argErr (Site.ok y3.at_) : Int) != (0 : Int)) (hA.eval (by kernel_rfl)) (fun h15 => ?_) (fun h15 => ?_)
                 · skip
                   have h15 := bne_iff_ne.1 h15
                   first
                   | (exfalso; clear hA hW; omega)
                   | (
                     refine wp_seq ?_
                     refine wp_region_lit ?_
                     refine st_p (Value.bool false) hA ?_; clear hA ac; intro ac hA
                     refine wpList_nil ?_
                     refine thenN ?_
                     refine wp_ret ?_
                     refine blkR ?_
                     refine thenR ?_
                     refine thenR ?_
                     refine blkR ?_
                     refine thenR ?_
                     refine ret1 (v := Value.bool false) (by rfl) hA (Got.tmp hA (by kernel_rfl) (by kernel_rfl)) ?_
                     clear hA
                     exact ⟨retv (congrArg Value.bool (List.all_eq_false.2 ⟨_, List.mem_of_getElem? hy3, by rw [half_d h13 (by first | exact h15 | omega)]; simp⟩).symm), hW.fr⟩)
                 · skip
                   have h15 := of_bne_f h15
                   first
                   | (exfalso; clear hA hW; omega)
                   | (
                     refine wp_skip ?_
                     refine blkN ?_
                     refine thenN ?_
                     refine wp_region_lit ?_
                     refine st_q (Value.int .i64 ((k + 1 : Nat) : Int)) hA hW.cls (Rd.pureE (v0 := Value.int .i64 (IntKind.i64.wrap ((((k : Nat) : Int) : Int) + 1))) (fun _ => by kernel_rfl) (congrArg (Value.int .i64) ((w_i64 (x := (((k : Nat) : Int) : Int) + 1) (by omega) (by omega)).trans (by omega)))) ?_; clear hA ac; intro ac hA
                     refine st_p (Value.int .i64 ((k + 1 : Nat) : Int)) hA ?_; clear hA ac; intro ac hA
                     refine wpList_nil ?_
                     refine thenN ?_
                     exact ⟨l.length - (k + 1), by omega, k + 1, rfl, by omega, by intro x hx; rw [tk_snoc hy3] at hx; rcases List.mem_append.1 hx with hx | hx; exact hk2 x hx; (simp only [List.mem_singleton] at hx; subst hx; exact half_b h13 (by first | exact h15 | omega)), hA.sub ⟨⟨by kernel_rfl, by kernel_rfl⟩, ⟨by kernel_rfl, by kernel_rfl⟩, ⟨by kernel_rfl, by kernel_rfl⟩, trivial⟩, (hW.pick [] (by decide) rfl).pickG [0] rfl⟩))
             · skip
               rw [h13] at hA
               have h13 := not_f h13
               have h13 := of_decide_eq_true h13
               first
               | (exfalso; clear hA hW; omega)
               | (
                 refine st_k hA ?_; clear hA ac; intro ac hA
                 refine st_k hA ?_; clear hA ac; intro ac hA
                 refine st_k hA ?_; clear hA ac; intro ac hA
                 refine st_k hA ?_; clear hA ac; intro ac hA
                 refine st_p (Value.bool false) hA ?_; clear hA ac; intro ac hA
                 refine st_p (Value.bool false) hA ?_; clear hA ac; intro ac hA
                 refine wpList_nil ?_
                 refine thenN ?_
                 refine wp_cond_false (hA.eval (by kernel_rfl)) ?_
                 refine wp_skip ?_
                 refine blkN ?_
                 refine thenN ?_
                 refine wp_region_lit ?_
                 refine st_q (Value.int .i64 ((k + 1 : Nat) : Int)) hA hW.cls (Rd.pureE (v0 := Value.int .i64 (IntKind.i64.wrap ((((k : Nat) : Int) : Int) + 1))) (fun _ => by kernel_rfl) (congrArg (Value.int .i64) ((w_i64 (x := (((k : Nat) : Int) : Int) + 1) (by omega) (by omega)).trans (by omega)))) ?_; clear hA ac; intro ac hA
                 refine st_p (Value.int .i64 ((k + 1 : Nat) : Int)) hA ?_; clear hA ac; intro ac hA
                 refine wpList_nil ?_
                 refine thenN ?_
                 exact ⟨l.length - (k + 1), by omega, k + 1, rfl, by omega, by intro x hx; rw [tk_snoc hy3] at hx; rcases List.mem_append.1 hx with hx | hx; exact hk2 x hx; (simp only [List.mem_singleton] at hx; subst hx; exact half_a (by first | exact h11 | simpa using h11)), hA.sub ⟨⟨by kernel_rfl, by kernel_rfl⟩, ⟨by kernel_rfl, by kernel_rfl⟩, ⟨by kernel_rfl, by kernel_rfl⟩, trivial⟩, (hW.pick [] (by decide) rfl).pickG [0] rfl⟩)))
     · skip
       rw [h10] at hA
       have h10 := of_decide_eq_false h10
       first
       | (exfalso; clear hA hW; omega)
       | (
         refine st_k hA ?_; clear hA ac; intro ac hA
         refine st_k hA ?_; clear hA ac; intro ac hA
         refine st_k hA ?_; clear hA ac; intro ac hA
         refine st_p (Value.bool false) hA ?_; clear hA ac; intro ac hA
         refine st_p (Value.bool false) hA ?_; clear hA ac; intro ac hA
         refine st_p (Value.pointer (some ⟨b6, 0, none⟩)) hA ?_; clear hA ac; intro ac hA
         refine st_q (Value.int .u64 y3.ep) hA hW.cls (Rd.load (b := b6) (i := 0) (by kernel_rfl) (fun _ hw => (hw.1).cel 0 rfl) (by kernel_rfl)) ?_; clear hA ac; intro ac hA
         refine st_s hA (Runs.callN (v := Value.bool (decide (((y3.ep) : Int) % 281474976710656 = 0))) (fun _ => by kernel_rfl) hW (e_enone (y3.ep) w9 (by first | omega | assumption | exact hep _ (List.mem_of_getElem? (by assumption)))) ?_); clear hA ac hW; intro w16 hW hfw16 ac hA
         refine st_p (Value.bool (!(decide (((y3.ep) : Int) % 281474976710656 = 0)))) hA ?_; clear hA ac; intro ac hA
         refine st_p (Value.bool (!(decide (((y3.ep) : Int) % 281474976710656 = 0)))) hA ?_; clear hA ac; intro ac hA
         rcases Bool.eq_false_or_eq_true (!(decide (((y3.ep) : Int) % 281474976710656 = 0))) with h17 | h17
         · skip
           rw [h17] at hA
           have h17 := not_t h17
           have h17 := of_decide_eq_false h17
           first
           | (exfalso; clear hA hW; omega)
           | (
             refine st_p (Value.pointer (some ⟨b6, 1, none⟩)) hA ?_; clear hA ac; intro ac hA
             refine st_q (Value.agg #[Value.int .i64 y3.at_.f, Value.int .i64 y3.at_.pc]) hA hW.cls (Rd.load (b := b6) (i := 1) (by kernel_rfl) (fun _ hw => (hw.1).cel 0 rfl) (by kernel_rfl)) ?_; clear hA ac; intro ac hA
             refine st_s hA (Runs.callN (v := Value.int .i64 (argErr (Site.ok y3.at_))) (fun _ => by kernel_rfl) hW (check_any y3.at_ w16) ?_); clear hA ac hW; intro w18 hW hfw18 ac hA
             refine st_p (Value.bool ((argErr (Site.ok y3.at_) : Int) != (0 : Int))) hA ?_; clear hA ac; intro ac hA
             refine st_p (Value.bool ((argErr (Site.ok y3.at_) : Int) != (0 : Int))) hA ?_; clear hA ac; intro ac hA
             refine st_p (Value.bool ((argErr (Site.ok y3.at_) : Int) != (0 : Int))) hA ?_; clear hA ac; intro ac hA
             refine wpList_nil ?_
             refine thenN ?_
             refine wp_cond_split (t := (argErr (Site.ok y3.at_) : Int) != (0 : Int)) (hA.eval (by kernel_rfl)) (fun h19 => ?_) (fun h19 => ?_)
             · skip
               have h19 := bne_iff_ne.1 h19
               first
               | (exfalso; clear hA hW; omega)
               | (
                 refine wp_seq ?_
                 refine wp_region_lit ?_
                 refine st_p (Value.bool false) hA ?_; clear hA ac; intro ac hA
                 refine wpList_nil ?_
                 refine thenN ?_
                 refine wp_ret ?_
                 refine blkR ?_
                 refine thenR ?_
                 refine thenR ?_
                 refine blkR ?_
                 refine thenR ?_
                 refine ret1 (v := Value.bool false) (by rfl) hA (Got.tmp hA (by kernel_rfl) (by kernel_rfl)) ?_
                 clear hA
                 exact ⟨retv (congrArg Value.bool (List.all_eq_false.2 ⟨_, List.mem_of_getElem? hy3, by rw [half_d h17 (by first | exact h19 | omega)]; simp⟩).symm), hW.fr⟩)
             · skip
               have h19 := of_bne_f h19
               first
               | (exfalso; clear hA hW; omega)
               | (
                 refine wp_skip ?_
                 refine blkN ?_
                 refine thenN ?_
                 refine wp_region_lit ?_
                 refine st_q (Value.int .i64 ((k + 1 : Nat) : Int)) hA hW.cls (Rd.pureE (v0 := Value.int .i64 (IntKind.i64.wrap ((((k : Nat) : Int) : Int) + 1))) (fun _ => by kernel_rfl) (congrArg (Value.int .i64) ((w_i64 (x := (((k : Nat) : Int) : Int) + 1) (by omega) (by omega)).trans (by omega)))) ?_; clear hA ac; intro ac hA
                 refine st_p (Value.int .i64 ((k + 1 : Nat) : Int)) hA ?_; clear hA ac; intro ac hA
                 refine wpList_nil ?_
                 refine thenN ?_
                 exact ⟨l.length - (k + 1), by omega, k + 1, rfl, by omega, by intro x hx; rw [tk_snoc hy3] at hx; rcases List.mem_append.1 hx with hx | hx; exact hk2 x hx; (simp only [List.mem_singleton] at hx; subst hx; exact half_b h17 (by first | exact h19 | omega)), hA.sub ⟨⟨by kernel_rfl, by kernel_rfl⟩, ⟨by kernel_rfl, by kernel_rfl⟩, ⟨by kernel_rfl, by kernel_rfl⟩, trivial⟩, (hW.pick [] (by decide) rfl).pickG [0] rfl⟩))
         · skip
           rw [h17] at hA
           have h17 := not_f h17
           have h17 := of_decide_eq_true h17
           first
           | (exfalso; clear hA hW; omega)
           | (
             fail)))
 · skip
   have h2 := of_decide_eq_false h2
   first
   | (exfalso; clear hA hW; omega)
   | (
     refine wp_exit ?_
     refine thenX ?_
     refine thenX ?_
     refine blkX ?_
     refine thenN ?_
     refine wp_seq ?_
     refine wp_region_lit ?_
     refine st_p (Value.bool true) hA ?_; clear hA ac; intro ac hA
     refine wpList_nil ?_
     refine thenN ?_
     refine wp_ret ?_
     refine ret1 (v := Value.bool true) (by rfl) hA (Got.tmp hA (by kernel_rfl) (by kernel_rfl)) ?_
     clear hA
     rw [List.take_of_length_le (by omega)] at hk2; exact ⟨retv (congrArg Value.bool (List.all_eq_true.2 hk2).symm), hW.fr⟩)

set_option maxRecDepth 100000 in
theorem e_check (x : Shade) (w : World) (hx : (0 ≤ x.wr ∧ x.wr ≤ 18446744073709551615) ∧ (0 ≤ x.rd ∧ x.rd ≤ 18446744073709551615)) : Calls Try.prog 23 #[x.v] w (fun e w' => e = .returned (Value.int .i64 (argErr (Shade.ok x))) ∧ Fr No w w') := by
 have _hu := hx; clear _hu
 refine enter_E 31 Try.func23 rfl rfl (by kernel_rfl) (L := [(0, x.v)]) (by kernel_rfl) ?_
 intro ac hA
 have hW := Ws.start w No
 refine wp_seq ?_
 refine wp_region_lit ?_
 refine st_s hA (Runs.cells (fun b => Value.pointer (some ⟨b, 0, none⟩)) #[Value.int .u64 x.wr, Value.int .i64 x.ws.f, Value.int .i64 x.ws.pc, Value.int .u64 x.rd, Value.int .i64 x.rs.f, Value.int .i64 x.rs.pc, Value.int .i64 x.vec] 31 (fun _ => by kernel_rfl) hW ?_); clear hA ac hW; intro b1 w2 hW hb1 hfw2 ac hA
 refine st_p (Value.int .i64 0) hA ?_; clear hA ac; intro ac hA
 refine wpList_nil ?_
 refine thenN ?_
 refine wp_seq ?_
 refine wp_seq ?_
 refine wp_region_lit ?_
 refine st_p (Value.pointer (some ⟨b1, 0, none⟩)) hA ?_; clear hA ac; intro ac hA
 refine st_q (Value.int .u64 x.wr) hA hW.cls (Rd.load (b := b1) (i := 0) (by kernel_rfl) (fun _ hw => (hw.1).cel 0 rfl) (by kernel_rfl)) ?_; clear hA ac; intro ac hA
 refine st_p (Value.pointer (some ⟨b1, 1, none⟩)) hA ?_; clear hA ac; intro ac hA
 refine st_q (Value.agg #[Value.int .i64 x.ws.f, Value.int .i64 x.ws.pc]) hA hW.cls (Rd.load (b := b1) (i := 1) (by kernel_rfl) (fun _ hw => (hw.1).cel 0 rfl) (by kernel_rfl)) ?_; clear hA ac; intro ac hA
 refine st_p (Value.agg #[Value.int .u64 x.wr, Value.int .i64 x.ws.f, Value.int .i64 x.ws.pc]) hA ?_; clear hA ac; intro ac hA
 refine st_p (Value.pointer (some ⟨b1, 3, none⟩)) hA ?_; clear hA ac; intro ac hA
 refine st_q (Value.int .u64 x.rd) hA hW.cls (Rd.load (b := b1) (i := 3) (by kernel_rfl) (fun _ hw => (hw.1).cel 0 rfl) (by kernel_rfl)) ?_; clear hA ac; intro ac hA
 refine st_p (Value.pointer (some ⟨b1, 4, none⟩)) hA ?_; clear hA ac; intro ac hA
 refine st_q (Value.agg #[Value.int .i64 x.rs.f, Value.int .i64 x.rs.pc]) hA hW.cls (Rd.load (b := b1) (i := 4) (by kernel_rfl) (fun _ hw => (hw.1).cel 0 rfl) (by kernel_rfl)) ?_; clear hA ac; intro ac hA
 refine st_p (Value.agg #[Value.int .u64 x.rd, Value.int .i64 x.rs.f, Value.int .i64 x.rs.pc]) hA ?_; clear hA ac; intro ac hA
 refine st_s hA (Runs.cells (fun b => Value.slice (some ⟨b, 0, none⟩) 2 2) #[Value.int .u64 x.wr, Value.int .i64 x.ws.f, Value.int .i64 x.ws.pc, Value.int .u64 x.rd, Value.int .i64 x.rs.f, Value.int .i64 x.rs.pc] 91 (fun _ => by kernel_rfl) hW ?_); clear hA ac hW; intro b3 w4 hW hb3 hfw4 ac hA
 refine st_s hA (Runs.callN (v := Value.bool (([(⟨x.wr, x.ws⟩ : Half), (⟨x.rd, x.rs⟩ : Half)] : List Half).all Half.ok)) (fun _ => by kernel_rfl) hW (e_fine (some ⟨b3, 0, none⟩) 2 ([(⟨x.wr, x.ws⟩ : Half), (⟨x.rd, x.rs⟩ : Half)] : List Half) w4 (rowAt_cel ((hW).cel 0 rfl) ([(⟨x.wr, x.ws⟩ : Half), (⟨x.rd, x.rs⟩ : Half)] : List Half) (by rfl) elt_Half.len) (by first | assumption | omega | (simp; omega) | simp) (by first | omega | (simp; done) | (intro y hy; simp only [List.mem_cons, List.not_mem_nil, or_false] at hy; rcases hy with rfl | rfl <;> first | exact hx.1 | exact hx.2)) (by first | omega | (simp; done) | (intro y hy; simp only [List.mem_cons, List.not_mem_nil, or_false] at hy; rcases hy with rfl | rfl <;> first | exact hx.1 | exact hx.2))) ?_); clear hA ac hW; intro w5 hW hfw5 ac hA
 refine st_p (Value.bool (!(([(⟨x.wr, x.ws⟩ : Half), (⟨x.rd, x.rs⟩ : Half)] : List Half).all Half.ok))) hA ?_; clear hA ac; intro ac hA
 refine st_p (Value.bool (!(([(⟨x.wr, x.ws⟩ : Half), (⟨x.rd, x.rs⟩ : Half)] : List Half).all Half.ok))) hA ?_; clear hA ac; intro ac hA
 rcases Bool.eq_false_or_eq_true (!(([(⟨x.wr, x.ws⟩ : Half), (⟨x.rd, x.rs⟩ : Half)] : List Half).all Half.ok)) with h6 | h6
 · skip
   rw [h6] at hA
   have h6 := not_t h6
   first
   | (exfalso; clear hA hW; omega)
   | (
     refine st_k hA ?_; clear hA ac; intro ac hA
     refine st_k hA ?_; clear hA ac; intro ac hA
     refine st_k hA ?_; clear hA ac; intro ac hA
     refine st_p (Value.bool true) hA ?_; clear hA ac; intro ac hA
     refine st_p (Value.bool true) hA ?_; clear hA ac; intro ac hA
     refine st_k hA ?_; clear hA ac; intro ac hA
     refine st_k hA ?_; clear hA ac; intro ac hA
     refine st_k hA ?_; clear hA ac; intro ac hA
     refine st_k hA ?_; clear hA ac; intro ac hA
     refine st_k hA ?_; clear hA ac; intro ac hA
     refine st_k hA ?_; clear hA ac; intro ac hA
     refine st_k hA ?_; clear hA ac; intro ac hA
     refine st_k hA ?_; clear hA ac; intro ac hA
     refine st_p (Value.bool true) hA ?_; clear hA ac; intro ac hA
     refine wpList_nil ?_
     refine thenN ?_
     refine wp_cond_true (hA.eval (by kernel_rfl)) ?_
     refine wp_seq ?_
     refine wp_region_lit ?_
     refine st_p (Value.int .i64 2) hA ?_; clear hA ac; intro ac hA
     refine wpList_nil ?_
     refine thenN ?_
     refine wp_ret ?_
     refine thenR ?_
     refine ret1 (v := Value.int .i64 2) (by rfl) hA (Got.tmp hA (by kernel_rfl) (by kernel_rfl)) ?_
     clear hA
     exact ⟨retv (congrArg (Value.int .i64) (check_f (.inl h6)).symm), hW.fr⟩)
 · skip
   rw [h6] at hA
   have h6 := not_f h6
   first
   | (exfalso; clear hA hW; omega)
   | (
     refine st_p (Value.pointer (some ⟨b1, 6, none⟩)) hA ?_; clear hA ac; intro ac hA
     refine st_q (Value.int .i64 x.vec) hA hW.cls (Rd.load (b := b1) (i := 6) (by kernel_rfl) (fun _ hw => (hw.1).cel 1 rfl) (by kernel_rfl)) ?_; clear hA ac; intro ac hA
     refine st_p (Value.bool (decide ((x.vec : Int) < (0 : Int)))) hA ?_; clear hA ac; intro ac hA
     refine st_p (Value.bool (decide ((x.vec : Int) < (0 : Int)))) hA ?_; clear hA ac; intro ac hA
     refine st_p (Value.bool (decide ((x.vec : Int) < (0 : Int)))) hA ?_; clear hA ac; intro ac hA
     rcases Bool.eq_false_or_eq_true (decide ((x.vec : Int) < (0 : Int))) with h7 | h7
     · skip
       rw [h7] at hA
       have h7 := of_decide_eq_true h7
       first
       | (exfalso; clear hA hW; omega)
       | (
         refine st_k hA ?_; clear hA ac; intro ac hA
         refine st_k hA ?_; clear hA ac; intro ac hA
         refine st_k hA ?_; clear hA ac; intro ac hA
         refine st_k hA ?_; clear hA ac; intro ac hA
         refine st_k hA ?_; clear hA ac; intro ac hA
         refine st_k hA ?_; clear hA ac; intro ac hA
         refine st_k hA ?_; clear hA ac; intro ac hA
         refine st_k hA ?_; clear hA ac; intro ac hA
         refine st_p (Value.bool true) hA ?_; clear hA ac; intro ac hA
         refine wpList_nil ?_
         refine thenN ?_
         refine wp_cond_true (hA.eval (by kernel_rfl)) ?_
         refine wp_seq ?_
         refine wp_region_lit ?_
         refine st_p (Value.int .i64 2) hA ?_; clear hA ac; intro ac hA
         refine wpList_nil ?_
         refine thenN ?_
         refine wp_ret ?_
         refine thenR ?_
         refine ret1 (v := Value.int .i64 2) (by rfl) hA (Got.tmp hA (by kernel_rfl) (by kernel_rfl)) ?_
         clear hA
         exact ⟨retv (congrArg (Value.int .i64) (check_f (.inr (by omega))).symm), hW.fr⟩)
     · skip
       rw [h7] at hA
       have h7 := of_decide_eq_false h7
       first
       | (exfalso; clear hA hW; omega)
       | (
         refine st_p (Value.pointer (some ⟨b1, 6, none⟩)) hA ?_; clear hA ac; intro ac hA
         refine st_q (Value.int .i64 x.vec) hA hW.cls (Rd.load (b := b1) (i := 6) (by kernel_rfl) (fun _ hw => (hw.1).cel 1 rfl) (by kernel_rfl)) ?_; clear hA ac; intro ac hA
         refine st_p (Value.bool (decide ((x.vec : Int) > (0 : Int)))) hA ?_; clear hA ac; intro ac hA
         refine st_p (Value.bool (decide ((x.vec : Int) > (0 : Int)))) hA ?_; clear hA ac; intro ac hA
         rcases Bool.eq_false_or_eq_true (decide ((x.vec : Int) > (0 : Int))) with h8 | h8
         · skip
           rw [h8] at hA
           have h8 := of_decide_eq_true h8
           first
           | (exfalso; clear hA hW; omega)
           | (
             refine st_p (Value.pointer (some ⟨b1, 3, none⟩)) hA ?_; clear hA ac; intro ac hA
             refine st_q (Value.int .u64 x.rd) hA hW.cls (Rd.load (b := b1) (i := 3) (by kernel_rfl) (fun _ hw => (hw.1).cel 1 rfl) (by kernel_rfl)) ?_; clear hA ac; intro ac hA
             refine st_p (Value.bool ((x.rd : Int) != (0 : Int))) hA ?_; clear hA ac; intro ac hA
             refine st_p (Value.bool ((x.rd : Int) != (0 : Int))) hA ?_; clear hA ac; intro ac hA
             refine st_p (Value.bool ((x.rd : Int) != (0 : Int))) hA ?_; clear hA ac; intro ac hA
             refine wpList_nil ?_
             refine thenN ?_
             refine wp_cond_split (t := (x.rd : Int) != (0 : Int)) (hA.eval (by kernel_rfl)) (fun h9 => ?_) (fun h9 => ?_)
             · skip
               have h9 := bne_iff_ne.1 h9
               first
               | (exfalso; clear hA hW; omega)
               | (
                 refine wp_seq ?_
                 refine wp_region_lit ?_
                 refine st_p (Value.int .i64 2) hA ?_; clear hA ac; intro ac hA
                 refine wpList_nil ?_
                 refine thenN ?_
                 refine wp_ret ?_
                 refine thenR ?_
                 refine ret1 (v := Value.int .i64 2) (by rfl) hA (Got.tmp hA (by kernel_rfl) (by kernel_rfl)) ?_
                 clear hA
                 exact ⟨retv (congrArg (Value.int .i64) (check_f (.inr (by omega))).symm), hW.fr⟩)
             · skip
               have h9 := of_bne_f h9
               first
               | (exfalso; clear hA hW; omega)
               | (
                 refine wp_skip ?_
                 refine thenN ?_
                 refine wp_seq ?_
                 refine wp_region_lit ?_
                 refine st_p (Value.int .i64 0) hA ?_; clear hA ac; intro ac hA
                 refine wpList_nil ?_
                 refine thenN ?_
                 refine wp_ret ?_
                 refine ret1 (v := Value.int .i64 0) (by rfl) hA (Got.tmp hA (by kernel_rfl) (by kernel_rfl)) ?_
                 clear hA
                 exact ⟨retv (congrArg (Value.int .i64) (check_t h6 (by omega) (by omega)).symm), hW.fr⟩))
         · skip
           rw [h8] at hA
           have h8 := of_decide_eq_false h8
           first
           | (exfalso; clear hA hW; omega)
           | (
             refine st_k hA ?_; clear hA ac; intro ac hA
             refine st_k hA ?_; clear hA ac; intro ac hA
             refine st_k hA ?_; clear hA ac; intro ac hA
             refine st_p (Value.bool false) hA ?_; clear hA ac; intro ac hA
             refine st_p (Value.bool false) hA ?_; clear hA ac; intro ac hA
             refine wpList_nil ?_
             refine thenN ?_
             refine wp_cond_false (hA.eval (by kernel_rfl)) ?_
             refine wp_skip ?_
             refine thenN ?_
             refine wp_seq ?_
             refine wp_region_lit ?_
             refine st_p (Value.int .i64 0) hA ?_; clear hA ac; intro ac hA
             refine wpList_nil ?_
             refine thenN ?_
             refine wp_ret ?_
             refine ret1 (v := Value.int .i64 0) (by rfl) hA (Got.tmp hA (by kernel_rfl) (by kernel_rfl)) ?_
             clear hA
             exact ⟨retv (congrArg (Value.int .i64) (check_t h6 (by omega) (by omega)).symm), hW.fr⟩)))

end Go.Proofs.Ytcgcippmbeileaa.L
