/- Contracts, walked by program over the engine's laws. -/
import Derived.Test.YtgkhaoogfpnbbaaProg
import Derived.Test.YtgkhaoogfpnbbaaE6
import Derived.Test.YtgkhaoogfpnbbaaWorks27
namespace Go.Proofs.Ytgkhaoogfpnbbaa.L
open Go.RowKit

theorem take_all {α : Type} {l r : List α} {k : Nat} (h1 : l.length ≤ k) (h2 : r.length ≤ k) (h : l.take k = r.take k) : l = r := by rwa [List.take_of_length_le h1, List.take_of_length_le h2] at h
def enPair (p : Pair) : List Value := [.int .i64 p.a.f, .int .i64 p.a.pc, .int .i64 p.b.f, .int .i64 p.b.pc]
structure RT where
  most : Int
  L : List Flag
  P : List Pair
def RT.Takes (s : RT) (f : Flag) (s' : RT) (r : Bool) : Prop :=
  if Pair.of f.e.s f.l.s ∈ s.P then s' = s ∧ r = false
  else ∃ k, k ≤ s.P.length ∧ s'.P = s.P.take k ++ [Pair.of f.e.s f.l.s] ++ s.P.drop k ∧ s'.most = s.most ∧
    (if s.most ≤ s.L.length then s'.L = s.L ∧ r = false else s'.L = s.L ++ [f] ∧ r = true)
def RTR (most : Int) : List Flag → RT → Prop
  | [], s => s = ⟨most, [], []⟩
  | f :: r, s => ∃ s0 b, RTR most r s0 ∧ s0.Takes f s b
def RTF (most : Int) (l : List Flag) (s : RT) : Prop := RTR most l.reverse s
theorem RTF_snoc {most : Int} {l : List Flag} {s s' : RT} {f : Flag} {b : Bool} (h : RTF most l s) (k : s.Takes f s' b) : RTF most (l ++ [f]) s' := by
  unfold RTF; rw [List.reverse_append]; exact ⟨s, b, h, k⟩
theorem RT.Takes.len {s s' : RT} {f : Flag} {r : Bool} (h : s.Takes f s' r) : s'.L.length ≤ s.L.length + 1 ∧ s'.P.length ≤ s.P.length + 1 := by
  unfold RT.Takes at h
  split at h
  · rw [h.1]; omega
  · obtain ⟨k, h1, h2, h3, h4⟩ := h
    rw [h2]
    split at h4
    · rw [h4.1]; simp; omega
    · rw [h4.1]; simp; omega
def OfRel (most : Int) (l : List Flag) (m' : Int) (L' : List Flag) (P' : List Pair) (bad : Int) : Prop :=
  if 0 ≤ most ∧ most ≤ 65536 ∧ (∀ f ∈ l, f.ok = true) then bad = 0 ∧ m' = most ∧ RTF most l ⟨most, L', P'⟩ else bad = 2 ∧ m' = 0 ∧ L' = [] ∧ P' = []
set_option maxRecDepth 100000 in
theorem eqIn_Site (d : Nat) (a b : Site) (w : World) : (Op.equalIn (d + 2) 38 a.v b.v).run Try.prog w = .ok (decide (a = b)) w := by
  have h := eq_struct (P := Try.prog) (d := d + 1) (t := 38) (u := a.v) (v := b.v) rfl rfl (by kernel_rfl) (by kernel_rfl) (eqF_cons { name := "Func", type := 3, offset := 0, embedded := false, tag := "", pkgPath := "", byteOffset := 0 } (fs := [{ name := "Pc", type := 3, offset := 1, embedded := false, tag := "", pkgPath := "", byteOffset := 8 }]) (u := Value.int .i64 a.f) (v := Value.int .i64 b.f) (r := (a.f == b.f)) (by kernel_rfl) (by decide) (fun _ => by kernel_rfl) (fun _ => by kernel_rfl) (fun _ => by kernel_rfl) (eqF_cons { name := "Pc", type := 3, offset := 1, embedded := false, tag := "", pkgPath := "", byteOffset := 8 } (fs := []) (u := Value.int .i64 a.pc) (v := Value.int .i64 b.pc) (r := (a.pc == b.pc)) (by kernel_rfl) (by decide) (fun _ => by kernel_rfl) (fun _ => by kernel_rfl) (fun _ => by kernel_rfl) (eqF_nil (by kernel_rfl)))) w
  rw [h]; congr 1
  obtain ⟨x0, x1⟩ := a; obtain ⟨y0, y1⟩ := b; rw [Bool.eq_iff_iff]; simp
theorem eq_Site (w : World) (a b : Site) : (Op.equal 38 a.v b.v).run Try.prog w = .ok (decide (a = b)) w := eqIn_Site 9998 a b w
theorem Site.eqi (a b : Site) : a = b ↔ a.f = b.f ∧ a.pc = b.pc := by
  obtain ⟨x0, x1⟩ := a; obtain ⟨y0, y1⟩ := b; simp
set_option maxRecDepth 100000 in
theorem eqIn_Pair (d : Nat) (a b : Pair) (w : World) : (Op.equalIn (d + 3) 54 a.v b.v).run Try.prog w = .ok (decide (a = b)) w := by
  have h := eq_struct (P := Try.prog) (d := d + 2) (t := 54) (u := a.v) (v := b.v) rfl rfl (by kernel_rfl) (by kernel_rfl) (eqF_cons { name := "A", type := 38, offset := 0, embedded := false, tag := "", pkgPath := "", byteOffset := 0 } (fs := [{ name := "B", type := 38, offset := 2, embedded := false, tag := "", pkgPath := "", byteOffset := 16 }]) (u := a.a.v) (v := b.a.v) (r := decide (a.a = b.a)) (by kernel_rfl) (by decide) (fun _ => by kernel_rfl) (fun _ => by kernel_rfl) (eqIn_Site (d + 0) a.a b.a) (eqF_cons { name := "B", type := 38, offset := 2, embedded := false, tag := "", pkgPath := "", byteOffset := 16 } (fs := []) (u := a.b.v) (v := b.b.v) (r := decide (a.b = b.b)) (by kernel_rfl) (by decide) (fun _ => by kernel_rfl) (fun _ => by kernel_rfl) (eqIn_Site (d + 0) a.b b.b) (eqF_nil (by kernel_rfl)))) w
  rw [h]; congr 1
  obtain ⟨x0, x1⟩ := a; obtain ⟨y0, y1⟩ := b; rw [Bool.eq_iff_iff]; simp
theorem eq_Pair (w : World) (a b : Pair) : (Op.equal 54 a.v b.v).run Try.prog w = .ok (decide (a = b)) w := eqIn_Pair 9997 a b w
theorem Pair.eqi (a b : Pair) : a = b ↔ a.a.f = b.a.f ∧ a.a.pc = b.a.pc ∧ a.b.f = b.b.f ∧ a.b.pc = b.b.pc := by
  obtain ⟨x0, x1⟩ := a; obtain ⟨y0, y1⟩ := b; simp [Site.eqi, and_assoc]
set_option maxRecDepth 100000 in
theorem eqIn_Acc (d : Nat) (a b : Acc) (w : World) : (Op.equalIn (d + 3) 41 a.v b.v).run Try.prog w = .ok (decide (a = b)) w := by
  have h := eq_struct (P := Try.prog) (d := d + 2) (t := 41) (u := a.v) (v := b.v) rfl rfl (by kernel_rfl) (by kernel_rfl) (eqF_cons { name := "G", type := 3, offset := 0, embedded := false, tag := "", pkgPath := "", byteOffset := 0 } (fs := [{ name := "Site", type := 38, offset := 1, embedded := false, tag := "", pkgPath := "", byteOffset := 8 }, { name := "Kind", type := 39, offset := 3, embedded := false, tag := "", pkgPath := "", byteOffset := 24 }]) (u := Value.int .i64 a.g) (v := Value.int .i64 b.g) (r := (a.g == b.g)) (by kernel_rfl) (by decide) (fun _ => by kernel_rfl) (fun _ => by kernel_rfl) (fun _ => by kernel_rfl) (eqF_cons { name := "Site", type := 38, offset := 1, embedded := false, tag := "", pkgPath := "", byteOffset := 8 } (fs := [{ name := "Kind", type := 39, offset := 3, embedded := false, tag := "", pkgPath := "", byteOffset := 24 }]) (u := a.s.v) (v := b.s.v) (r := decide (a.s = b.s)) (by kernel_rfl) (by decide) (fun _ => by kernel_rfl) (fun _ => by kernel_rfl) (eqIn_Site (d + 0) a.s b.s) (eqF_cons { name := "Kind", type := 39, offset := 3, embedded := false, tag := "", pkgPath := "", byteOffset := 24 } (fs := []) (u := Value.int .i64 a.k) (v := Value.int .i64 b.k) (r := (a.k == b.k)) (by kernel_rfl) (by decide) (fun _ => by kernel_rfl) (fun _ => by kernel_rfl) (fun _ => by kernel_rfl) (eqF_nil (by kernel_rfl))))) w
  rw [h]; congr 1
  obtain ⟨x0, x1, x2⟩ := a; obtain ⟨y0, y1, y2⟩ := b; rw [Bool.eq_iff_iff]; simp
theorem eq_Acc (w : World) (a b : Acc) : (Op.equal 41 a.v b.v).run Try.prog w = .ok (decide (a = b)) w := eqIn_Acc 9997 a b w
theorem Acc.eqi (a b : Acc) : a = b ↔ a.g = b.g ∧ a.s.f = b.s.f ∧ a.s.pc = b.s.pc ∧ a.k = b.k := by
  obtain ⟨x0, x1, x2⟩ := a; obtain ⟨y0, y1, y2⟩ := b; simp [Site.eqi, and_assoc]
set_option maxRecDepth 100000 in
theorem eqIn_Flag (d : Nat) (a b : Flag) (w : World) : (Op.equalIn (d + 4) 43 a.v b.v).run Try.prog w = .ok (decide (a = b)) w := by
  have h := eq_struct (P := Try.prog) (d := d + 3) (t := 43) (u := a.v) (v := b.v) rfl rfl (by kernel_rfl) (by kernel_rfl) (eqF_cons { name := "At", type := 3, offset := 0, embedded := false, tag := "", pkgPath := "", byteOffset := 0 } (fs := [{ name := "Addr", type := 36, offset := 1, embedded := false, tag := "", pkgPath := "", byteOffset := 8 }, { name := "Earlier", type := 41, offset := 2, embedded := false, tag := "", pkgPath := "", byteOffset := 16 }, { name := "Later", type := 41, offset := 6, embedded := false, tag := "", pkgPath := "", byteOffset := 48 }]) (u := Value.int .i64 a.at_) (v := Value.int .i64 b.at_) (r := (a.at_ == b.at_)) (by kernel_rfl) (by decide) (fun _ => by kernel_rfl) (fun _ => by kernel_rfl) (fun _ => by kernel_rfl) (eqF_cons { name := "Addr", type := 36, offset := 1, embedded := false, tag := "", pkgPath := "", byteOffset := 8 } (fs := [{ name := "Earlier", type := 41, offset := 2, embedded := false, tag := "", pkgPath := "", byteOffset := 16 }, { name := "Later", type := 41, offset := 6, embedded := false, tag := "", pkgPath := "", byteOffset := 48 }]) (u := Value.int .u32 a.addr) (v := Value.int .u32 b.addr) (r := (a.addr == b.addr)) (by kernel_rfl) (by decide) (fun _ => by kernel_rfl) (fun _ => by kernel_rfl) (fun _ => by kernel_rfl) (eqF_cons { name := "Earlier", type := 41, offset := 2, embedded := false, tag := "", pkgPath := "", byteOffset := 16 } (fs := [{ name := "Later", type := 41, offset := 6, embedded := false, tag := "", pkgPath := "", byteOffset := 48 }]) (u := a.e.v) (v := b.e.v) (r := decide (a.e = b.e)) (by kernel_rfl) (by decide) (fun _ => by kernel_rfl) (fun _ => by kernel_rfl) (eqIn_Acc (d + 0) a.e b.e) (eqF_cons { name := "Later", type := 41, offset := 6, embedded := false, tag := "", pkgPath := "", byteOffset := 48 } (fs := []) (u := a.l.v) (v := b.l.v) (r := decide (a.l = b.l)) (by kernel_rfl) (by decide) (fun _ => by kernel_rfl) (fun _ => by kernel_rfl) (eqIn_Acc (d + 0) a.l b.l) (eqF_nil (by kernel_rfl)))))) w
  rw [h]; congr 1
  obtain ⟨x0, x1, x2, x3⟩ := a; obtain ⟨y0, y1, y2, y3⟩ := b; rw [Bool.eq_iff_iff]; simp
theorem eq_Flag (w : World) (a b : Flag) : (Op.equal 43 a.v b.v).run Try.prog w = .ok (decide (a = b)) w := eqIn_Flag 9996 a b w
theorem Flag.eqi (a b : Flag) : a = b ↔ a.at_ = b.at_ ∧ a.addr = b.addr ∧ a.e.g = b.e.g ∧ a.e.s.f = b.e.s.f ∧ a.e.s.pc = b.e.s.pc ∧ a.e.k = b.e.k ∧ a.l.g = b.l.g ∧ a.l.s.f = b.l.s.f ∧ a.l.s.pc = b.l.s.pc ∧ a.l.k = b.l.k := by
  obtain ⟨x0, x1, x2, x3⟩ := a; obtain ⟨y0, y1, y2, y3⟩ := b; simp [Acc.eqi, and_assoc]
theorem elt_Pair : Elt Try.prog 54 4 enPair := ⟨⟨Value.agg #[Value.int .i64 0, Value.int .i64 0, Value.int .i64 0, Value.int .i64 0], 32, by kernel_rfl, rfl, by decide⟩, by decide, fun _ => rfl, fun x u hu => List.all_eq_true.1 (show (enPair x).all (·.oneCell') = true from rfl) u hu⟩
theorem elt_Flag : Elt Try.prog 43 10 enFlag := ⟨⟨Value.agg #[Value.int .i64 0, Value.int .u32 0, Value.int .i64 0, Value.int .i64 0, Value.int .i64 0, Value.int .i64 0, Value.int .i64 0, Value.int .i64 0, Value.int .i64 0, Value.int .i64 0], 80, by kernel_rfl, rfl, by decide⟩, by decide, fun _ => rfl, fun x u hu => List.all_eq_true.1 (show (enFlag x).all (·.oneCell') = true from rfl) u hu⟩
set_option maxRecDepth 100000 in
theorem e_siRight (s : Site) (w : World)  : Calls Try.prog 45 #[s.v] w (fun e w' => e = .returned (Value.bool (Site.ok s)) ∧ Fr No w w') := by
  refine enter_E 21 Try.func45 rfl rfl (by kernel_rfl) (L := [(0, s.v)]) (by kernel_rfl) ?_
  intro ac hA
  have hW := Ws.start w No
  refine wp_seq ?_
  refine wp_region_lit ?_
  refine st hA (by kernel_rfl) (by kernel_rfl) (by kernel_rfl) (Runs.cells (fun b => Value.pointer (some ⟨b, 0, none⟩)) #[Value.int .i64 s.f, Value.int .i64 s.pc] 38 (fun _ => by kernel_rfl) hW ?_); clear hA ac hW; intro b1 w2 hW hb1 hfw2 ac hA
  refine st_rd (v := Value.bool false) hA (by kernel_rfl) (by kernel_rfl) (by kernel_rfl) hW.cls (Rd.pure fun _ => by kernel_rfl) ?_; clear hA ac; intro ac hA
  refine wpList_nil ?_
  refine thenN ?_
  refine wp_seq ?_
  refine wp_region_lit ?_
  refine st_rd (v := Value.pointer (some ⟨b1, 0, none⟩)) hA (by kernel_rfl) (by kernel_rfl) (by kernel_rfl) hW.cls (Rd.pure fun _ => by kernel_rfl) ?_; clear hA ac; intro ac hA
  refine st_rd (v := Value.int .i64 s.f) hA (by kernel_rfl) (by kernel_rfl) (by kernel_rfl) hW.cls (Rd.load (b := b1) (i := 0) (by kernel_rfl) (fun _ hw => (hw.1).cel 0 rfl) (by kernel_rfl)) ?_; clear hA ac; intro ac hA
  refine st_rd (v := Value.bool (decide ((s.f : Int) ≥ (0 : Int)))) hA (by kernel_rfl) (by kernel_rfl) (by kernel_rfl) hW.cls (Rd.pure fun _ => by kernel_rfl) ?_; clear hA ac; intro ac hA
  refine st_rd (v := Value.bool (decide ((s.f : Int) ≥ (0 : Int)))) hA (by kernel_rfl) (by kernel_rfl) (by kernel_rfl) hW.cls (Rd.pure fun _ => by kernel_rfl) ?_; clear hA ac; intro ac hA
  rcases Bool.eq_false_or_eq_true (decide ((s.f : Int) ≥ (0 : Int))) with h3 | h3
  · skip
    rw [h3] at hA
    have h3 := of_decide_eq_true h3
    first
    | (exfalso; clear hA hW; omega)
    | (
        refine st_rd (v := Value.pointer (some ⟨b1, 0, none⟩)) hA (by kernel_rfl) (by kernel_rfl) (by kernel_rfl) hW.cls (Rd.pure fun _ => by kernel_rfl) ?_; clear hA ac; intro ac hA
        refine st_rd (v := Value.int .i64 s.f) hA (by kernel_rfl) (by kernel_rfl) (by kernel_rfl) hW.cls (Rd.load (b := b1) (i := 0) (by kernel_rfl) (fun _ hw => (hw.1).cel 0 rfl) (by kernel_rfl)) ?_; clear hA ac; intro ac hA
        refine st_rd (v := Value.bool (decide ((s.f : Int) < (32 : Int)))) hA (by kernel_rfl) (by kernel_rfl) (by kernel_rfl) hW.cls (Rd.pure fun _ => by kernel_rfl) ?_; clear hA ac; intro ac hA
        refine st_rd (v := Value.bool (decide ((s.f : Int) < (32 : Int)))) hA (by kernel_rfl) (by kernel_rfl) (by kernel_rfl) hW.cls (Rd.pure fun _ => by kernel_rfl) ?_; clear hA ac; intro ac hA
        refine st_rd (v := Value.bool (decide ((s.f : Int) < (32 : Int)))) hA (by kernel_rfl) (by kernel_rfl) (by kernel_rfl) hW.cls (Rd.pure fun _ => by kernel_rfl) ?_; clear hA ac; intro ac hA
        rcases Bool.eq_false_or_eq_true (decide ((s.f : Int) < (32 : Int))) with h4 | h4
        · skip
          rw [h4] at hA
          have h4 := of_decide_eq_true h4
          first
          | (exfalso; clear hA hW; omega)
          | (
              refine st_rd (v := Value.pointer (some ⟨b1, 1, none⟩)) hA (by kernel_rfl) (by kernel_rfl) (by kernel_rfl) hW.cls (Rd.pure fun _ => by kernel_rfl) ?_; clear hA ac; intro ac hA
              refine st_rd (v := Value.int .i64 s.pc) hA (by kernel_rfl) (by kernel_rfl) (by kernel_rfl) hW.cls (Rd.load (b := b1) (i := 1) (by kernel_rfl) (fun _ hw => (hw.1).cel 0 rfl) (by kernel_rfl)) ?_; clear hA ac; intro ac hA
              refine st_rd (v := Value.bool (decide ((s.pc : Int) ≥ (0 : Int)))) hA (by kernel_rfl) (by kernel_rfl) (by kernel_rfl) hW.cls (Rd.pure fun _ => by kernel_rfl) ?_; clear hA ac; intro ac hA
              refine st_rd (v := Value.bool (decide ((s.pc : Int) ≥ (0 : Int)))) hA (by kernel_rfl) (by kernel_rfl) (by kernel_rfl) hW.cls (Rd.pure fun _ => by kernel_rfl) ?_; clear hA ac; intro ac hA
              refine st_rd (v := Value.bool (decide ((s.pc : Int) ≥ (0 : Int)))) hA (by kernel_rfl) (by kernel_rfl) (by kernel_rfl) hW.cls (Rd.pure fun _ => by kernel_rfl) ?_; clear hA ac; intro ac hA
              rcases Bool.eq_false_or_eq_true (decide ((s.pc : Int) ≥ (0 : Int))) with h5 | h5
              · skip
                rw [h5] at hA
                have h5 := of_decide_eq_true h5
                first
                | (exfalso; clear hA hW; omega)
                | (
                    refine st_rd (v := Value.pointer (some ⟨b1, 1, none⟩)) hA (by kernel_rfl) (by kernel_rfl) (by kernel_rfl) hW.cls (Rd.pure fun _ => by kernel_rfl) ?_; clear hA ac; intro ac hA
                    refine st_rd (v := Value.int .i64 s.pc) hA (by kernel_rfl) (by kernel_rfl) (by kernel_rfl) hW.cls (Rd.load (b := b1) (i := 1) (by kernel_rfl) (fun _ hw => (hw.1).cel 0 rfl) (by kernel_rfl)) ?_; clear hA ac; intro ac hA
                    refine st_rd (v := Value.bool (decide ((s.pc : Int) < (512 : Int)))) hA (by kernel_rfl) (by kernel_rfl) (by kernel_rfl) hW.cls (Rd.pure fun _ => by kernel_rfl) ?_; clear hA ac; intro ac hA
                    refine st_rd (v := Value.bool (decide ((s.pc : Int) < (512 : Int)))) hA (by kernel_rfl) (by kernel_rfl) (by kernel_rfl) hW.cls (Rd.pure fun _ => by kernel_rfl) ?_; clear hA ac; intro ac hA
                    refine st_rd (v := Value.bool (decide ((s.pc : Int) < (512 : Int)))) hA (by kernel_rfl) (by kernel_rfl) (by kernel_rfl) hW.cls (Rd.pure fun _ => by kernel_rfl) ?_; clear hA ac; intro ac hA
                    refine wpList_nil ?_
                    refine thenN ?_
                    refine wp_ret ?_
                    refine ret1 (v := Value.bool (decide ((s.pc : Int) < (512 : Int)))) (by rfl) hA (Got.tmp hA (by kernel_rfl) (by kernel_rfl)) ?_
                    clear hA
                    exact ⟨retv (by first | (simp [Site.ok]; done) | (simp [Site.ok]; omega) | (simp [Site.ok, *]; done) | (simp [Site.ok, *]; omega) | (simp_all [Site.ok]; done) | (simp_all [Site.ok]; omega) | (refine congrArg Value.bool (Bool.eq_iff_iff.2 ?_); simp [Site.ok]; (try simp only [*]); (try simp); omega) | (simp [Site.ok]; repeat' split; all_goals omega)), hW.fr⟩)
              · skip
                rw [h5] at hA
                have h5 := of_decide_eq_false h5
                first
                | (exfalso; clear hA hW; omega)
                | (
                    refine st_skip hA (by kernel_rfl) (by kernel_rfl) ?_; clear hA ac; intro ac hA
                    refine st_skip hA (by kernel_rfl) (by kernel_rfl) ?_; clear hA ac; intro ac hA
                    refine st_skip hA (by kernel_rfl) (by kernel_rfl) ?_; clear hA ac; intro ac hA
                    refine st_rd (v := Value.bool false) hA (by kernel_rfl) (by kernel_rfl) (by kernel_rfl) hW.cls (Rd.pure fun _ => by kernel_rfl) ?_; clear hA ac; intro ac hA
                    refine st_rd (v := Value.bool false) hA (by kernel_rfl) (by kernel_rfl) (by kernel_rfl) hW.cls (Rd.pure fun _ => by kernel_rfl) ?_; clear hA ac; intro ac hA
                    refine wpList_nil ?_
                    refine thenN ?_
                    refine wp_ret ?_
                    refine ret1 (v := Value.bool false) (by rfl) hA (Got.tmp hA (by kernel_rfl) (by kernel_rfl)) ?_
                    clear hA
                    exact ⟨retv (by first | (simp [Site.ok]; done) | (simp [Site.ok]; omega) | (simp [Site.ok, *]; done) | (simp [Site.ok, *]; omega) | (simp_all [Site.ok]; done) | (simp_all [Site.ok]; omega) | (refine congrArg Value.bool (Bool.eq_iff_iff.2 ?_); simp [Site.ok]; (try simp only [*]); (try simp); omega) | (simp [Site.ok]; repeat' split; all_goals omega)), hW.fr⟩))
        · skip
          rw [h4] at hA
          have h4 := of_decide_eq_false h4
          first
          | (exfalso; clear hA hW; omega)
          | (
              refine st_skip hA (by kernel_rfl) (by kernel_rfl) ?_; clear hA ac; intro ac hA
              refine st_skip hA (by kernel_rfl) (by kernel_rfl) ?_; clear hA ac; intro ac hA
              refine st_skip hA (by kernel_rfl) (by kernel_rfl) ?_; clear hA ac; intro ac hA
              refine st_rd (v := Value.bool false) hA (by kernel_rfl) (by kernel_rfl) (by kernel_rfl) hW.cls (Rd.pure fun _ => by kernel_rfl) ?_; clear hA ac; intro ac hA
              refine st_rd (v := Value.bool false) hA (by kernel_rfl) (by kernel_rfl) (by kernel_rfl) hW.cls (Rd.pure fun _ => by kernel_rfl) ?_; clear hA ac; intro ac hA
              refine st_skip hA (by kernel_rfl) (by kernel_rfl) ?_; clear hA ac; intro ac hA
              refine st_skip hA (by kernel_rfl) (by kernel_rfl) ?_; clear hA ac; intro ac hA
              refine st_skip hA (by kernel_rfl) (by kernel_rfl) ?_; clear hA ac; intro ac hA
              refine st_rd (v := Value.bool false) hA (by kernel_rfl) (by kernel_rfl) (by kernel_rfl) hW.cls (Rd.pure fun _ => by kernel_rfl) ?_; clear hA ac; intro ac hA
              refine st_rd (v := Value.bool false) hA (by kernel_rfl) (by kernel_rfl) (by kernel_rfl) hW.cls (Rd.pure fun _ => by kernel_rfl) ?_; clear hA ac; intro ac hA
              refine wpList_nil ?_
              refine thenN ?_
              refine wp_ret ?_
              refine ret1 (v := Value.bool false) (by rfl) hA (Got.tmp hA (by kernel_rfl) (by kernel_rfl)) ?_
              clear hA
              exact ⟨retv (by first | (simp [Site.ok]; done) | (simp [Site.ok]; omega) | (simp [Site.ok, *]; done) | (simp [Site.ok, *]; omega) | (simp_all [Site.ok]; done) | (simp_all [Site.ok]; omega) | (refine congrArg Value.bool (Bool.eq_iff_iff.2 ?_); simp [Site.ok]; (try simp only [*]); (try simp); omega) | (simp [Site.ok]; repeat' split; all_goals omega)), hW.fr⟩))
  · skip
    rw [h3] at hA
    have h3 := of_decide_eq_false h3
    first
    | (exfalso; clear hA hW; omega)
    | (
        refine st_skip hA (by kernel_rfl) (by kernel_rfl) ?_; clear hA ac; intro ac hA
        refine st_skip hA (by kernel_rfl) (by kernel_rfl) ?_; clear hA ac; intro ac hA
        refine st_skip hA (by kernel_rfl) (by kernel_rfl) ?_; clear hA ac; intro ac hA
        refine st_rd (v := Value.bool false) hA (by kernel_rfl) (by kernel_rfl) (by kernel_rfl) hW.cls (Rd.pure fun _ => by kernel_rfl) ?_; clear hA ac; intro ac hA
        refine st_rd (v := Value.bool false) hA (by kernel_rfl) (by kernel_rfl) (by kernel_rfl) hW.cls (Rd.pure fun _ => by kernel_rfl) ?_; clear hA ac; intro ac hA
        refine st_skip hA (by kernel_rfl) (by kernel_rfl) ?_; clear hA ac; intro ac hA
        refine st_skip hA (by kernel_rfl) (by kernel_rfl) ?_; clear hA ac; intro ac hA
        refine st_skip hA (by kernel_rfl) (by kernel_rfl) ?_; clear hA ac; intro ac hA
        refine st_rd (v := Value.bool false) hA (by kernel_rfl) (by kernel_rfl) (by kernel_rfl) hW.cls (Rd.pure fun _ => by kernel_rfl) ?_; clear hA ac; intro ac hA
        refine st_rd (v := Value.bool false) hA (by kernel_rfl) (by kernel_rfl) (by kernel_rfl) hW.cls (Rd.pure fun _ => by kernel_rfl) ?_; clear hA ac; intro ac hA
        refine st_skip hA (by kernel_rfl) (by kernel_rfl) ?_; clear hA ac; intro ac hA
        refine st_skip hA (by kernel_rfl) (by kernel_rfl) ?_; clear hA ac; intro ac hA
        refine st_skip hA (by kernel_rfl) (by kernel_rfl) ?_; clear hA ac; intro ac hA
        refine st_rd (v := Value.bool false) hA (by kernel_rfl) (by kernel_rfl) (by kernel_rfl) hW.cls (Rd.pure fun _ => by kernel_rfl) ?_; clear hA ac; intro ac hA
        refine st_rd (v := Value.bool false) hA (by kernel_rfl) (by kernel_rfl) (by kernel_rfl) hW.cls (Rd.pure fun _ => by kernel_rfl) ?_; clear hA ac; intro ac hA
        refine wpList_nil ?_
        refine thenN ?_
        refine wp_ret ?_
        refine ret1 (v := Value.bool false) (by rfl) hA (Got.tmp hA (by kernel_rfl) (by kernel_rfl)) ?_
        clear hA
        exact ⟨retv (by first | (simp [Site.ok]; done) | (simp [Site.ok]; omega) | (simp [Site.ok, *]; done) | (simp [Site.ok, *]; omega) | (simp_all [Site.ok]; done) | (simp_all [Site.ok]; omega) | (refine congrArg Value.bool (Bool.eq_iff_iff.2 ?_); simp [Site.ok]; (try simp only [*]); (try simp); omega) | (simp [Site.ok]; repeat' split; all_goals omega)), hW.fr⟩)

set_option maxRecDepth 100000 in
theorem e_order07 (a : Site) (b : Site) (w : World)  : Calls Try.prog 51 #[a.v, b.v] w (fun e w' => e = .returned (Value.int .i64 (Site.cmp a b)) ∧ Fr No w w') := by
  refine enter_E 29 Try.func51 rfl rfl (by kernel_rfl) (L := [(0, a.v), (1, b.v)]) (by kernel_rfl) ?_
  intro ac hA
  have hW := Ws.start w No
  refine wp_seq ?_
  refine wp_region_lit ?_
  refine st hA (by kernel_rfl) (by kernel_rfl) (by kernel_rfl) (Runs.cells (fun b => Value.pointer (some ⟨b, 0, none⟩)) #[Value.int .i64 a.f, Value.int .i64 a.pc] 38 (fun _ => by kernel_rfl) hW ?_); clear hA ac hW; intro b1 w2 hW hb1 hfw2 ac hA
  refine st hA (by kernel_rfl) (by kernel_rfl) (by kernel_rfl) (Runs.cells (fun b => Value.pointer (some ⟨b, 0, none⟩)) #[Value.int .i64 b.f, Value.int .i64 b.pc] 38 (fun _ => by kernel_rfl) hW ?_); clear hA ac hW; intro b3 w4 hW hb3 hfw4 ac hA
  refine st_rd (v := Value.int .i64 0) hA (by kernel_rfl) (by kernel_rfl) (by kernel_rfl) hW.cls (Rd.pure fun _ => by kernel_rfl) ?_; clear hA ac; intro ac hA
  refine wpList_nil ?_
  refine thenN ?_
  refine wp_seq ?_
  refine wp_block ?_
  refine wp_seq ?_
  refine wp_region_lit ?_
  refine st_rd (v := Value.agg #[Value.int .i64 a.f, Value.int .i64 a.pc]) hA (by kernel_rfl) (by kernel_rfl) (by kernel_rfl) hW.cls (Rd.load (b := b1) (i := 0) (by kernel_rfl) (fun _ hw => (hw.1).cel 1 rfl) (by kernel_rfl)) ?_; clear hA ac; intro ac hA
  refine st_rd (v := Value.agg #[Value.int .i64 b.f, Value.int .i64 b.pc]) hA (by kernel_rfl) (by kernel_rfl) (by kernel_rfl) hW.cls (Rd.load (b := b3) (i := 0) (by kernel_rfl) (fun _ hw => (hw.1).cel 0 rfl) (by kernel_rfl)) ?_; clear hA ac; intro ac hA
  refine st_rd (v := Value.bool (decide (a = b))) hA (by kernel_rfl) (by kernel_rfl) (by kernel_rfl) hW.cls (Rd.eqS (u := a.v) (v := b.v) (by kernel_rfl) (by kernel_rfl) rfl rfl (by kernel_rfl) (fun w => eq_Site w a b)) ?_; clear hA ac; intro ac hA
  refine st_rd (v := Value.bool (decide (a = b))) hA (by kernel_rfl) (by kernel_rfl) (by kernel_rfl) hW.cls (Rd.pure fun _ => by kernel_rfl) ?_; clear hA ac; intro ac hA
  refine wpList_nil ?_
  refine thenN ?_
  refine wp_cond_split (t := decide (a = b)) (hA.eval (by kernel_rfl)) (fun h5 => ?_) (fun h5 => ?_)
  · skip
    have h5 := of_decide_eq_true h5
    have h5e := (Site.eqi _ _).1 h5
    first
    | (exfalso; clear hA hW; omega)
    | (
        refine wp_seq ?_
        refine wp_region_lit ?_
        refine st_rd (v := Value.int .i64 0) hA (by kernel_rfl) (by kernel_rfl) (by kernel_rfl) hW.cls (Rd.pure fun _ => by kernel_rfl) ?_; clear hA ac; intro ac hA
        refine wpList_nil ?_
        refine thenN ?_
        refine wp_ret ?_
        refine blkR ?_
        refine thenR ?_
        refine ret1 (v := Value.int .i64 0) (by rfl) hA (Got.tmp hA (by kernel_rfl) (by kernel_rfl)) ?_
        clear hA
        exact ⟨retv (by first | (simp [Site.cmp, orI, cmpI]; done) | (simp [Site.cmp, orI, cmpI]; omega) | (simp [Site.cmp, orI, cmpI, *]; done) | (simp [Site.cmp, orI, cmpI, *]; omega) | (simp_all [Site.cmp, orI, cmpI]; done) | (simp_all [Site.cmp, orI, cmpI]; omega) | (refine congrArg Value.bool (Bool.eq_iff_iff.2 ?_); simp [Site.cmp, orI, cmpI]; (try simp only [*]); (try simp); omega) | (simp [Site.cmp, orI, cmpI]; repeat' split; all_goals omega)), hW.fr⟩)
  · skip
    have h5 := of_decide_eq_false h5
    have h5e := fun e => h5 ((Site.eqi _ _).2 e)
    first
    | (exfalso; clear hA hW; omega)
    | (
        refine wp_seq ?_
        refine wp_region_lit ?_
        refine st_rd (v := Value.pointer (some ⟨b1, 0, none⟩)) hA (by kernel_rfl) (by kernel_rfl) (by kernel_rfl) hW.cls (Rd.pure fun _ => by kernel_rfl) ?_; clear hA ac; intro ac hA
        refine st_rd (v := Value.int .i64 a.f) hA (by kernel_rfl) (by kernel_rfl) (by kernel_rfl) hW.cls (Rd.load (b := b1) (i := 0) (by kernel_rfl) (fun _ hw => (hw.1).cel 1 rfl) (by kernel_rfl)) ?_; clear hA ac; intro ac hA
        refine st_rd (v := Value.pointer (some ⟨b3, 0, none⟩)) hA (by kernel_rfl) (by kernel_rfl) (by kernel_rfl) hW.cls (Rd.pure fun _ => by kernel_rfl) ?_; clear hA ac; intro ac hA
        refine st_rd (v := Value.int .i64 b.f) hA (by kernel_rfl) (by kernel_rfl) (by kernel_rfl) hW.cls (Rd.load (b := b3) (i := 0) (by kernel_rfl) (fun _ hw => (hw.1).cel 0 rfl) (by kernel_rfl)) ?_; clear hA ac; intro ac hA
        refine st_rd (v := Value.bool (decide ((a.f : Int) < (b.f : Int)))) hA (by kernel_rfl) (by kernel_rfl) (by kernel_rfl) hW.cls (Rd.pure fun _ => by kernel_rfl) ?_; clear hA ac; intro ac hA
        refine st_rd (v := Value.bool (decide ((a.f : Int) < (b.f : Int)))) hA (by kernel_rfl) (by kernel_rfl) (by kernel_rfl) hW.cls (Rd.pure fun _ => by kernel_rfl) ?_; clear hA ac; intro ac hA
        rcases Bool.eq_false_or_eq_true (decide ((a.f : Int) < (b.f : Int))) with h6 | h6
        · skip
          rw [h6] at hA
          have h6 := of_decide_eq_true h6
          first
          | (exfalso; clear hA hW; omega)
          | (
              refine st_skip hA (by kernel_rfl) (by kernel_rfl) ?_; clear hA ac; intro ac hA
              refine st_skip hA (by kernel_rfl) (by kernel_rfl) ?_; clear hA ac; intro ac hA
              refine st_skip hA (by kernel_rfl) (by kernel_rfl) ?_; clear hA ac; intro ac hA
              refine st_skip hA (by kernel_rfl) (by kernel_rfl) ?_; clear hA ac; intro ac hA
              refine st_skip hA (by kernel_rfl) (by kernel_rfl) ?_; clear hA ac; intro ac hA
              refine st_skip hA (by kernel_rfl) (by kernel_rfl) ?_; clear hA ac; intro ac hA
              refine st_skip hA (by kernel_rfl) (by kernel_rfl) ?_; clear hA ac; intro ac hA
              refine st_skip hA (by kernel_rfl) (by kernel_rfl) ?_; clear hA ac; intro ac hA
              refine st_skip hA (by kernel_rfl) (by kernel_rfl) ?_; clear hA ac; intro ac hA
              refine st_skip hA (by kernel_rfl) (by kernel_rfl) ?_; clear hA ac; intro ac hA
              refine st_skip hA (by kernel_rfl) (by kernel_rfl) ?_; clear hA ac; intro ac hA
              refine st_skip hA (by kernel_rfl) (by kernel_rfl) ?_; clear hA ac; intro ac hA
              refine st_rd (v := Value.bool true) hA (by kernel_rfl) (by kernel_rfl) (by kernel_rfl) hW.cls (Rd.pure fun _ => by kernel_rfl) ?_; clear hA ac; intro ac hA
              refine st_rd (v := Value.bool true) hA (by kernel_rfl) (by kernel_rfl) (by kernel_rfl) hW.cls (Rd.pure fun _ => by kernel_rfl) ?_; clear hA ac; intro ac hA
              refine wpList_nil ?_
              refine thenN ?_
              refine wp_cond_true (hA.eval (by kernel_rfl)) ?_
              refine wp_seq ?_
              refine wp_region_lit ?_
              refine st_rd (v := Value.int .i64 (-1)) hA (by kernel_rfl) (by kernel_rfl) (by kernel_rfl) hW.cls (Rd.pure fun _ => by kernel_rfl) ?_; clear hA ac; intro ac hA
              refine wpList_nil ?_
              refine thenN ?_
              refine wp_ret ?_
              refine blkR ?_
              refine thenR ?_
              refine ret1 (v := Value.int .i64 (-1)) (by rfl) hA (Got.tmp hA (by kernel_rfl) (by kernel_rfl)) ?_
              clear hA
              exact ⟨retv (by first | (simp [Site.cmp, orI, cmpI]; done) | (simp [Site.cmp, orI, cmpI]; omega) | (simp [Site.cmp, orI, cmpI, *]; done) | (simp [Site.cmp, orI, cmpI, *]; omega) | (simp_all [Site.cmp, orI, cmpI]; done) | (simp_all [Site.cmp, orI, cmpI]; omega) | (refine congrArg Value.bool (Bool.eq_iff_iff.2 ?_); simp [Site.cmp, orI, cmpI]; (try simp only [*]); (try simp); omega) | (simp [Site.cmp, orI, cmpI]; repeat' split; all_goals omega)), hW.fr⟩)
        · skip
          rw [h6] at hA
          have h6 := of_decide_eq_false h6
          first
          | (exfalso; clear hA hW; omega)
          | (
              refine st_rd (v := Value.pointer (some ⟨b1, 0, none⟩)) hA (by kernel_rfl) (by kernel_rfl) (by kernel_rfl) hW.cls (Rd.pure fun _ => by kernel_rfl) ?_; clear hA ac; intro ac hA
              refine st_rd (v := Value.int .i64 a.f) hA (by kernel_rfl) (by kernel_rfl) (by kernel_rfl) hW.cls (Rd.load (b := b1) (i := 0) (by kernel_rfl) (fun _ hw => (hw.1).cel 1 rfl) (by kernel_rfl)) ?_; clear hA ac; intro ac hA
              refine st_rd (v := Value.pointer (some ⟨b3, 0, none⟩)) hA (by kernel_rfl) (by kernel_rfl) (by kernel_rfl) hW.cls (Rd.pure fun _ => by kernel_rfl) ?_; clear hA ac; intro ac hA
              refine st_rd (v := Value.int .i64 b.f) hA (by kernel_rfl) (by kernel_rfl) (by kernel_rfl) hW.cls (Rd.load (b := b3) (i := 0) (by kernel_rfl) (fun _ hw => (hw.1).cel 0 rfl) (by kernel_rfl)) ?_; clear hA ac; intro ac hA
              refine st_rd (v := Value.bool ((a.f : Int) == (b.f : Int))) hA (by kernel_rfl) (by kernel_rfl) (by kernel_rfl) hW.cls (Rd.pure fun _ => by kernel_rfl) ?_; clear hA ac; intro ac hA
              refine st_rd (v := Value.bool ((a.f : Int) == (b.f : Int))) hA (by kernel_rfl) (by kernel_rfl) (by kernel_rfl) hW.cls (Rd.pure fun _ => by kernel_rfl) ?_; clear hA ac; intro ac hA
              rcases Bool.eq_false_or_eq_true ((a.f : Int) == (b.f : Int)) with h7 | h7
              · skip
                rw [h7] at hA
                have h7 := eq_of_beq h7
                first
                | (exfalso; clear hA hW; omega)
                | (
                    refine st_rd (v := Value.pointer (some ⟨b1, 1, none⟩)) hA (by kernel_rfl) (by kernel_rfl) (by kernel_rfl) hW.cls (Rd.pure fun _ => by kernel_rfl) ?_; clear hA ac; intro ac hA
                    refine st_rd (v := Value.int .i64 a.pc) hA (by kernel_rfl) (by kernel_rfl) (by kernel_rfl) hW.cls (Rd.load (b := b1) (i := 1) (by kernel_rfl) (fun _ hw => (hw.1).cel 1 rfl) (by kernel_rfl)) ?_; clear hA ac; intro ac hA
                    refine st_rd (v := Value.pointer (some ⟨b3, 1, none⟩)) hA (by kernel_rfl) (by kernel_rfl) (by kernel_rfl) hW.cls (Rd.pure fun _ => by kernel_rfl) ?_; clear hA ac; intro ac hA
                    refine st_rd (v := Value.int .i64 b.pc) hA (by kernel_rfl) (by kernel_rfl) (by kernel_rfl) hW.cls (Rd.load (b := b3) (i := 1) (by kernel_rfl) (fun _ hw => (hw.1).cel 0 rfl) (by kernel_rfl)) ?_; clear hA ac; intro ac hA
                    refine st_rd (v := Value.bool (decide ((a.pc : Int) < (b.pc : Int)))) hA (by kernel_rfl) (by kernel_rfl) (by kernel_rfl) hW.cls (Rd.pure fun _ => by kernel_rfl) ?_; clear hA ac; intro ac hA
                    refine st_rd (v := Value.bool (decide ((a.pc : Int) < (b.pc : Int)))) hA (by kernel_rfl) (by kernel_rfl) (by kernel_rfl) hW.cls (Rd.pure fun _ => by kernel_rfl) ?_; clear hA ac; intro ac hA
                    refine st_rd (v := Value.bool (decide ((a.pc : Int) < (b.pc : Int)))) hA (by kernel_rfl) (by kernel_rfl) (by kernel_rfl) hW.cls (Rd.pure fun _ => by kernel_rfl) ?_; clear hA ac; intro ac hA
                    refine st_rd (v := Value.bool (decide ((a.pc : Int) < (b.pc : Int)))) hA (by kernel_rfl) (by kernel_rfl) (by kernel_rfl) hW.cls (Rd.pure fun _ => by kernel_rfl) ?_; clear hA ac; intro ac hA
                    refine wpList_nil ?_
                    refine thenN ?_
                    refine wp_cond_split (t := decide ((a.pc : Int) < (b.pc : Int))) (hA.eval (by kernel_rfl)) (fun h8 => ?_) (fun h8 => ?_)
                    · skip
                      have h8 := of_decide_eq_true h8
                      first
                      | (exfalso; clear hA hW; omega)
                      | (
                          refine wp_seq ?_
                          refine wp_region_lit ?_
                          refine st_rd (v := Value.int .i64 (-1)) hA (by kernel_rfl) (by kernel_rfl) (by kernel_rfl) hW.cls (Rd.pure fun _ => by kernel_rfl) ?_; clear hA ac; intro ac hA
                          refine wpList_nil ?_
                          refine thenN ?_
                          refine wp_ret ?_
                          refine blkR ?_
                          refine thenR ?_
                          refine ret1 (v := Value.int .i64 (-1)) (by rfl) hA (Got.tmp hA (by kernel_rfl) (by kernel_rfl)) ?_
                          clear hA
                          exact ⟨retv (by first | (simp [Site.cmp, orI, cmpI]; done) | (simp [Site.cmp, orI, cmpI]; omega) | (simp [Site.cmp, orI, cmpI, *]; done) | (simp [Site.cmp, orI, cmpI, *]; omega) | (simp_all [Site.cmp, orI, cmpI]; done) | (simp_all [Site.cmp, orI, cmpI]; omega) | (refine congrArg Value.bool (Bool.eq_iff_iff.2 ?_); simp [Site.cmp, orI, cmpI]; (try simp only [*]); (try simp); omega) | (simp [Site.cmp, orI, cmpI]; repeat' split; all_goals omega)), hW.fr⟩)
                    · skip
                      have h8 := of_decide_eq_false h8
                      first
                      | (exfalso; clear hA hW; omega)
                      | (
                          refine wp_skip ?_
                          refine blkN ?_
                          refine thenN ?_
                          refine wp_seq ?_
                          refine wp_region_lit ?_
                          refine st_rd (v := Value.int .i64 1) hA (by kernel_rfl) (by kernel_rfl) (by kernel_rfl) hW.cls (Rd.pure fun _ => by kernel_rfl) ?_; clear hA ac; intro ac hA
                          refine wpList_nil ?_
                          refine thenN ?_
                          refine wp_ret ?_
                          refine ret1 (v := Value.int .i64 1) (by rfl) hA (Got.tmp hA (by kernel_rfl) (by kernel_rfl)) ?_
                          clear hA
                          exact ⟨retv (by first | (simp [Site.cmp, orI, cmpI]; done) | (simp [Site.cmp, orI, cmpI]; omega) | (simp [Site.cmp, orI, cmpI, *]; done) | (simp [Site.cmp, orI, cmpI, *]; omega) | (simp_all [Site.cmp, orI, cmpI]; done) | (simp_all [Site.cmp, orI, cmpI]; omega) | (refine congrArg Value.bool (Bool.eq_iff_iff.2 ?_); simp [Site.cmp, orI, cmpI]; (try simp only [*]); (try simp); omega) | (simp [Site.cmp, orI, cmpI]; repeat' split; all_goals omega)), hW.fr⟩))
              · skip
                rw [h7] at hA
                have h7 := ne_of_beq_false h7
                first
                | (exfalso; clear hA hW; omega)
                | (
                    refine st_skip hA (by kernel_rfl) (by kernel_rfl) ?_; clear hA ac; intro ac hA
                    refine st_skip hA (by kernel_rfl) (by kernel_rfl) ?_; clear hA ac; intro ac hA
                    refine st_skip hA (by kernel_rfl) (by kernel_rfl) ?_; clear hA ac; intro ac hA
                    refine st_skip hA (by kernel_rfl) (by kernel_rfl) ?_; clear hA ac; intro ac hA
                    refine st_skip hA (by kernel_rfl) (by kernel_rfl) ?_; clear hA ac; intro ac hA
                    refine st_rd (v := Value.bool false) hA (by kernel_rfl) (by kernel_rfl) (by kernel_rfl) hW.cls (Rd.pure fun _ => by kernel_rfl) ?_; clear hA ac; intro ac hA
                    refine st_rd (v := Value.bool false) hA (by kernel_rfl) (by kernel_rfl) (by kernel_rfl) hW.cls (Rd.pure fun _ => by kernel_rfl) ?_; clear hA ac; intro ac hA
                    refine st_rd (v := Value.bool false) hA (by kernel_rfl) (by kernel_rfl) (by kernel_rfl) hW.cls (Rd.pure fun _ => by kernel_rfl) ?_; clear hA ac; intro ac hA
                    refine wpList_nil ?_
                    refine thenN ?_
                    refine wp_cond_false (hA.eval (by kernel_rfl)) ?_
                    refine wp_skip ?_
                    refine blkN ?_
                    refine thenN ?_
                    refine wp_seq ?_
                    refine wp_region_lit ?_
                    refine st_rd (v := Value.int .i64 1) hA (by kernel_rfl) (by kernel_rfl) (by kernel_rfl) hW.cls (Rd.pure fun _ => by kernel_rfl) ?_; clear hA ac; intro ac hA
                    refine wpList_nil ?_
                    refine thenN ?_
                    refine wp_ret ?_
                    refine ret1 (v := Value.int .i64 1) (by rfl) hA (Got.tmp hA (by kernel_rfl) (by kernel_rfl)) ?_
                    clear hA
                    exact ⟨retv (by first | (simp [Site.cmp, orI, cmpI]; done) | (simp [Site.cmp, orI, cmpI]; omega) | (simp [Site.cmp, orI, cmpI, *]; done) | (simp [Site.cmp, orI, cmpI, *]; omega) | (simp_all [Site.cmp, orI, cmpI]; done) | (simp_all [Site.cmp, orI, cmpI]; omega) | (refine congrArg Value.bool (Bool.eq_iff_iff.2 ?_); simp [Site.cmp, orI, cmpI]; (try simp only [*]); (try simp); omega) | (simp [Site.cmp, orI, cmpI]; repeat' split; all_goals omega)), hW.fr⟩)))

set_option maxRecDepth 100000 in
theorem e_of07 (a : Site) (b : Site) (w : World)  : Calls Try.prog 37 #[a.v, b.v] w (fun e w' => e = .returned ((Pair.of a b).v) ∧ Fr No w w') := by
  refine enter_E 15 Try.func37 rfl rfl (by kernel_rfl) (L := [(0, a.v), (1, b.v)]) (by kernel_rfl) ?_
  intro ac hA
  have hW := Ws.start w No
  refine wp_seq ?_
  refine wp_region_lit ?_
  refine st hA (by kernel_rfl) (by kernel_rfl) (by kernel_rfl) (Runs.cells (fun b => Value.pointer (some ⟨b, 0, none⟩)) #[Value.int .i64 a.f, Value.int .i64 a.pc] 38 (fun _ => by kernel_rfl) hW ?_); clear hA ac hW; intro b1 w2 hW hb1 hfw2 ac hA
  refine st hA (by kernel_rfl) (by kernel_rfl) (by kernel_rfl) (Runs.cells (fun b => Value.pointer (some ⟨b, 0, none⟩)) #[Value.int .i64 b.f, Value.int .i64 b.pc] 38 (fun _ => by kernel_rfl) hW ?_); clear hA ac hW; intro b3 w4 hW hb3 hfw4 ac hA
  refine st hA (by kernel_rfl) (by kernel_rfl) (by kernel_rfl) (Runs.cells (fun b => Value.pointer (some ⟨b, 0, none⟩)) #[Value.int .i64 0, Value.int .i64 0, Value.int .i64 0, Value.int .i64 0] 54 (fun _ => by kernel_rfl) hW ?_); clear hA ac hW; intro b5 w6 hW hb5 hfw6 ac hA
  refine wpList_nil ?_
  refine thenN ?_
  refine wp_seq ?_
  refine wp_seq ?_
  refine wp_region_lit ?_
  refine st_rd (v := Value.agg #[Value.int .i64 a.f, Value.int .i64 a.pc]) hA (by kernel_rfl) (by kernel_rfl) (by kernel_rfl) hW.cls (Rd.load (b := b1) (i := 0) (by kernel_rfl) (fun _ hw => (hw.1).cel 2 rfl) (by kernel_rfl)) ?_; clear hA ac; intro ac hA
  refine st_rd (v := Value.agg #[Value.int .i64 b.f, Value.int .i64 b.pc]) hA (by kernel_rfl) (by kernel_rfl) (by kernel_rfl) hW.cls (Rd.load (b := b3) (i := 0) (by kernel_rfl) (fun _ hw => (hw.1).cel 1 rfl) (by kernel_rfl)) ?_; clear hA ac; intro ac hA
  refine st hA (by kernel_rfl) (by kernel_rfl) (by kernel_rfl) (Runs.callN (v := Value.int .i64 (Site.cmp a b)) (fun _ => by kernel_rfl) hW (e_order07 a b w6) ?_); clear hA ac hW; intro w7 hW hfw7 ac hA
  refine st_rd (v := Value.bool (decide ((Site.cmp a b : Int) > (0 : Int)))) hA (by kernel_rfl) (by kernel_rfl) (by kernel_rfl) hW.cls (Rd.pure fun _ => by kernel_rfl) ?_; clear hA ac; intro ac hA
  refine wpList_nil ?_
  refine thenN ?_
  refine wp_cond_split (t := decide ((Site.cmp a b : Int) > (0 : Int))) (hA.eval (by kernel_rfl)) (fun h8 => ?_) (fun h8 => ?_)
  · skip
    have h8 := of_decide_eq_true h8
    first
    | (exfalso; clear hA hW; omega)
    | (
        refine wp_seq ?_
        refine wp_region_lit ?_
        refine st_rd (v := Value.agg #[Value.int .i64 b.f, Value.int .i64 b.pc]) hA (by kernel_rfl) (by kernel_rfl) (by kernel_rfl) hW.cls (Rd.load (b := b3) (i := 0) (by kernel_rfl) (fun _ hw => (hw.1).cel 1 rfl) (by kernel_rfl)) ?_; clear hA ac; intro ac hA
        refine st_rd (v := Value.agg #[Value.int .i64 a.f, Value.int .i64 a.pc]) hA (by kernel_rfl) (by kernel_rfl) (by kernel_rfl) hW.cls (Rd.load (b := b1) (i := 0) (by kernel_rfl) (fun _ hw => (hw.1).cel 2 rfl) (by kernel_rfl)) ?_; clear hA ac; intro ac hA
        refine st_rd (v := Value.agg #[Value.int .i64 b.f, Value.int .i64 b.pc, Value.int .i64 a.f, Value.int .i64 a.pc]) hA (by kernel_rfl) (by kernel_rfl) (by kernel_rfl) hW.cls (Rd.pure fun _ => by kernel_rfl) ?_; clear hA ac; intro ac hA
        refine st hA (by kernel_rfl) (by kernel_rfl) (by kernel_rfl) (Runs.store (v := Value.agg #[Value.int .i64 b.f, Value.int .i64 b.pc, Value.int .i64 a.f, Value.int .i64 a.pc]) (b := b5) (j := 0) (n := 4) (cs' := #[Value.int .i64 b.f, Value.int .i64 b.pc, Value.int .i64 a.f, Value.int .i64 a.pc]) (H' := [Cel b5 #[Value.int .i64 b.f, Value.int .i64 b.pc, Value.int .i64 a.f, Value.int .i64 a.pc] 54, Cel b3 #[Value.int .i64 b.f, Value.int .i64 b.pc] 38, Cel b1 #[Value.int .i64 a.f, Value.int .i64 a.pc] 38]) (by kernel_rfl) (by kernel_rfl) (by kernel_rfl) (by kernel_rfl) (by kernel_rfl) hW 0 (by rfl) (Nat.le_of_ble_eq_true (by kernel_rfl)) (by kernel_rfl) (by rfl) ?_); clear hA ac hW; intro w9 hW ac hA
        refine wpList_nil ?_
        refine thenN ?_
        refine wp_ret ?_
        refine thenR ?_
        refine ret1 (v := Value.agg #[Value.int .i64 b.f, Value.int .i64 b.pc, Value.int .i64 a.f, Value.int .i64 a.pc]) (by rfl) hA (Got.cell (b := b5) (i := 0) hA (by kernel_rfl) (by kernel_rfl) (hW.cel 0 rfl) (by kernel_rfl)) ?_
        clear hA
        exact ⟨retv (by simp [Pair.of, Pair.v, *]; try omega), hW.fr⟩)
  · skip
    have h8 := of_decide_eq_false h8
    first
    | (exfalso; clear hA hW; omega)
    | (
        refine wp_skip ?_
        refine thenN ?_
        refine wp_seq ?_
        refine wp_region_lit ?_
        refine st_rd (v := Value.agg #[Value.int .i64 a.f, Value.int .i64 a.pc]) hA (by kernel_rfl) (by kernel_rfl) (by kernel_rfl) hW.cls (Rd.load (b := b1) (i := 0) (by kernel_rfl) (fun _ hw => (hw.1).cel 2 rfl) (by kernel_rfl)) ?_; clear hA ac; intro ac hA
        refine st_rd (v := Value.agg #[Value.int .i64 b.f, Value.int .i64 b.pc]) hA (by kernel_rfl) (by kernel_rfl) (by kernel_rfl) hW.cls (Rd.load (b := b3) (i := 0) (by kernel_rfl) (fun _ hw => (hw.1).cel 1 rfl) (by kernel_rfl)) ?_; clear hA ac; intro ac hA
        refine st_rd (v := Value.agg #[Value.int .i64 a.f, Value.int .i64 a.pc, Value.int .i64 b.f, Value.int .i64 b.pc]) hA (by kernel_rfl) (by kernel_rfl) (by kernel_rfl) hW.cls (Rd.pure fun _ => by kernel_rfl) ?_; clear hA ac; intro ac hA
        refine st hA (by kernel_rfl) (by kernel_rfl) (by kernel_rfl) (Runs.store (v := Value.agg #[Value.int .i64 a.f, Value.int .i64 a.pc, Value.int .i64 b.f, Value.int .i64 b.pc]) (b := b5) (j := 0) (n := 4) (cs' := #[Value.int .i64 a.f, Value.int .i64 a.pc, Value.int .i64 b.f, Value.int .i64 b.pc]) (H' := [Cel b5 #[Value.int .i64 a.f, Value.int .i64 a.pc, Value.int .i64 b.f, Value.int .i64 b.pc] 54, Cel b3 #[Value.int .i64 b.f, Value.int .i64 b.pc] 38, Cel b1 #[Value.int .i64 a.f, Value.int .i64 a.pc] 38]) (by kernel_rfl) (by kernel_rfl) (by kernel_rfl) (by kernel_rfl) (by kernel_rfl) hW 0 (by rfl) (Nat.le_of_ble_eq_true (by kernel_rfl)) (by kernel_rfl) (by rfl) ?_); clear hA ac hW; intro w10 hW ac hA
        refine wpList_nil ?_
        refine thenN ?_
        refine wp_ret ?_
        refine ret1 (v := Value.agg #[Value.int .i64 a.f, Value.int .i64 a.pc, Value.int .i64 b.f, Value.int .i64 b.pc]) (by rfl) hA (Got.cell (b := b5) (i := 0) hA (by kernel_rfl) (by kernel_rfl) (hW.cel 0 rfl) (by kernel_rfl)) ?_
        clear hA
        exact ⟨retv (by simp [Pair.of, Pair.v, *]; try omega), hW.fr⟩)

set_option maxRecDepth 100000 in
theorem e_access27 (a : Acc) (w : World)  : Calls Try.prog 26 #[a.v] w (fun e w' => e = .returned (Value.bool (Acc.ok a)) ∧ Fr No w w') := by
  refine enter_E 26 Try.func26 rfl rfl (by kernel_rfl) (L := [(0, a.v)]) (by kernel_rfl) ?_
  intro ac hA
  have hW := Ws.start w No
  refine wp_seq ?_
  refine wp_region_lit ?_
  refine st hA (by kernel_rfl) (by kernel_rfl) (by kernel_rfl) (Runs.cells (fun b => Value.pointer (some ⟨b, 0, none⟩)) #[Value.int .i64 a.g, Value.int .i64 a.s.f, Value.int .i64 a.s.pc, Value.int .i64 a.k] 41 (fun _ => by kernel_rfl) hW ?_); clear hA ac hW; intro b1 w2 hW hb1 hfw2 ac hA
  refine st_rd (v := Value.bool false) hA (by kernel_rfl) (by kernel_rfl) (by kernel_rfl) hW.cls (Rd.pure fun _ => by kernel_rfl) ?_; clear hA ac; intro ac hA
  refine wpList_nil ?_
  refine thenN ?_
  refine wp_seq ?_
  refine wp_region_lit ?_
  refine st_rd (v := Value.pointer (some ⟨b1, 0, none⟩)) hA (by kernel_rfl) (by kernel_rfl) (by kernel_rfl) hW.cls (Rd.pure fun _ => by kernel_rfl) ?_; clear hA ac; intro ac hA
  refine st_rd (v := Value.int .i64 a.g) hA (by kernel_rfl) (by kernel_rfl) (by kernel_rfl) hW.cls (Rd.load (b := b1) (i := 0) (by kernel_rfl) (fun _ hw => (hw.1).cel 0 rfl) (by kernel_rfl)) ?_; clear hA ac; intro ac hA
  refine st_rd (v := Value.bool (decide ((a.g : Int) ≥ (0 : Int)))) hA (by kernel_rfl) (by kernel_rfl) (by kernel_rfl) hW.cls (Rd.pure fun _ => by kernel_rfl) ?_; clear hA ac; intro ac hA
  refine st_rd (v := Value.bool (decide ((a.g : Int) ≥ (0 : Int)))) hA (by kernel_rfl) (by kernel_rfl) (by kernel_rfl) hW.cls (Rd.pure fun _ => by kernel_rfl) ?_; clear hA ac; intro ac hA
  rcases Bool.eq_false_or_eq_true (decide ((a.g : Int) ≥ (0 : Int))) with h3 | h3
  · skip
    rw [h3] at hA
    have h3 := of_decide_eq_true h3
    first
    | (exfalso; clear hA hW; omega)
    | (
        refine st_rd (v := Value.pointer (some ⟨b1, 0, none⟩)) hA (by kernel_rfl) (by kernel_rfl) (by kernel_rfl) hW.cls (Rd.pure fun _ => by kernel_rfl) ?_; clear hA ac; intro ac hA
        refine st_rd (v := Value.int .i64 a.g) hA (by kernel_rfl) (by kernel_rfl) (by kernel_rfl) hW.cls (Rd.load (b := b1) (i := 0) (by kernel_rfl) (fun _ hw => (hw.1).cel 0 rfl) (by kernel_rfl)) ?_; clear hA ac; intro ac hA
        refine st_rd (v := Value.bool (decide ((a.g : Int) ≤ (65535 : Int)))) hA (by kernel_rfl) (by kernel_rfl) (by kernel_rfl) hW.cls (Rd.pure fun _ => by kernel_rfl) ?_; clear hA ac; intro ac hA
        refine st_rd (v := Value.bool (decide ((a.g : Int) ≤ (65535 : Int)))) hA (by kernel_rfl) (by kernel_rfl) (by kernel_rfl) hW.cls (Rd.pure fun _ => by kernel_rfl) ?_; clear hA ac; intro ac hA
        refine st_rd (v := Value.bool (decide ((a.g : Int) ≤ (65535 : Int)))) hA (by kernel_rfl) (by kernel_rfl) (by kernel_rfl) hW.cls (Rd.pure fun _ => by kernel_rfl) ?_; clear hA ac; intro ac hA
        rcases Bool.eq_false_or_eq_true (decide ((a.g : Int) ≤ (65535 : Int))) with h4 | h4
        · skip
          rw [h4] at hA
          have h4 := of_decide_eq_true h4
          first
          | (exfalso; clear hA hW; omega)
          | (
              refine st_rd (v := Value.pointer (some ⟨b1, 1, none⟩)) hA (by kernel_rfl) (by kernel_rfl) (by kernel_rfl) hW.cls (Rd.pure fun _ => by kernel_rfl) ?_; clear hA ac; intro ac hA
              refine st_rd (v := Value.agg #[Value.int .i64 a.s.f, Value.int .i64 a.s.pc]) hA (by kernel_rfl) (by kernel_rfl) (by kernel_rfl) hW.cls (Rd.load (b := b1) (i := 1) (by kernel_rfl) (fun _ hw => (hw.1).cel 0 rfl) (by kernel_rfl)) ?_; clear hA ac; intro ac hA
              refine st hA (by kernel_rfl) (by kernel_rfl) (by kernel_rfl) (Runs.callN (v := Value.bool (Site.ok a.s)) (fun _ => by kernel_rfl) hW (e_siRight a.s w2) ?_); clear hA ac hW; intro w5 hW hfw5 ac hA
              refine st_rd (v := Value.bool (Site.ok a.s)) hA (by kernel_rfl) (by kernel_rfl) (by kernel_rfl) hW.cls (Rd.pure fun _ => by kernel_rfl) ?_; clear hA ac; intro ac hA
              refine st_rd (v := Value.bool (Site.ok a.s)) hA (by kernel_rfl) (by kernel_rfl) (by kernel_rfl) hW.cls (Rd.pure fun _ => by kernel_rfl) ?_; clear hA ac; intro ac hA
              rcases Bool.eq_false_or_eq_true (Site.ok a.s) with h6 | h6
              · skip
                rw [h6] at hA
                first
                | (exfalso; clear hA hW; omega)
                | (
                    refine st_rd (v := Value.pointer (some ⟨b1, 3, none⟩)) hA (by kernel_rfl) (by kernel_rfl) (by kernel_rfl) hW.cls (Rd.pure fun _ => by kernel_rfl) ?_; clear hA ac; intro ac hA
                    refine st_rd (v := Value.int .i64 a.k) hA (by kernel_rfl) (by kernel_rfl) (by kernel_rfl) hW.cls (Rd.load (b := b1) (i := 3) (by kernel_rfl) (fun _ hw => (hw.1).cel 0 rfl) (by kernel_rfl)) ?_; clear hA ac; intro ac hA
                    refine st_rd (v := Value.bool ((a.k : Int) == (2 : Int))) hA (by kernel_rfl) (by kernel_rfl) (by kernel_rfl) hW.cls (Rd.pure fun _ => by kernel_rfl) ?_; clear hA ac; intro ac hA
                    refine st_rd (v := Value.bool ((a.k : Int) == (2 : Int))) hA (by kernel_rfl) (by kernel_rfl) (by kernel_rfl) hW.cls (Rd.pure fun _ => by kernel_rfl) ?_; clear hA ac; intro ac hA
                    rcases Bool.eq_false_or_eq_true ((a.k : Int) == (2 : Int)) with h7 | h7
                    · skip
                      rw [h7] at hA
                      have h7 := eq_of_beq h7
                      first
                      | (exfalso; clear hA hW; omega)
                      | (
                          refine st_skip hA (by kernel_rfl) (by kernel_rfl) ?_; clear hA ac; intro ac hA
                          refine st_skip hA (by kernel_rfl) (by kernel_rfl) ?_; clear hA ac; intro ac hA
                          refine st_skip hA (by kernel_rfl) (by kernel_rfl) ?_; clear hA ac; intro ac hA
                          refine st_rd (v := Value.bool true) hA (by kernel_rfl) (by kernel_rfl) (by kernel_rfl) hW.cls (Rd.pure fun _ => by kernel_rfl) ?_; clear hA ac; intro ac hA
                          refine st_rd (v := Value.bool true) hA (by kernel_rfl) (by kernel_rfl) (by kernel_rfl) hW.cls (Rd.pure fun _ => by kernel_rfl) ?_; clear hA ac; intro ac hA
                          refine st_rd (v := Value.bool true) hA (by kernel_rfl) (by kernel_rfl) (by kernel_rfl) hW.cls (Rd.pure fun _ => by kernel_rfl) ?_; clear hA ac; intro ac hA
                          refine wpList_nil ?_
                          refine thenN ?_
                          refine wp_ret ?_
                          refine ret1 (v := Value.bool true) (by rfl) hA (Got.tmp hA (by kernel_rfl) (by kernel_rfl)) ?_
                          clear hA
                          exact ⟨retv (by first | (simp [Acc.ok]; done) | (simp [Acc.ok]; omega) | (simp [Acc.ok, *]; done) | (simp [Acc.ok, *]; omega) | (simp_all [Acc.ok]; done) | (simp_all [Acc.ok]; omega) | (refine congrArg Value.bool (Bool.eq_iff_iff.2 ?_); simp [Acc.ok]; (try simp only [*]); (try simp); omega) | (simp [Acc.ok]; repeat' split; all_goals omega)), hW.fr⟩)
                    · skip
                      rw [h7] at hA
                      have h7 := ne_of_beq_false h7
                      first
                      | (exfalso; clear hA hW; omega)
                      | (
                          refine st_rd (v := Value.pointer (some ⟨b1, 3, none⟩)) hA (by kernel_rfl) (by kernel_rfl) (by kernel_rfl) hW.cls (Rd.pure fun _ => by kernel_rfl) ?_; clear hA ac; intro ac hA
                          refine st_rd (v := Value.int .i64 a.k) hA (by kernel_rfl) (by kernel_rfl) (by kernel_rfl) hW.cls (Rd.load (b := b1) (i := 3) (by kernel_rfl) (fun _ hw => (hw.1).cel 0 rfl) (by kernel_rfl)) ?_; clear hA ac; intro ac hA
                          refine st_rd (v := Value.bool ((a.k : Int) == (3 : Int))) hA (by kernel_rfl) (by kernel_rfl) (by kernel_rfl) hW.cls (Rd.pure fun _ => by kernel_rfl) ?_; clear hA ac; intro ac hA
                          refine st_rd (v := Value.bool ((a.k : Int) == (3 : Int))) hA (by kernel_rfl) (by kernel_rfl) (by kernel_rfl) hW.cls (Rd.pure fun _ => by kernel_rfl) ?_; clear hA ac; intro ac hA
                          refine st_rd (v := Value.bool ((a.k : Int) == (3 : Int))) hA (by kernel_rfl) (by kernel_rfl) (by kernel_rfl) hW.cls (Rd.pure fun _ => by kernel_rfl) ?_; clear hA ac; intro ac hA
                          refine st_rd (v := Value.bool ((a.k : Int) == (3 : Int))) hA (by kernel_rfl) (by kernel_rfl) (by kernel_rfl) hW.cls (Rd.pure fun _ => by kernel_rfl) ?_; clear hA ac; intro ac hA
                          refine wpList_nil ?_
                          refine thenN ?_
                          refine wp_ret ?_
                          refine ret1 (v := Value.bool ((a.k : Int) == (3 : Int))) (by rfl) hA (Got.tmp hA (by kernel_rfl) (by kernel_rfl)) ?_
                          clear hA
                          exact ⟨retv (by first | (simp [Acc.ok]; done) | (simp [Acc.ok]; omega) | (simp [Acc.ok, *]; done) | (simp [Acc.ok, *]; omega) | (simp_all [Acc.ok]; done) | (simp_all [Acc.ok]; omega) | (refine congrArg Value.bool (Bool.eq_iff_iff.2 ?_); simp [Acc.ok]; (try simp only [*]); (try simp); omega) | (simp [Acc.ok]; repeat' split; all_goals omega)), hW.fr⟩))
              · skip
                rw [h6] at hA
                first
                | (exfalso; clear hA hW; omega)
                | (
                    refine st_skip hA (by kernel_rfl) (by kernel_rfl) ?_; clear hA ac; intro ac hA
                    refine st_skip hA (by kernel_rfl) (by kernel_rfl) ?_; clear hA ac; intro ac hA
                    refine st_skip hA (by kernel_rfl) (by kernel_rfl) ?_; clear hA ac; intro ac hA
                    refine st_skip hA (by kernel_rfl) (by kernel_rfl) ?_; clear hA ac; intro ac hA
                    refine st_skip hA (by kernel_rfl) (by kernel_rfl) ?_; clear hA ac; intro ac hA
                    refine st_skip hA (by kernel_rfl) (by kernel_rfl) ?_; clear hA ac; intro ac hA
                    refine st_skip hA (by kernel_rfl) (by kernel_rfl) ?_; clear hA ac; intro ac hA
                    refine st_skip hA (by kernel_rfl) (by kernel_rfl) ?_; clear hA ac; intro ac hA
                    refine st_rd (v := Value.bool false) hA (by kernel_rfl) (by kernel_rfl) (by kernel_rfl) hW.cls (Rd.pure fun _ => by kernel_rfl) ?_; clear hA ac; intro ac hA
                    refine st_rd (v := Value.bool false) hA (by kernel_rfl) (by kernel_rfl) (by kernel_rfl) hW.cls (Rd.pure fun _ => by kernel_rfl) ?_; clear hA ac; intro ac hA
                    refine wpList_nil ?_
                    refine thenN ?_
                    refine wp_ret ?_
                    refine ret1 (v := Value.bool false) (by rfl) hA (Got.tmp hA (by kernel_rfl) (by kernel_rfl)) ?_
                    clear hA
                    exact ⟨retv (by first | (simp [Acc.ok]; done) | (simp [Acc.ok]; omega) | (simp [Acc.ok, *]; done) | (simp [Acc.ok, *]; omega) | (simp_all [Acc.ok]; done) | (simp_all [Acc.ok]; omega) | (refine congrArg Value.bool (Bool.eq_iff_iff.2 ?_); simp [Acc.ok]; (try simp only [*]); (try simp); omega) | (simp [Acc.ok]; repeat' split; all_goals omega)), hW.fr⟩))
        · skip
          rw [h4] at hA
          have h4 := of_decide_eq_false h4
          first
          | (exfalso; clear hA hW; omega)
          | (
              refine st_skip hA (by kernel_rfl) (by kernel_rfl) ?_; clear hA ac; intro ac hA
              refine st_skip hA (by kernel_rfl) (by kernel_rfl) ?_; clear hA ac; intro ac hA
              refine st_skip hA (by kernel_rfl) (by kernel_rfl) ?_; clear hA ac; intro ac hA
              refine st_rd (v := Value.bool false) hA (by kernel_rfl) (by kernel_rfl) (by kernel_rfl) hW.cls (Rd.pure fun _ => by kernel_rfl) ?_; clear hA ac; intro ac hA
              refine st_rd (v := Value.bool false) hA (by kernel_rfl) (by kernel_rfl) (by kernel_rfl) hW.cls (Rd.pure fun _ => by kernel_rfl) ?_; clear hA ac; intro ac hA
              refine st_skip hA (by kernel_rfl) (by kernel_rfl) ?_; clear hA ac; intro ac hA
              refine st_skip hA (by kernel_rfl) (by kernel_rfl) ?_; clear hA ac; intro ac hA
              refine st_skip hA (by kernel_rfl) (by kernel_rfl) ?_; clear hA ac; intro ac hA
              refine st_skip hA (by kernel_rfl) (by kernel_rfl) ?_; clear hA ac; intro ac hA
              refine st_skip hA (by kernel_rfl) (by kernel_rfl) ?_; clear hA ac; intro ac hA
              refine st_skip hA (by kernel_rfl) (by kernel_rfl) ?_; clear hA ac; intro ac hA
              refine st_skip hA (by kernel_rfl) (by kernel_rfl) ?_; clear hA ac; intro ac hA
              refine st_skip hA (by kernel_rfl) (by kernel_rfl) ?_; clear hA ac; intro ac hA
              refine st_rd (v := Value.bool false) hA (by kernel_rfl) (by kernel_rfl) (by kernel_rfl) hW.cls (Rd.pure fun _ => by kernel_rfl) ?_; clear hA ac; intro ac hA
              refine st_rd (v := Value.bool false) hA (by kernel_rfl) (by kernel_rfl) (by kernel_rfl) hW.cls (Rd.pure fun _ => by kernel_rfl) ?_; clear hA ac; intro ac hA
              refine wpList_nil ?_
              refine thenN ?_
              refine wp_ret ?_
              refine ret1 (v := Value.bool false) (by rfl) hA (Got.tmp hA (by kernel_rfl) (by kernel_rfl)) ?_
              clear hA
              exact ⟨retv (by first | (simp [Acc.ok]; done) | (simp [Acc.ok]; omega) | (simp [Acc.ok, *]; done) | (simp [Acc.ok, *]; omega) | (simp_all [Acc.ok]; done) | (simp_all [Acc.ok]; omega) | (refine congrArg Value.bool (Bool.eq_iff_iff.2 ?_); simp [Acc.ok]; (try simp only [*]); (try simp); omega) | (simp [Acc.ok]; repeat' split; all_goals omega)), hW.fr⟩))
  · skip
    rw [h3] at hA
    have h3 := of_decide_eq_false h3
    first
    | (exfalso; clear hA hW; omega)
    | (
        refine st_skip hA (by kernel_rfl) (by kernel_rfl) ?_; clear hA ac; intro ac hA
        refine st_skip hA (by kernel_rfl) (by kernel_rfl) ?_; clear hA ac; intro ac hA
        refine st_skip hA (by kernel_rfl) (by kernel_rfl) ?_; clear hA ac; intro ac hA
        refine st_rd (v := Value.bool false) hA (by kernel_rfl) (by kernel_rfl) (by kernel_rfl) hW.cls (Rd.pure fun _ => by kernel_rfl) ?_; clear hA ac; intro ac hA
        refine st_rd (v := Value.bool false) hA (by kernel_rfl) (by kernel_rfl) (by kernel_rfl) hW.cls (Rd.pure fun _ => by kernel_rfl) ?_; clear hA ac; intro ac hA
        refine st_skip hA (by kernel_rfl) (by kernel_rfl) ?_; clear hA ac; intro ac hA
        refine st_skip hA (by kernel_rfl) (by kernel_rfl) ?_; clear hA ac; intro ac hA
        refine st_skip hA (by kernel_rfl) (by kernel_rfl) ?_; clear hA ac; intro ac hA
        refine st_rd (v := Value.bool false) hA (by kernel_rfl) (by kernel_rfl) (by kernel_rfl) hW.cls (Rd.pure fun _ => by kernel_rfl) ?_; clear hA ac; intro ac hA
        refine st_rd (v := Value.bool false) hA (by kernel_rfl) (by kernel_rfl) (by kernel_rfl) hW.cls (Rd.pure fun _ => by kernel_rfl) ?_; clear hA ac; intro ac hA
        refine st_skip hA (by kernel_rfl) (by kernel_rfl) ?_; clear hA ac; intro ac hA
        refine st_skip hA (by kernel_rfl) (by kernel_rfl) ?_; clear hA ac; intro ac hA
        refine st_skip hA (by kernel_rfl) (by kernel_rfl) ?_; clear hA ac; intro ac hA
        refine st_skip hA (by kernel_rfl) (by kernel_rfl) ?_; clear hA ac; intro ac hA
        refine st_skip hA (by kernel_rfl) (by kernel_rfl) ?_; clear hA ac; intro ac hA
        refine st_skip hA (by kernel_rfl) (by kernel_rfl) ?_; clear hA ac; intro ac hA
        refine st_skip hA (by kernel_rfl) (by kernel_rfl) ?_; clear hA ac; intro ac hA
        refine st_skip hA (by kernel_rfl) (by kernel_rfl) ?_; clear hA ac; intro ac hA
        refine st_rd (v := Value.bool false) hA (by kernel_rfl) (by kernel_rfl) (by kernel_rfl) hW.cls (Rd.pure fun _ => by kernel_rfl) ?_; clear hA ac; intro ac hA
        refine st_rd (v := Value.bool false) hA (by kernel_rfl) (by kernel_rfl) (by kernel_rfl) hW.cls (Rd.pure fun _ => by kernel_rfl) ?_; clear hA ac; intro ac hA
        refine wpList_nil ?_
        refine thenN ?_
        refine wp_ret ?_
        refine ret1 (v := Value.bool false) (by rfl) hA (Got.tmp hA (by kernel_rfl) (by kernel_rfl)) ?_
        clear hA
        exact ⟨retv (by first | (simp [Acc.ok]; done) | (simp [Acc.ok]; omega) | (simp [Acc.ok, *]; done) | (simp [Acc.ok, *]; omega) | (simp_all [Acc.ok]; done) | (simp_all [Acc.ok]; omega) | (refine congrArg Value.bool (Bool.eq_iff_iff.2 ?_); simp [Acc.ok]; (try simp only [*]); (try simp); omega) | (simp [Acc.ok]; repeat' split; all_goals omega)), hW.fr⟩)

set_option maxRecDepth 100000 in
theorem e_right27 (f : Flag) (w : World)  : Calls Try.prog 12 #[f.v] w (fun e w' => e = .returned (Value.bool (Flag.ok f)) ∧ Fr No w w') := by
  refine enter_E 37 Try.func12 rfl rfl (by kernel_rfl) (L := [(0, f.v)]) (by kernel_rfl) ?_
  intro ac hA
  have hW := Ws.start w No
  refine wp_seq ?_
  refine wp_region_lit ?_
  refine st hA (by kernel_rfl) (by kernel_rfl) (by kernel_rfl) (Runs.cells (fun b => Value.pointer (some ⟨b, 0, none⟩)) #[Value.int .i64 f.at_, Value.int .u32 f.addr, Value.int .i64 f.e.g, Value.int .i64 f.e.s.f, Value.int .i64 f.e.s.pc, Value.int .i64 f.e.k, Value.int .i64 f.l.g, Value.int .i64 f.l.s.f, Value.int .i64 f.l.s.pc, Value.int .i64 f.l.k] 43 (fun _ => by kernel_rfl) hW ?_); clear hA ac hW; intro b1 w2 hW hb1 hfw2 ac hA
  refine st_rd (v := Value.bool false) hA (by kernel_rfl) (by kernel_rfl) (by kernel_rfl) hW.cls (Rd.pure fun _ => by kernel_rfl) ?_; clear hA ac; intro ac hA
  refine wpList_nil ?_
  refine thenN ?_
  refine wp_seq ?_
  refine wp_region_lit ?_
  refine st_rd (v := Value.pointer (some ⟨b1, 0, none⟩)) hA (by kernel_rfl) (by kernel_rfl) (by kernel_rfl) hW.cls (Rd.pure fun _ => by kernel_rfl) ?_; clear hA ac; intro ac hA
  refine st_rd (v := Value.int .i64 f.at_) hA (by kernel_rfl) (by kernel_rfl) (by kernel_rfl) hW.cls (Rd.load (b := b1) (i := 0) (by kernel_rfl) (fun _ hw => (hw.1).cel 0 rfl) (by kernel_rfl)) ?_; clear hA ac; intro ac hA
  refine st_rd (v := Value.bool (decide ((f.at_ : Int) ≥ (0 : Int)))) hA (by kernel_rfl) (by kernel_rfl) (by kernel_rfl) hW.cls (Rd.pure fun _ => by kernel_rfl) ?_; clear hA ac; intro ac hA
  refine st_rd (v := Value.bool (decide ((f.at_ : Int) ≥ (0 : Int)))) hA (by kernel_rfl) (by kernel_rfl) (by kernel_rfl) hW.cls (Rd.pure fun _ => by kernel_rfl) ?_; clear hA ac; intro ac hA
  rcases Bool.eq_false_or_eq_true (decide ((f.at_ : Int) ≥ (0 : Int))) with h3 | h3
  · skip
    rw [h3] at hA
    have h3 := of_decide_eq_true h3
    first
    | (exfalso; clear hA hW; omega)
    | (
        refine st_rd (v := Value.pointer (some ⟨b1, 2, none⟩)) hA (by kernel_rfl) (by kernel_rfl) (by kernel_rfl) hW.cls (Rd.pure fun _ => by kernel_rfl) ?_; clear hA ac; intro ac hA
        refine st_rd (v := Value.agg #[Value.int .i64 f.e.g, Value.int .i64 f.e.s.f, Value.int .i64 f.e.s.pc, Value.int .i64 f.e.k]) hA (by kernel_rfl) (by kernel_rfl) (by kernel_rfl) hW.cls (Rd.load (b := b1) (i := 2) (by kernel_rfl) (fun _ hw => (hw.1).cel 0 rfl) (by kernel_rfl)) ?_; clear hA ac; intro ac hA
        refine st hA (by kernel_rfl) (by kernel_rfl) (by kernel_rfl) (Runs.callN (v := Value.bool (Acc.ok f.e)) (fun _ => by kernel_rfl) hW (e_access27 f.e w2) ?_); clear hA ac hW; intro w4 hW hfw4 ac hA
        refine st_rd (v := Value.bool (Acc.ok f.e)) hA (by kernel_rfl) (by kernel_rfl) (by kernel_rfl) hW.cls (Rd.pure fun _ => by kernel_rfl) ?_; clear hA ac; intro ac hA
        refine st_rd (v := Value.bool (Acc.ok f.e)) hA (by kernel_rfl) (by kernel_rfl) (by kernel_rfl) hW.cls (Rd.pure fun _ => by kernel_rfl) ?_; clear hA ac; intro ac hA
        rcases Bool.eq_false_or_eq_true (Acc.ok f.e) with h5 | h5
        · skip
          rw [h5] at hA
          first
          | (exfalso; clear hA hW; omega)
          | (
              refine st_rd (v := Value.pointer (some ⟨b1, 6, none⟩)) hA (by kernel_rfl) (by kernel_rfl) (by kernel_rfl) hW.cls (Rd.pure fun _ => by kernel_rfl) ?_; clear hA ac; intro ac hA
              refine st_rd (v := Value.agg #[Value.int .i64 f.l.g, Value.int .i64 f.l.s.f, Value.int .i64 f.l.s.pc, Value.int .i64 f.l.k]) hA (by kernel_rfl) (by kernel_rfl) (by kernel_rfl) hW.cls (Rd.load (b := b1) (i := 6) (by kernel_rfl) (fun _ hw => (hw.1).cel 0 rfl) (by kernel_rfl)) ?_; clear hA ac; intro ac hA
              refine st hA (by kernel_rfl) (by kernel_rfl) (by kernel_rfl) (Runs.callN (v := Value.bool (Acc.ok f.l)) (fun _ => by kernel_rfl) hW (e_access27 f.l w4) ?_); clear hA ac hW; intro w6 hW hfw6 ac hA
              refine st_rd (v := Value.bool (Acc.ok f.l)) hA (by kernel_rfl) (by kernel_rfl) (by kernel_rfl) hW.cls (Rd.pure fun _ => by kernel_rfl) ?_; clear hA ac; intro ac hA
              refine st_rd (v := Value.bool (Acc.ok f.l)) hA (by kernel_rfl) (by kernel_rfl) (by kernel_rfl) hW.cls (Rd.pure fun _ => by kernel_rfl) ?_; clear hA ac; intro ac hA
              rcases Bool.eq_false_or_eq_true (Acc.ok f.l) with h7 | h7
              · skip
                rw [h7] at hA
                first
                | (exfalso; clear hA hW; omega)
                | (
                    refine st_rd (v := Value.pointer (some ⟨b1, 2, none⟩)) hA (by kernel_rfl) (by kernel_rfl) (by kernel_rfl) hW.cls (Rd.pure fun _ => by kernel_rfl) ?_; clear hA ac; intro ac hA
                    refine st_rd (v := Value.pointer (some ⟨b1, 2, none⟩)) hA (by kernel_rfl) (by kernel_rfl) (by kernel_rfl) hW.cls (Rd.pure fun _ => by kernel_rfl) ?_; clear hA ac; intro ac hA
                    refine st_rd (v := Value.int .i64 f.e.g) hA (by kernel_rfl) (by kernel_rfl) (by kernel_rfl) hW.cls (Rd.load (b := b1) (i := 2) (by kernel_rfl) (fun _ hw => (hw.1).cel 0 rfl) (by kernel_rfl)) ?_; clear hA ac; intro ac hA
                    refine st_rd (v := Value.pointer (some ⟨b1, 6, none⟩)) hA (by kernel_rfl) (by kernel_rfl) (by kernel_rfl) hW.cls (Rd.pure fun _ => by kernel_rfl) ?_; clear hA ac; intro ac hA
                    refine st_rd (v := Value.pointer (some ⟨b1, 6, none⟩)) hA (by kernel_rfl) (by kernel_rfl) (by kernel_rfl) hW.cls (Rd.pure fun _ => by kernel_rfl) ?_; clear hA ac; intro ac hA
                    refine st_rd (v := Value.int .i64 f.l.g) hA (by kernel_rfl) (by kernel_rfl) (by kernel_rfl) hW.cls (Rd.load (b := b1) (i := 6) (by kernel_rfl) (fun _ hw => (hw.1).cel 0 rfl) (by kernel_rfl)) ?_; clear hA ac; intro ac hA
                    refine st_rd (v := Value.bool ((f.e.g : Int) != (f.l.g : Int))) hA (by kernel_rfl) (by kernel_rfl) (by kernel_rfl) hW.cls (Rd.pure fun _ => by kernel_rfl) ?_; clear hA ac; intro ac hA
                    refine st_rd (v := Value.bool ((f.e.g : Int) != (f.l.g : Int))) hA (by kernel_rfl) (by kernel_rfl) (by kernel_rfl) hW.cls (Rd.pure fun _ => by kernel_rfl) ?_; clear hA ac; intro ac hA
                    refine st_rd (v := Value.bool ((f.e.g : Int) != (f.l.g : Int))) hA (by kernel_rfl) (by kernel_rfl) (by kernel_rfl) hW.cls (Rd.pure fun _ => by kernel_rfl) ?_; clear hA ac; intro ac hA
                    rcases Bool.eq_false_or_eq_true ((f.e.g : Int) != (f.l.g : Int)) with h8 | h8
                    · skip
                      rw [h8] at hA
                      have h8 := bne_iff_ne.1 h8
                      first
                      | (exfalso; clear hA hW; omega)
                      | (
                          refine st_rd (v := Value.pointer (some ⟨b1, 2, none⟩)) hA (by kernel_rfl) (by kernel_rfl) (by kernel_rfl) hW.cls (Rd.pure fun _ => by kernel_rfl) ?_; clear hA ac; intro ac hA
                          refine st_rd (v := Value.pointer (some ⟨b1, 5, none⟩)) hA (by kernel_rfl) (by kernel_rfl) (by kernel_rfl) hW.cls (Rd.pure fun _ => by kernel_rfl) ?_; clear hA ac; intro ac hA
                          refine st_rd (v := Value.int .i64 f.e.k) hA (by kernel_rfl) (by kernel_rfl) (by kernel_rfl) hW.cls (Rd.load (b := b1) (i := 5) (by kernel_rfl) (fun _ hw => (hw.1).cel 0 rfl) (by kernel_rfl)) ?_; clear hA ac; intro ac hA
                          refine st_rd (v := Value.bool ((f.e.k : Int) == (3 : Int))) hA (by kernel_rfl) (by kernel_rfl) (by kernel_rfl) hW.cls (Rd.pure fun _ => by kernel_rfl) ?_; clear hA ac; intro ac hA
                          refine st_rd (v := Value.bool ((f.e.k : Int) == (3 : Int))) hA (by kernel_rfl) (by kernel_rfl) (by kernel_rfl) hW.cls (Rd.pure fun _ => by kernel_rfl) ?_; clear hA ac; intro ac hA
                          rcases Bool.eq_false_or_eq_true ((f.e.k : Int) == (3 : Int)) with h9 | h9
                          · skip
                            rw [h9] at hA
                            have h9 := eq_of_beq h9
                            first
                            | (exfalso; clear hA hW; omega)
                            | (
                                refine st_skip hA (by kernel_rfl) (by kernel_rfl) ?_; clear hA ac; intro ac hA
                                refine st_skip hA (by kernel_rfl) (by kernel_rfl) ?_; clear hA ac; intro ac hA
                                refine st_skip hA (by kernel_rfl) (by kernel_rfl) ?_; clear hA ac; intro ac hA
                                refine st_skip hA (by kernel_rfl) (by kernel_rfl) ?_; clear hA ac; intro ac hA
                                refine st_rd (v := Value.bool true) hA (by kernel_rfl) (by kernel_rfl) (by kernel_rfl) hW.cls (Rd.pure fun _ => by kernel_rfl) ?_; clear hA ac; intro ac hA
                                refine st_rd (v := Value.bool true) hA (by kernel_rfl) (by kernel_rfl) (by kernel_rfl) hW.cls (Rd.pure fun _ => by kernel_rfl) ?_; clear hA ac; intro ac hA
                                refine st_rd (v := Value.bool true) hA (by kernel_rfl) (by kernel_rfl) (by kernel_rfl) hW.cls (Rd.pure fun _ => by kernel_rfl) ?_; clear hA ac; intro ac hA
                                refine wpList_nil ?_
                                refine thenN ?_
                                refine wp_ret ?_
                                refine ret1 (v := Value.bool true) (by rfl) hA (Got.tmp hA (by kernel_rfl) (by kernel_rfl)) ?_
                                clear hA
                                exact ⟨retv (by first | (simp [Flag.ok]; done) | (simp [Flag.ok]; omega) | (simp [Flag.ok, *]; done) | (simp [Flag.ok, *]; omega) | (simp_all [Flag.ok]; done) | (simp_all [Flag.ok]; omega) | (refine congrArg Value.bool (Bool.eq_iff_iff.2 ?_); simp [Flag.ok]; (try simp only [*]); (try simp); omega) | (simp [Flag.ok]; repeat' split; all_goals omega)), hW.fr⟩)
                          · skip
                            rw [h9] at hA
                            have h9 := ne_of_beq_false h9
                            first
                            | (exfalso; clear hA hW; omega)
                            | (
                                refine st_rd (v := Value.pointer (some ⟨b1, 6, none⟩)) hA (by kernel_rfl) (by kernel_rfl) (by kernel_rfl) hW.cls (Rd.pure fun _ => by kernel_rfl) ?_; clear hA ac; intro ac hA
                                refine st_rd (v := Value.pointer (some ⟨b1, 9, none⟩)) hA (by kernel_rfl) (by kernel_rfl) (by kernel_rfl) hW.cls (Rd.pure fun _ => by kernel_rfl) ?_; clear hA ac; intro ac hA
                                refine st_rd (v := Value.int .i64 f.l.k) hA (by kernel_rfl) (by kernel_rfl) (by kernel_rfl) hW.cls (Rd.load (b := b1) (i := 9) (by kernel_rfl) (fun _ hw => (hw.1).cel 0 rfl) (by kernel_rfl)) ?_; clear hA ac; intro ac hA
                                refine st_rd (v := Value.bool ((f.l.k : Int) == (3 : Int))) hA (by kernel_rfl) (by kernel_rfl) (by kernel_rfl) hW.cls (Rd.pure fun _ => by kernel_rfl) ?_; clear hA ac; intro ac hA
                                refine st_rd (v := Value.bool ((f.l.k : Int) == (3 : Int))) hA (by kernel_rfl) (by kernel_rfl) (by kernel_rfl) hW.cls (Rd.pure fun _ => by kernel_rfl) ?_; clear hA ac; intro ac hA
                                refine st_rd (v := Value.bool ((f.l.k : Int) == (3 : Int))) hA (by kernel_rfl) (by kernel_rfl) (by kernel_rfl) hW.cls (Rd.pure fun _ => by kernel_rfl) ?_; clear hA ac; intro ac hA
                                refine st_rd (v := Value.bool ((f.l.k : Int) == (3 : Int))) hA (by kernel_rfl) (by kernel_rfl) (by kernel_rfl) hW.cls (Rd.pure fun _ => by kernel_rfl) ?_; clear hA ac; intro ac hA
                                refine wpList_nil ?_
                                refine thenN ?_
                                refine wp_ret ?_
                                refine ret1 (v := Value.bool ((f.l.k : Int) == (3 : Int))) (by rfl) hA (Got.tmp hA (by kernel_rfl) (by kernel_rfl)) ?_
                                clear hA
                                exact ⟨retv (by first | (simp [Flag.ok]; done) | (simp [Flag.ok]; omega) | (simp [Flag.ok, *]; done) | (simp [Flag.ok, *]; omega) | (simp_all [Flag.ok]; done) | (simp_all [Flag.ok]; omega) | (refine congrArg Value.bool (Bool.eq_iff_iff.2 ?_); simp [Flag.ok]; (try simp only [*]); (try simp); omega) | (simp [Flag.ok]; repeat' split; all_goals omega)), hW.fr⟩))
                    · skip
                      rw [h8] at hA
                      have h8 := of_bne_f h8
                      first
                      | (exfalso; clear hA hW; omega)
                      | (
                          refine st_skip hA (by kernel_rfl) (by kernel_rfl) ?_; clear hA ac; intro ac hA
                          refine st_skip hA (by kernel_rfl) (by kernel_rfl) ?_; clear hA ac; intro ac hA
                          refine st_skip hA (by kernel_rfl) (by kernel_rfl) ?_; clear hA ac; intro ac hA
                          refine st_skip hA (by kernel_rfl) (by kernel_rfl) ?_; clear hA ac; intro ac hA
                          refine st_skip hA (by kernel_rfl) (by kernel_rfl) ?_; clear hA ac; intro ac hA
                          refine st_skip hA (by kernel_rfl) (by kernel_rfl) ?_; clear hA ac; intro ac hA
                          refine st_skip hA (by kernel_rfl) (by kernel_rfl) ?_; clear hA ac; intro ac hA
                          refine st_skip hA (by kernel_rfl) (by kernel_rfl) ?_; clear hA ac; intro ac hA
                          refine st_skip hA (by kernel_rfl) (by kernel_rfl) ?_; clear hA ac; intro ac hA
                          refine st_skip hA (by kernel_rfl) (by kernel_rfl) ?_; clear hA ac; intro ac hA
                          refine st_rd (v := Value.bool false) hA (by kernel_rfl) (by kernel_rfl) (by kernel_rfl) hW.cls (Rd.pure fun _ => by kernel_rfl) ?_; clear hA ac; intro ac hA
                          refine st_rd (v := Value.bool false) hA (by kernel_rfl) (by kernel_rfl) (by kernel_rfl) hW.cls (Rd.pure fun _ => by kernel_rfl) ?_; clear hA ac; intro ac hA
                          refine wpList_nil ?_
                          refine thenN ?_
                          refine wp_ret ?_
                          refine ret1 (v := Value.bool false) (by rfl) hA (Got.tmp hA (by kernel_rfl) (by kernel_rfl)) ?_
                          clear hA
                          exact ⟨retv (by first | (simp [Flag.ok]; done) | (simp [Flag.ok]; omega) | (simp [Flag.ok, *]; done) | (simp [Flag.ok, *]; omega) | (simp_all [Flag.ok]; done) | (simp_all [Flag.ok]; omega) | (refine congrArg Value.bool (Bool.eq_iff_iff.2 ?_); simp [Flag.ok]; (try simp only [*]); (try simp); omega) | (simp [Flag.ok]; repeat' split; all_goals omega)), hW.fr⟩))
              · skip
                rw [h7] at hA
                first
                | (exfalso; clear hA hW; omega)
                | (
                    refine st_skip hA (by kernel_rfl) (by kernel_rfl) ?_; clear hA ac; intro ac hA
                    refine st_skip hA (by kernel_rfl) (by kernel_rfl) ?_; clear hA ac; intro ac hA
                    refine st_skip hA (by kernel_rfl) (by kernel_rfl) ?_; clear hA ac; intro ac hA
                    refine st_skip hA (by kernel_rfl) (by kernel_rfl) ?_; clear hA ac; intro ac hA
                    refine st_skip hA (by kernel_rfl) (by kernel_rfl) ?_; clear hA ac; intro ac hA
                    refine st_skip hA (by kernel_rfl) (by kernel_rfl) ?_; clear hA ac; intro ac hA
                    refine st_skip hA (by kernel_rfl) (by kernel_rfl) ?_; clear hA ac; intro ac hA
                    refine st_rd (v := Value.bool false) hA (by kernel_rfl) (by kernel_rfl) (by kernel_rfl) hW.cls (Rd.pure fun _ => by kernel_rfl) ?_; clear hA ac; intro ac hA
                    refine st_rd (v := Value.bool false) hA (by kernel_rfl) (by kernel_rfl) (by kernel_rfl) hW.cls (Rd.pure fun _ => by kernel_rfl) ?_; clear hA ac; intro ac hA
                    refine st_skip hA (by kernel_rfl) (by kernel_rfl) ?_; clear hA ac; intro ac hA
                    refine st_skip hA (by kernel_rfl) (by kernel_rfl) ?_; clear hA ac; intro ac hA
                    refine st_skip hA (by kernel_rfl) (by kernel_rfl) ?_; clear hA ac; intro ac hA
                    refine st_skip hA (by kernel_rfl) (by kernel_rfl) ?_; clear hA ac; intro ac hA
                    refine st_skip hA (by kernel_rfl) (by kernel_rfl) ?_; clear hA ac; intro ac hA
                    refine st_skip hA (by kernel_rfl) (by kernel_rfl) ?_; clear hA ac; intro ac hA
                    refine st_skip hA (by kernel_rfl) (by kernel_rfl) ?_; clear hA ac; intro ac hA
                    refine st_skip hA (by kernel_rfl) (by kernel_rfl) ?_; clear hA ac; intro ac hA
                    refine st_skip hA (by kernel_rfl) (by kernel_rfl) ?_; clear hA ac; intro ac hA
                    refine st_skip hA (by kernel_rfl) (by kernel_rfl) ?_; clear hA ac; intro ac hA
                    refine st_rd (v := Value.bool false) hA (by kernel_rfl) (by kernel_rfl) (by kernel_rfl) hW.cls (Rd.pure fun _ => by kernel_rfl) ?_; clear hA ac; intro ac hA
                    refine st_rd (v := Value.bool false) hA (by kernel_rfl) (by kernel_rfl) (by kernel_rfl) hW.cls (Rd.pure fun _ => by kernel_rfl) ?_; clear hA ac; intro ac hA
                    refine wpList_nil ?_
                    refine thenN ?_
                    refine wp_ret ?_
                    refine ret1 (v := Value.bool false) (by rfl) hA (Got.tmp hA (by kernel_rfl) (by kernel_rfl)) ?_
                    clear hA
                    exact ⟨retv (by first | (simp [Flag.ok]; done) | (simp [Flag.ok]; omega) | (simp [Flag.ok, *]; done) | (simp [Flag.ok, *]; omega) | (simp_all [Flag.ok]; done) | (simp_all [Flag.ok]; omega) | (refine congrArg Value.bool (Bool.eq_iff_iff.2 ?_); simp [Flag.ok]; (try simp only [*]); (try simp); omega) | (simp [Flag.ok]; repeat' split; all_goals omega)), hW.fr⟩))
        · skip
          rw [h5] at hA
          first
          | (exfalso; clear hA hW; omega)
          | (
              refine st_skip hA (by kernel_rfl) (by kernel_rfl) ?_; clear hA ac; intro ac hA
              refine st_skip hA (by kernel_rfl) (by kernel_rfl) ?_; clear hA ac; intro ac hA
              refine st_skip hA (by kernel_rfl) (by kernel_rfl) ?_; clear hA ac; intro ac hA
              refine st_rd (v := Value.bool false) hA (by kernel_rfl) (by kernel_rfl) (by kernel_rfl) hW.cls (Rd.pure fun _ => by kernel_rfl) ?_; clear hA ac; intro ac hA
              refine st_rd (v := Value.bool false) hA (by kernel_rfl) (by kernel_rfl) (by kernel_rfl) hW.cls (Rd.pure fun _ => by kernel_rfl) ?_; clear hA ac; intro ac hA
              refine st_skip hA (by kernel_rfl) (by kernel_rfl) ?_; clear hA ac; intro ac hA
              refine st_skip hA (by kernel_rfl) (by kernel_rfl) ?_; clear hA ac; intro ac hA
              refine st_skip hA (by kernel_rfl) (by kernel_rfl) ?_; clear hA ac; intro ac hA
              refine st_skip hA (by kernel_rfl) (by kernel_rfl) ?_; clear hA ac; intro ac hA
              refine st_skip hA (by kernel_rfl) (by kernel_rfl) ?_; clear hA ac; intro ac hA
              refine st_skip hA (by kernel_rfl) (by kernel_rfl) ?_; clear hA ac; intro ac hA
              refine st_skip hA (by kernel_rfl) (by kernel_rfl) ?_; clear hA ac; intro ac hA
              refine st_rd (v := Value.bool false) hA (by kernel_rfl) (by kernel_rfl) (by kernel_rfl) hW.cls (Rd.pure fun _ => by kernel_rfl) ?_; clear hA ac; intro ac hA
              refine st_rd (v := Value.bool false) hA (by kernel_rfl) (by kernel_rfl) (by kernel_rfl) hW.cls (Rd.pure fun _ => by kernel_rfl) ?_; clear hA ac; intro ac hA
              refine st_skip hA (by kernel_rfl) (by kernel_rfl) ?_; clear hA ac; intro ac hA
              refine st_skip hA (by kernel_rfl) (by kernel_rfl) ?_; clear hA ac; intro ac hA
              refine st_skip hA (by kernel_rfl) (by kernel_rfl) ?_; clear hA ac; intro ac hA
              refine st_skip hA (by kernel_rfl) (by kernel_rfl) ?_; clear hA ac; intro ac hA
              refine st_skip hA (by kernel_rfl) (by kernel_rfl) ?_; clear hA ac; intro ac hA
              refine st_skip hA (by kernel_rfl) (by kernel_rfl) ?_; clear hA ac; intro ac hA
              refine st_skip hA (by kernel_rfl) (by kernel_rfl) ?_; clear hA ac; intro ac hA
              refine st_skip hA (by kernel_rfl) (by kernel_rfl) ?_; clear hA ac; intro ac hA
              refine st_skip hA (by kernel_rfl) (by kernel_rfl) ?_; clear hA ac; intro ac hA
              refine st_skip hA (by kernel_rfl) (by kernel_rfl) ?_; clear hA ac; intro ac hA
              refine st_rd (v := Value.bool false) hA (by kernel_rfl) (by kernel_rfl) (by kernel_rfl) hW.cls (Rd.pure fun _ => by kernel_rfl) ?_; clear hA ac; intro ac hA
              refine st_rd (v := Value.bool false) hA (by kernel_rfl) (by kernel_rfl) (by kernel_rfl) hW.cls (Rd.pure fun _ => by kernel_rfl) ?_; clear hA ac; intro ac hA
              refine wpList_nil ?_
              refine thenN ?_
              refine wp_ret ?_
              refine ret1 (v := Value.bool false) (by rfl) hA (Got.tmp hA (by kernel_rfl) (by kernel_rfl)) ?_
              clear hA
              exact ⟨retv (by first | (simp [Flag.ok]; done) | (simp [Flag.ok]; omega) | (simp [Flag.ok, *]; done) | (simp [Flag.ok, *]; omega) | (simp_all [Flag.ok]; done) | (simp_all [Flag.ok]; omega) | (refine congrArg Value.bool (Bool.eq_iff_iff.2 ?_); simp [Flag.ok]; (try simp only [*]); (try simp); omega) | (simp [Flag.ok]; repeat' split; all_goals omega)), hW.fr⟩))
  · skip
    rw [h3] at hA
    have h3 := of_decide_eq_false h3
    first
    | (exfalso; clear hA hW; omega)
    | (
        refine st_skip hA (by kernel_rfl) (by kernel_rfl) ?_; clear hA ac; intro ac hA
        refine st_skip hA (by kernel_rfl) (by kernel_rfl) ?_; clear hA ac; intro ac hA
        refine st_skip hA (by kernel_rfl) (by kernel_rfl) ?_; clear hA ac; intro ac hA
        refine st_rd (v := Value.bool false) hA (by kernel_rfl) (by kernel_rfl) (by kernel_rfl) hW.cls (Rd.pure fun _ => by kernel_rfl) ?_; clear hA ac; intro ac hA
        refine st_rd (v := Value.bool false) hA (by kernel_rfl) (by kernel_rfl) (by kernel_rfl) hW.cls (Rd.pure fun _ => by kernel_rfl) ?_; clear hA ac; intro ac hA
        refine st_skip hA (by kernel_rfl) (by kernel_rfl) ?_; clear hA ac; intro ac hA
        refine st_skip hA (by kernel_rfl) (by kernel_rfl) ?_; clear hA ac; intro ac hA
        refine st_skip hA (by kernel_rfl) (by kernel_rfl) ?_; clear hA ac; intro ac hA
        refine st_rd (v := Value.bool false) hA (by kernel_rfl) (by kernel_rfl) (by kernel_rfl) hW.cls (Rd.pure fun _ => by kernel_rfl) ?_; clear hA ac; intro ac hA
        refine st_rd (v := Value.bool false) hA (by kernel_rfl) (by kernel_rfl) (by kernel_rfl) hW.cls (Rd.pure fun _ => by kernel_rfl) ?_; clear hA ac; intro ac hA
        refine st_skip hA (by kernel_rfl) (by kernel_rfl) ?_; clear hA ac; intro ac hA
        refine st_skip hA (by kernel_rfl) (by kernel_rfl) ?_; clear hA ac; intro ac hA
        refine st_skip hA (by kernel_rfl) (by kernel_rfl) ?_; clear hA ac; intro ac hA
        refine st_skip hA (by kernel_rfl) (by kernel_rfl) ?_; clear hA ac; intro ac hA
        refine st_skip hA (by kernel_rfl) (by kernel_rfl) ?_; clear hA ac; intro ac hA
        refine st_skip hA (by kernel_rfl) (by kernel_rfl) ?_; clear hA ac; intro ac hA
        refine st_skip hA (by kernel_rfl) (by kernel_rfl) ?_; clear hA ac; intro ac hA
        refine st_rd (v := Value.bool false) hA (by kernel_rfl) (by kernel_rfl) (by kernel_rfl) hW.cls (Rd.pure fun _ => by kernel_rfl) ?_; clear hA ac; intro ac hA
        refine st_rd (v := Value.bool false) hA (by kernel_rfl) (by kernel_rfl) (by kernel_rfl) hW.cls (Rd.pure fun _ => by kernel_rfl) ?_; clear hA ac; intro ac hA
        refine st_skip hA (by kernel_rfl) (by kernel_rfl) ?_; clear hA ac; intro ac hA
        refine st_skip hA (by kernel_rfl) (by kernel_rfl) ?_; clear hA ac; intro ac hA
        refine st_skip hA (by kernel_rfl) (by kernel_rfl) ?_; clear hA ac; intro ac hA
        refine st_skip hA (by kernel_rfl) (by kernel_rfl) ?_; clear hA ac; intro ac hA
        refine st_skip hA (by kernel_rfl) (by kernel_rfl) ?_; clear hA ac; intro ac hA
        refine st_skip hA (by kernel_rfl) (by kernel_rfl) ?_; clear hA ac; intro ac hA
        refine st_skip hA (by kernel_rfl) (by kernel_rfl) ?_; clear hA ac; intro ac hA
        refine st_skip hA (by kernel_rfl) (by kernel_rfl) ?_; clear hA ac; intro ac hA
        refine st_skip hA (by kernel_rfl) (by kernel_rfl) ?_; clear hA ac; intro ac hA
        refine st_skip hA (by kernel_rfl) (by kernel_rfl) ?_; clear hA ac; intro ac hA
        refine st_rd (v := Value.bool false) hA (by kernel_rfl) (by kernel_rfl) (by kernel_rfl) hW.cls (Rd.pure fun _ => by kernel_rfl) ?_; clear hA ac; intro ac hA
        refine st_rd (v := Value.bool false) hA (by kernel_rfl) (by kernel_rfl) (by kernel_rfl) hW.cls (Rd.pure fun _ => by kernel_rfl) ?_; clear hA ac; intro ac hA
        refine wpList_nil ?_
        refine thenN ?_
        refine wp_ret ?_
        refine ret1 (v := Value.bool false) (by rfl) hA (Got.tmp hA (by kernel_rfl) (by kernel_rfl)) ?_
        clear hA
        exact ⟨retv (by first | (simp [Flag.ok]; done) | (simp [Flag.ok]; omega) | (simp [Flag.ok, *]; done) | (simp [Flag.ok, *]; omega) | (simp_all [Flag.ok]; done) | (simp_all [Flag.ok]; omega) | (refine congrArg Value.bool (Bool.eq_iff_iff.2 ?_); simp [Flag.ok]; (try simp only [*]); (try simp); omega) | (simp [Flag.ok]; repeat' split; all_goals omega)), hW.fr⟩)

set_option maxRecDepth 100000 in
theorem e_has07 (A_l : Option Addr) (c_l : Nat) (l : List Pair) (p : Pair) (w : World) (hr_l : RowAt w A_l 4 enPair l) (hc_l : l.length ≤ c_l) (hl : l.length ≤ 1000) : Calls Try.prog 38 #[Value.slice A_l l.length c_l, p.v] w (fun e w' => e = .returned (Value.bool (decide (p ∈ l))) ∧ Fr No w w') := by
  have _hu := hc_l; have _hv := hr_l; clear _hu _hv
  have _hu := hl; clear _hu
  refine enter_E 18 Try.func38 rfl rfl (by kernel_rfl) (L := [(0, Value.slice A_l l.length c_l), (1, p.v)]) (by kernel_rfl) ?_
  intro ac hA
  have hW := Ws.start w No
  have hW := hW.arg hr_l
  refine wp_seq ?_
  refine wp_region_lit ?_
  refine st hA (by kernel_rfl) (by kernel_rfl) (by kernel_rfl) (Runs.cells (fun b => Value.pointer (some ⟨b, 0, none⟩)) #[Value.int .i64 p.a.f, Value.int .i64 p.a.pc, Value.int .i64 p.b.f, Value.int .i64 p.b.pc] 54 (fun _ => by kernel_rfl) hW ?_); clear hA ac hW; intro b1 w2 hW hb1 hfw2 ac hA
  refine st_rd (v := Value.bool false) hA (by kernel_rfl) (by kernel_rfl) (by kernel_rfl) hW.cls (Rd.pure fun _ => by kernel_rfl) ?_; clear hA ac; intro ac hA
  refine wpList_nil ?_
  refine thenN ?_
  refine wp_seq ?_
  refine wp_seq ?_
  refine wp_region_lit ?_
  refine st_rd (v := Value.int .i64 0) hA (by kernel_rfl) (by kernel_rfl) (by kernel_rfl) hW.cls (Rd.pure fun _ => by kernel_rfl) ?_; clear hA ac; intro ac hA
  refine wpList_nil ?_
  refine thenN ?_
  refine wp_block ?_
  refine wp_loop_m (fun m_ ac_ wl_ => ∃ k : Nat, m_ = l.length - k ∧ (k ≤ l.length) ∧ (∀ j, j < k → l[j]? ≠ some p) ∧ Fm 18 [] [(0, Value.slice A_l l.length c_l), (3, Value.pointer (some ⟨b1, 0, none⟩)), (5, Value.int .i64 ((k : Nat) : Int))] ac_ ∧ Ws w No [Cel b1 #[Value.int .i64 p.a.f, Value.int .i64 p.a.pc, Value.int .i64 p.b.f, Value.int .i64 p.b.pc] 54] [roR A_l 4 enPair l] wl_) _ ⟨0, rfl, by omega, by intro j hj; omega, hA.sub ⟨⟨by kernel_rfl, by kernel_rfl⟩, ⟨by kernel_rfl, by kernel_rfl⟩, ⟨by kernel_rfl, by kernel_rfl⟩, trivial⟩, (hW.pick [0] (by decide) rfl).pickG [0] rfl⟩ ?_
  clear hA ac hW; rintro m_ ac w3 ⟨k, rfl, hk, hn, hA, hW⟩
  refine wp_seq ?_
  refine wp_seq ?_
  refine wp_region_lit ?_
  refine st_rd (v := Value.int .i64 ((k : Nat) : Int)) hA (by kernel_rfl) (by kernel_rfl) (by kernel_rfl) hW.cls (Rd.pure fun _ => by kernel_rfl) ?_; clear hA ac; intro ac hA
  refine st_rd (v := Value.slice A_l l.length c_l) hA (by kernel_rfl) (by kernel_rfl) (by kernel_rfl) hW.cls (Rd.pure fun _ => by kernel_rfl) ?_; clear hA ac; intro ac hA
  refine st_rd (v := Value.int .i64 ((l.length : Nat) : Int)) hA (by kernel_rfl) (by kernel_rfl) (by kernel_rfl) hW.cls (Rd.pure fun _ => by kernel_rfl) ?_; clear hA ac; intro ac hA
  refine st_rd (v := Value.bool (decide ((((k : Nat) : Int) : Int) < (((l.length : Nat) : Int) : Int)))) hA (by kernel_rfl) (by kernel_rfl) (by kernel_rfl) hW.cls (Rd.pure fun _ => by kernel_rfl) ?_; clear hA ac; intro ac hA
  refine wpList_nil ?_
  refine thenN ?_
  refine wp_cond_split (t := decide ((((k : Nat) : Int) : Int) < (((l.length : Nat) : Int) : Int))) (hA.eval (by kernel_rfl)) (fun h4 => ?_) (fun h4 => ?_)
  · skip
    have h4 := of_decide_eq_true h4
    first
    | (exfalso; clear hA hW; omega)
    | (
        refine wp_skip ?_
        refine thenN ?_
        refine wp_seq ?_
        refine wp_block ?_
        refine wp_seq ?_
        refine q_region (by kernel_rfl) (by kernel_rfl) hW ?_
        refine sq_rd (v := Value.slice A_l l.length c_l) hA (by kernel_rfl) (by kernel_rfl) (by kernel_rfl) (Rd.pure fun _ => by kernel_rfl) ?_; clear hA ac; intro ac hA
        refine sq_rd (v := Value.int .i64 ((k : Nat) : Int)) hA (by kernel_rfl) (by kernel_rfl) (by kernel_rfl) (Rd.pure fun _ => by kernel_rfl) ?_; clear hA ac; intro ac hA
        obtain ⟨y5, hy5⟩ : ∃ y, l[k]? = some y := ⟨_, List.getElem?_eq_getElem (by first | omega | (simp; done) | (simp; omega))⟩
        obtain ⟨b6, o7, rfl, hbb6⟩ := row_some ((hW).getG 0 rfl) hy5
        refine sq_rd (v := Value.pointer (some ⟨b6, o7 + k * 4, none⟩)) hA (by kernel_rfl) (by kernel_rfl) (by kernel_rfl) (Rd.indexAddr (e := 54) (sz := 4) (b := b6) (off := o7) (n := l.length) (c := c_l) (k := k) (by kernel_rfl) (by kernel_rfl) (by first | omega | (simp; done) | (simp; omega)) (fun _ => by kernel_rfl) (fun _ => by kernel_rfl)) ?_; clear hA ac; intro ac hA
        refine sq_rd (v := Value.agg #[Value.int .i64 y5.a.f, Value.int .i64 y5.a.pc, Value.int .i64 y5.b.f, Value.int .i64 y5.b.pc]) hA (by kernel_rfl) (by kernel_rfl) (by kernel_rfl) (Rd.loadRow (b := b6) (i := o7 + k * 4) (xs := [Value.int .i64 y5.a.f, Value.int .i64 y5.a.pc, Value.int .i64 y5.b.f, Value.int .i64 y5.b.pc]) (by kernel_rfl) (fun _ hw => row_ld ((hw.1).getG 0 rfl) hy5 (Fr.refl No _) (fun h => h) 0 4 (by kernel_rfl)) (by kernel_rfl)) ?_; clear hA ac; intro ac hA
        refine sq_rd (v := Value.agg #[Value.int .i64 p.a.f, Value.int .i64 p.a.pc, Value.int .i64 p.b.f, Value.int .i64 p.b.pc]) hA (by kernel_rfl) (by kernel_rfl) (by kernel_rfl) (Rd.load (b := b1) (i := 0) (by kernel_rfl) (fun _ hw => (hw.1).cel 0 rfl) (by kernel_rfl)) ?_; clear hA ac; intro ac hA
        refine sq_rd (v := Value.bool (decide (y5 = p))) hA (by kernel_rfl) (by kernel_rfl) (by kernel_rfl) (Rd.eqS (u := y5.v) (v := p.v) (by kernel_rfl) (by kernel_rfl) rfl rfl (by kernel_rfl) (fun w => eq_Pair w y5 p)) ?_; clear hA ac; intro ac hA
        refine sq_nil ?_; intro w8 hww8; have hW := hww8.1; have hfw8 := hww8.2; clear hww8
        refine thenN ?_
        refine wp_cond_split (t := decide (y5 = p)) (hA.eval (by kernel_rfl)) (fun h9 => ?_) (fun h9 => ?_)
        · skip
          have h9 := of_decide_eq_true h9
          have h9e := (Pair.eqi _ _).1 h9
          first
          | (exfalso; clear hA hW; omega)
          | (
              refine wp_seq ?_
              refine wp_region_lit ?_
              refine st_rd (v := Value.bool true) hA (by kernel_rfl) (by kernel_rfl) (by kernel_rfl) hW.cls (Rd.pure fun _ => by kernel_rfl) ?_; clear hA ac; intro ac hA
              refine wpList_nil ?_
              refine thenN ?_
              refine wp_ret ?_
              refine blkR ?_
              refine thenR ?_
              refine thenR ?_
              refine blkR ?_
              refine thenR ?_
              refine ret1 (v := Value.bool true) (by rfl) hA (Got.tmp hA (by kernel_rfl) (by kernel_rfl)) ?_
              clear hA
              refine ⟨retv (congrArg Value.bool (decide_eq_true ?_).symm), hW.fr⟩
              rw [← h9]; exact List.mem_of_getElem? hy5)
        · skip
          have h9 := of_decide_eq_false h9
          have h9e := fun e => h9 ((Pair.eqi _ _).2 e)
          first
          | (exfalso; clear hA hW; omega)
          | (
              refine wp_skip ?_
              refine blkN ?_
              refine thenN ?_
              refine wp_region_lit ?_
              refine st_rd (v := Value.int .i64 ((k : Nat) : Int)) hA (by kernel_rfl) (by kernel_rfl) (by kernel_rfl) hW.cls (Rd.pure fun _ => by kernel_rfl) ?_; clear hA ac; intro ac hA
              refine st_rd (v := Value.int .i64 ((k + 1 : Nat) : Int)) hA (by kernel_rfl) (by kernel_rfl) (by kernel_rfl) hW.cls (Rd.pureE (v0 := Value.int .i64 (IntKind.i64.wrap ((((k : Nat) : Int) : Int) + 1))) (fun _ => by kernel_rfl) (congrArg (Value.int .i64) ((w_i64 (x := (((k : Nat) : Int) : Int) + 1) (by omega) (by omega)).trans (by omega)))) ?_; clear hA ac; intro ac hA
              refine st_rd (v := Value.int .i64 ((k + 1 : Nat) : Int)) hA (by kernel_rfl) (by kernel_rfl) (by kernel_rfl) hW.cls (Rd.pure fun _ => by kernel_rfl) ?_; clear hA ac; intro ac hA
              refine wpList_nil ?_
              refine thenN ?_
              exact ⟨l.length - (k + 1), by omega, k + 1, rfl, by omega, by intro j hj; rcases Nat.lt_succ_iff_lt_or_eq.1 hj with h | h; exact hn j h; subst h; rw [hy5]; intro e; exact h9 (Option.some.inj e), hA.sub ⟨⟨by kernel_rfl, by kernel_rfl⟩, ⟨by kernel_rfl, by kernel_rfl⟩, ⟨by kernel_rfl, by kernel_rfl⟩, trivial⟩, (hW.pick [0] (by decide) rfl).pickG [0] rfl⟩))
  · skip
    have h4 := of_decide_eq_false h4
    first
    | (exfalso; clear hA hW; omega)
    | (
        refine wp_exit ?_
        refine thenX ?_
        refine thenX ?_
        refine blkX ?_
        refine thenN ?_
        refine wp_seq ?_
        refine wp_region_lit ?_
        refine st_rd (v := Value.bool false) hA (by kernel_rfl) (by kernel_rfl) (by kernel_rfl) hW.cls (Rd.pure fun _ => by kernel_rfl) ?_; clear hA ac; intro ac hA
        refine wpList_nil ?_
        refine thenN ?_
        refine wp_ret ?_
        refine ret1 (v := Value.bool false) (by rfl) hA (Got.tmp hA (by kernel_rfl) (by kernel_rfl)) ?_
        clear hA
        refine ⟨retv (congrArg Value.bool (decide_eq_false ?_).symm), hW.fr⟩
        intro hm; obtain ⟨j, hj⟩ := List.mem_iff_getElem?.1 hm; have := (List.getElem?_eq_some_iff.1 hj).1; exact hn j (by omega) hj)

set_option maxRecDepth 100000 in
theorem e_same25 (A_l : Option Addr) (c_l : Nat) (l : List Flag) (A_r : Option Addr) (c_r : Nat) (r : List Flag) (w : World) (hr_l : RowAt w A_l 10 enFlag l) (hc_l : l.length ≤ c_l) (hr_r : RowAt w A_r 10 enFlag r) (hc_r : r.length ≤ c_r) (hl : l.length ≤ 1000) (hr : r.length ≤ 1000) : Calls Try.prog 10 #[Value.slice A_l l.length c_l, Value.slice A_r r.length c_r] w (fun e w' => e = .returned (Value.bool (decide (l = r))) ∧ Fr No w w') := by
  have _hu := hc_l; have _hv := hr_l; clear _hu _hv
  have _hu := hc_r; have _hv := hr_r; clear _hu _hv
  have _hu := hl; clear _hu
  have _hu := hr; clear _hu
  refine enter_E 26 Try.func10 rfl rfl (by kernel_rfl) (L := [(0, Value.slice A_l l.length c_l), (1, Value.slice A_r r.length c_r)]) (by kernel_rfl) ?_
  intro ac hA
  have hW := Ws.start w No
  have hW := hW.arg hr_l
  have hW := hW.arg hr_r
  refine wp_seq ?_
  refine wp_region_lit ?_
  refine st_rd (v := Value.bool false) hA (by kernel_rfl) (by kernel_rfl) (by kernel_rfl) hW.cls (Rd.pure fun _ => by kernel_rfl) ?_; clear hA ac; intro ac hA
  refine wpList_nil ?_
  refine thenN ?_
  refine wp_seq ?_
  refine wp_seq ?_
  refine wp_region_lit ?_
  refine st_rd (v := Value.slice A_l l.length c_l) hA (by kernel_rfl) (by kernel_rfl) (by kernel_rfl) hW.cls (Rd.pure fun _ => by kernel_rfl) ?_; clear hA ac; intro ac hA
  refine st_rd (v := Value.int .i64 ((l.length : Nat) : Int)) hA (by kernel_rfl) (by kernel_rfl) (by kernel_rfl) hW.cls (Rd.pure fun _ => by kernel_rfl) ?_; clear hA ac; intro ac hA
  refine st_rd (v := Value.slice A_r r.length c_r) hA (by kernel_rfl) (by kernel_rfl) (by kernel_rfl) hW.cls (Rd.pure fun _ => by kernel_rfl) ?_; clear hA ac; intro ac hA
  refine st_rd (v := Value.int .i64 ((r.length : Nat) : Int)) hA (by kernel_rfl) (by kernel_rfl) (by kernel_rfl) hW.cls (Rd.pure fun _ => by kernel_rfl) ?_; clear hA ac; intro ac hA
  refine st_rd (v := Value.bool ((((l.length : Nat) : Int) : Int) != (((r.length : Nat) : Int) : Int))) hA (by kernel_rfl) (by kernel_rfl) (by kernel_rfl) hW.cls (Rd.pure fun _ => by kernel_rfl) ?_; clear hA ac; intro ac hA
  refine wpList_nil ?_
  refine thenN ?_
  refine wp_cond_split (t := (((l.length : Nat) : Int) : Int) != (((r.length : Nat) : Int) : Int)) (hA.eval (by kernel_rfl)) (fun h1 => ?_) (fun h1 => ?_)
  · skip
    have h1 := bne_iff_ne.1 h1
    first
    | (exfalso; clear hA hW; omega)
    | (
        refine wp_seq ?_
        refine wp_region_lit ?_
        refine st_rd (v := Value.bool false) hA (by kernel_rfl) (by kernel_rfl) (by kernel_rfl) hW.cls (Rd.pure fun _ => by kernel_rfl) ?_; clear hA ac; intro ac hA
        refine wpList_nil ?_
        refine thenN ?_
        refine wp_ret ?_
        refine thenR ?_
        refine ret1 (v := Value.bool false) (by rfl) hA (Got.tmp hA (by kernel_rfl) (by kernel_rfl)) ?_
        clear hA
        refine ⟨retv (congrArg Value.bool (decide_eq_false ?_).symm), hW.fr⟩
        intro e; subst e; exact absurd rfl (by omega))
  · skip
    have h1 := of_bne_f h1
    first
    | (exfalso; clear hA hW; omega)
    | (
        refine wp_skip ?_
        refine thenN ?_
        refine wp_seq ?_
        refine wp_seq ?_
        refine wp_region_lit ?_
        refine st_rd (v := Value.int .i64 0) hA (by kernel_rfl) (by kernel_rfl) (by kernel_rfl) hW.cls (Rd.pure fun _ => by kernel_rfl) ?_; clear hA ac; intro ac hA
        refine wpList_nil ?_
        refine thenN ?_
        refine wp_block ?_
        refine wp_loop_m (fun m_ ac_ wl_ => ∃ k : Nat, m_ = l.length - k ∧ (k ≤ l.length) ∧ (l.take k = r.take k) ∧ Fm 26 [] [(0, Value.slice A_l l.length c_l), (1, Value.slice A_r r.length c_r), (5, Value.int .i64 ((k : Nat) : Int))] ac_ ∧ Ws w No [] [roR A_r 10 enFlag r, roR A_l 10 enFlag l] wl_) _ ⟨0, rfl, by omega, by rfl, hA.sub ⟨⟨by kernel_rfl, by kernel_rfl⟩, ⟨by kernel_rfl, by kernel_rfl⟩, ⟨by kernel_rfl, by kernel_rfl⟩, trivial⟩, (hW.pick [] (by decide) rfl).pickG [0, 1] rfl⟩ ?_
        clear hA ac hW; rintro m_ ac w2 ⟨k, rfl, hk, hn, hA, hW⟩
        refine wp_seq ?_
        refine wp_seq ?_
        refine wp_region_lit ?_
        refine st_rd (v := Value.int .i64 ((k : Nat) : Int)) hA (by kernel_rfl) (by kernel_rfl) (by kernel_rfl) hW.cls (Rd.pure fun _ => by kernel_rfl) ?_; clear hA ac; intro ac hA
        refine st_rd (v := Value.slice A_l l.length c_l) hA (by kernel_rfl) (by kernel_rfl) (by kernel_rfl) hW.cls (Rd.pure fun _ => by kernel_rfl) ?_; clear hA ac; intro ac hA
        refine st_rd (v := Value.int .i64 ((l.length : Nat) : Int)) hA (by kernel_rfl) (by kernel_rfl) (by kernel_rfl) hW.cls (Rd.pure fun _ => by kernel_rfl) ?_; clear hA ac; intro ac hA
        refine st_rd (v := Value.bool (decide ((((k : Nat) : Int) : Int) < (((l.length : Nat) : Int) : Int)))) hA (by kernel_rfl) (by kernel_rfl) (by kernel_rfl) hW.cls (Rd.pure fun _ => by kernel_rfl) ?_; clear hA ac; intro ac hA
        refine wpList_nil ?_
        refine thenN ?_
        refine wp_cond_split (t := decide ((((k : Nat) : Int) : Int) < (((l.length : Nat) : Int) : Int))) (hA.eval (by kernel_rfl)) (fun h3 => ?_) (fun h3 => ?_)
        · skip
          have h3 := of_decide_eq_true h3
          first
          | (exfalso; clear hA hW; omega)
          | (
              refine wp_skip ?_
              refine thenN ?_
              refine wp_seq ?_
              refine wp_block ?_
              refine wp_seq ?_
              refine q_region (by kernel_rfl) (by kernel_rfl) hW ?_
              refine sq_rd (v := Value.slice A_l l.length c_l) hA (by kernel_rfl) (by kernel_rfl) (by kernel_rfl) (Rd.pure fun _ => by kernel_rfl) ?_; clear hA ac; intro ac hA
              refine sq_rd (v := Value.int .i64 ((k : Nat) : Int)) hA (by kernel_rfl) (by kernel_rfl) (by kernel_rfl) (Rd.pure fun _ => by kernel_rfl) ?_; clear hA ac; intro ac hA
              obtain ⟨y4, hy4⟩ : ∃ y, l[k]? = some y := ⟨_, List.getElem?_eq_getElem (by first | omega | (simp; done) | (simp; omega))⟩
              obtain ⟨b5, o6, rfl, hbb5⟩ := row_some ((hW).getG 1 rfl) hy4
              refine sq_rd (v := Value.pointer (some ⟨b5, o6 + k * 10, none⟩)) hA (by kernel_rfl) (by kernel_rfl) (by kernel_rfl) (Rd.indexAddr (e := 43) (sz := 10) (b := b5) (off := o6) (n := l.length) (c := c_l) (k := k) (by kernel_rfl) (by kernel_rfl) (by first | omega | (simp; done) | (simp; omega)) (fun _ => by kernel_rfl) (fun _ => by kernel_rfl)) ?_; clear hA ac; intro ac hA
              refine sq_rd (v := Value.agg #[Value.int .i64 y4.at_, Value.int .u32 y4.addr, Value.int .i64 y4.e.g, Value.int .i64 y4.e.s.f, Value.int .i64 y4.e.s.pc, Value.int .i64 y4.e.k, Value.int .i64 y4.l.g, Value.int .i64 y4.l.s.f, Value.int .i64 y4.l.s.pc, Value.int .i64 y4.l.k]) hA (by kernel_rfl) (by kernel_rfl) (by kernel_rfl) (Rd.loadRow (b := b5) (i := o6 + k * 10) (xs := [Value.int .i64 y4.at_, Value.int .u32 y4.addr, Value.int .i64 y4.e.g, Value.int .i64 y4.e.s.f, Value.int .i64 y4.e.s.pc, Value.int .i64 y4.e.k, Value.int .i64 y4.l.g, Value.int .i64 y4.l.s.f, Value.int .i64 y4.l.s.pc, Value.int .i64 y4.l.k]) (by kernel_rfl) (fun _ hw => row_ld ((hw.1).getG 1 rfl) hy4 (Fr.refl No _) (fun h => h) 0 10 (by kernel_rfl)) (by kernel_rfl)) ?_; clear hA ac; intro ac hA
              refine sq_rd (v := Value.slice A_r r.length c_r) hA (by kernel_rfl) (by kernel_rfl) (by kernel_rfl) (Rd.pure fun _ => by kernel_rfl) ?_; clear hA ac; intro ac hA
              refine sq_rd (v := Value.int .i64 ((k : Nat) : Int)) hA (by kernel_rfl) (by kernel_rfl) (by kernel_rfl) (Rd.pure fun _ => by kernel_rfl) ?_; clear hA ac; intro ac hA
              obtain ⟨y7, hy7⟩ : ∃ y, r[k]? = some y := ⟨_, List.getElem?_eq_getElem (by first | omega | (simp; done) | (simp; omega))⟩
              obtain ⟨b8, o9, rfl, hbb8⟩ := row_some ((hW).getG 0 rfl) hy7
              refine sq_rd (v := Value.pointer (some ⟨b8, o9 + k * 10, none⟩)) hA (by kernel_rfl) (by kernel_rfl) (by kernel_rfl) (Rd.indexAddr (e := 43) (sz := 10) (b := b8) (off := o9) (n := r.length) (c := c_r) (k := k) (by kernel_rfl) (by kernel_rfl) (by first | omega | (simp; done) | (simp; omega)) (fun _ => by kernel_rfl) (fun _ => by kernel_rfl)) ?_; clear hA ac; intro ac hA
              refine sq_rd (v := Value.agg #[Value.int .i64 y7.at_, Value.int .u32 y7.addr, Value.int .i64 y7.e.g, Value.int .i64 y7.e.s.f, Value.int .i64 y7.e.s.pc, Value.int .i64 y7.e.k, Value.int .i64 y7.l.g, Value.int .i64 y7.l.s.f, Value.int .i64 y7.l.s.pc, Value.int .i64 y7.l.k]) hA (by kernel_rfl) (by kernel_rfl) (by kernel_rfl) (Rd.loadRow (b := b8) (i := o9 + k * 10) (xs := [Value.int .i64 y7.at_, Value.int .u32 y7.addr, Value.int .i64 y7.e.g, Value.int .i64 y7.e.s.f, Value.int .i64 y7.e.s.pc, Value.int .i64 y7.e.k, Value.int .i64 y7.l.g, Value.int .i64 y7.l.s.f, Value.int .i64 y7.l.s.pc, Value.int .i64 y7.l.k]) (by kernel_rfl) (fun _ hw => row_ld ((hw.1).getG 0 rfl) hy7 (Fr.refl No _) (fun h => h) 0 10 (by kernel_rfl)) (by kernel_rfl)) ?_; clear hA ac; intro ac hA
              refine sq_rd (v := Value.bool (!decide (y4 = y7))) hA (by kernel_rfl) (by kernel_rfl) (by kernel_rfl) (Rd.neS (u := y4.v) (v := y7.v) (by kernel_rfl) (by kernel_rfl) rfl rfl (by kernel_rfl) (fun w => eq_Flag w y4 y7)) ?_; clear hA ac; intro ac hA
              refine sq_nil ?_; intro w10 hww10; have hW := hww10.1; have hfw10 := hww10.2; clear hww10
              refine thenN ?_
              refine wp_cond_split (t := !decide (y4 = y7)) (hA.eval (by kernel_rfl)) (fun h11 => ?_) (fun h11 => ?_)
              · skip
                have h11 := not_t h11
                have h11 := of_decide_eq_false h11
                have h11e := fun e => h11 ((Flag.eqi _ _).2 e)
                first
                | (exfalso; clear hA hW; omega)
                | (
                    refine wp_seq ?_
                    refine wp_region_lit ?_
                    refine st_rd (v := Value.bool false) hA (by kernel_rfl) (by kernel_rfl) (by kernel_rfl) hW.cls (Rd.pure fun _ => by kernel_rfl) ?_; clear hA ac; intro ac hA
                    refine wpList_nil ?_
                    refine thenN ?_
                    refine wp_ret ?_
                    refine blkR ?_
                    refine thenR ?_
                    refine thenR ?_
                    refine blkR ?_
                    refine thenR ?_
                    refine ret1 (v := Value.bool false) (by rfl) hA (Got.tmp hA (by kernel_rfl) (by kernel_rfl)) ?_
                    clear hA
                    refine ⟨retv (congrArg Value.bool (decide_eq_false ?_).symm), hW.fr⟩
                    intro e; subst e; rw [hy4] at hy7; exact h11 (Option.some.inj hy7))
              · skip
                have h11 := not_f h11
                have h11 := of_decide_eq_true h11
                have h11e := (Flag.eqi _ _).1 h11
                first
                | (exfalso; clear hA hW; omega)
                | (
                    refine wp_skip ?_
                    refine blkN ?_
                    refine thenN ?_
                    refine wp_region_lit ?_
                    refine st_rd (v := Value.int .i64 ((k : Nat) : Int)) hA (by kernel_rfl) (by kernel_rfl) (by kernel_rfl) hW.cls (Rd.pure fun _ => by kernel_rfl) ?_; clear hA ac; intro ac hA
                    refine st_rd (v := Value.int .i64 ((k + 1 : Nat) : Int)) hA (by kernel_rfl) (by kernel_rfl) (by kernel_rfl) hW.cls (Rd.pureE (v0 := Value.int .i64 (IntKind.i64.wrap ((((k : Nat) : Int) : Int) + 1))) (fun _ => by kernel_rfl) (congrArg (Value.int .i64) ((w_i64 (x := (((k : Nat) : Int) : Int) + 1) (by omega) (by omega)).trans (by omega)))) ?_; clear hA ac; intro ac hA
                    refine st_rd (v := Value.int .i64 ((k + 1 : Nat) : Int)) hA (by kernel_rfl) (by kernel_rfl) (by kernel_rfl) hW.cls (Rd.pure fun _ => by kernel_rfl) ?_; clear hA ac; intro ac hA
                    refine wpList_nil ?_
                    refine thenN ?_
                    exact ⟨l.length - (k + 1), by omega, k + 1, rfl, by omega, by rw [take_snoc hy4, take_snoc hy7, hn, h11], hA.sub ⟨⟨by kernel_rfl, by kernel_rfl⟩, ⟨by kernel_rfl, by kernel_rfl⟩, ⟨by kernel_rfl, by kernel_rfl⟩, trivial⟩, (hW.pick [] (by decide) rfl).pickG [0, 1] rfl⟩))
        · skip
          have h3 := of_decide_eq_false h3
          first
          | (exfalso; clear hA hW; omega)
          | (
              refine wp_exit ?_
              refine thenX ?_
              refine thenX ?_
              refine blkX ?_
              refine thenN ?_
              refine wp_seq ?_
              refine wp_region_lit ?_
              refine st_rd (v := Value.bool true) hA (by kernel_rfl) (by kernel_rfl) (by kernel_rfl) hW.cls (Rd.pure fun _ => by kernel_rfl) ?_; clear hA ac; intro ac hA
              refine wpList_nil ?_
              refine thenN ?_
              refine wp_ret ?_
              refine ret1 (v := Value.bool true) (by rfl) hA (Got.tmp hA (by kernel_rfl) (by kernel_rfl)) ?_
              clear hA
              refine ⟨retv (congrArg Value.bool (decide_eq_true ?_).symm), hW.fr⟩
              exact take_all (by omega) (by omega) hn))

set_option maxRecDepth 100000 in
theorem e_add07 (A_l : Option Addr) (c_l : Nat) (l : List Pair) (p : Pair) (w : World) (hr_l : RowAt w A_l 4 enPair l) (hc_l : l.length ≤ c_l) (hl : l.length ≤ 900) (hp : p ∉ l) : Calls Try.prog 39 #[Value.slice A_l l.length c_l, p.v] w (fun e w' => ∃ k : Nat, ∃ (A_o : Option Addr) (c_o : Nat), e = .returned (Value.slice A_o (l.take k ++ [p] ++ l.drop k).length c_o) ∧ (k ≤ l.length) ∧ (l.take k ++ [p] ++ l.drop k).length ≤ c_o ∧ (roR A_o 4 enPair (l.take k ++ [p] ++ l.drop k)).from_ [roR A_l 4 enPair l] w w' ∧ Fr No w w') := by
  have _hu := hc_l; have _hv := hr_l; clear _hu _hv
  have _hu := hl; clear _hu
  have _hu := hp; clear _hu
  refine enter_E 60 Try.func39 rfl rfl (by kernel_rfl) (L := [(0, Value.slice A_l l.length c_l), (1, p.v)]) (by kernel_rfl) ?_
  intro ac hA
  have hW := Ws.start w No
  have hW := hW.arg hr_l
  refine wp_seq ?_
  refine wp_region_lit ?_
  refine st hA (by kernel_rfl) (by kernel_rfl) (by kernel_rfl) (Runs.cells (fun b => Value.pointer (some ⟨b, 0, none⟩)) #[Value.int .i64 p.a.f, Value.int .i64 p.a.pc, Value.int .i64 p.b.f, Value.int .i64 p.b.pc] 54 (fun _ => by kernel_rfl) hW ?_); clear hA ac hW; intro b1 w2 hW hb1 hfw2 ac hA
  refine st_rd (v := Value.slice none 0 0) hA (by kernel_rfl) (by kernel_rfl) (by kernel_rfl) hW.cls (Rd.pure fun _ => by kernel_rfl) ?_; clear hA ac; intro ac hA
  refine wpList_nil ?_
  refine thenN ?_
  refine wp_seq ?_
  refine wp_seq ?_
  refine wp_region_lit ?_
  refine st_rd (v := Value.slice A_l l.length c_l) hA (by kernel_rfl) (by kernel_rfl) (by kernel_rfl) hW.cls (Rd.pure fun _ => by kernel_rfl) ?_; clear hA ac; intro ac hA
  refine st_rd (v := Value.agg #[Value.int .i64 p.a.f, Value.int .i64 p.a.pc, Value.int .i64 p.b.f, Value.int .i64 p.b.pc]) hA (by kernel_rfl) (by kernel_rfl) (by kernel_rfl) hW.cls (Rd.load (b := b1) (i := 0) (by kernel_rfl) (fun _ hw => (hw.1).cel 0 rfl) (by kernel_rfl)) ?_; clear hA ac; intro ac hA
  refine st hA (by kernel_rfl) (by kernel_rfl) (by kernel_rfl) (Runs.callN (v := Value.bool (decide (p ∈ l))) (fun _ => by kernel_rfl) hW (e_has07 A_l c_l l p w2 ((hW).getG 0 rfl) (by first | assumption | omega | (simp; omega) | simp) (by first | omega | (simp; done))) ?_); clear hA ac hW; intro w3 hW hfw3 ac hA
  refine wpList_nil ?_
  refine thenN ?_
  refine wp_cond_split (t := decide (p ∈ l)) (hA.eval (by kernel_rfl)) (fun h4 => ?_) (fun h4 => ?_)
  · skip
    first
    | (exfalso; clear hA hW; omega)
    | (exfalso; clear hA hW; exact absurd (of_decide_eq_true ‹_›) hp; done)
    | (
        refine wp_seq ?_
        refine wp_region_lit ?_
        refine st_rd (v := Value.slice A_l l.length c_l) hA (by kernel_rfl) (by kernel_rfl) (by kernel_rfl) hW.cls (Rd.pure fun _ => by kernel_rfl) ?_; clear hA ac; intro ac hA
        refine st_rd (v := Value.slice A_l l.length c_l) hA (by kernel_rfl) (by kernel_rfl) (by kernel_rfl) hW.cls (Rd.pure fun _ => by kernel_rfl) ?_; clear hA ac; intro ac hA
        refine wpList_nil ?_
        refine thenN ?_
        refine wp_ret ?_
        refine thenR ?_
        refine ret1 (v := Value.slice A_l l.length c_l) (by rfl) hA (Got.tmp hA (by kernel_rfl) (by kernel_rfl)) ?_
        clear hA
        exact ⟨k, A_l, c_l, by first | rfl | (simp; done), by omega, (by first | assumption | omega | (simp; omega) | simp), (hW.outSrc 0 rfl (src_arg (.head _))), hW.fr⟩)
  · skip
    first
    | (exfalso; clear hA hW; omega)
    | (exfalso; clear hA hW; exact absurd (of_decide_eq_true ‹_›) hp; done)
    | (
        refine wp_skip ?_
        refine thenN ?_
        refine wp_seq ?_
        refine wp_region_lit ?_
        refine st_rd (v := Value.int .i64 0) hA (by kernel_rfl) (by kernel_rfl) (by kernel_rfl) hW.cls (Rd.pure fun _ => by kernel_rfl) ?_; clear hA ac; intro ac hA
        refine wpList_nil ?_
        refine thenN ?_
        refine wp_seq ?_
        refine wp_block ?_
        refine wp_loop_m (fun m_ ac_ wl_ => ∃ k : Nat, m_ = l.length - k ∧ (k ≤ l.length) ∧ Fm 60 [] [(0, Value.slice A_l l.length c_l), (3, Value.pointer (some ⟨b1, 0, none⟩)), (5, Value.int .i64 ((k : Nat) : Int))] ac_ ∧ Ws w No [Cel b1 #[Value.int .i64 p.a.f, Value.int .i64 p.a.pc, Value.int .i64 p.b.f, Value.int .i64 p.b.pc] 54] [roR A_l 4 enPair l] wl_) _ ⟨0, rfl, by omega, hA.sub ⟨⟨by kernel_rfl, by kernel_rfl⟩, ⟨by kernel_rfl, by kernel_rfl⟩, ⟨by kernel_rfl, by kernel_rfl⟩, trivial⟩, (hW.pick [0] (by decide) rfl).pickG [0] rfl⟩ ?_
        clear hA ac hW; rintro m_ ac w5 ⟨k, rfl, hk, hA, hW⟩
        refine wp_seq ?_
        refine wp_seq ?_
        refine q_region (by kernel_rfl) (by kernel_rfl) hW ?_
        refine sq_rd (v := Value.int .i64 ((k : Nat) : Int)) hA (by kernel_rfl) (by kernel_rfl) (by kernel_rfl) (Rd.pure fun _ => by kernel_rfl) ?_; clear hA ac; intro ac hA
        refine sq_rd (v := Value.slice A_l l.length c_l) hA (by kernel_rfl) (by kernel_rfl) (by kernel_rfl) (Rd.pure fun _ => by kernel_rfl) ?_; clear hA ac; intro ac hA
        refine sq_rd (v := Value.int .i64 ((l.length : Nat) : Int)) hA (by kernel_rfl) (by kernel_rfl) (by kernel_rfl) (Rd.pure fun _ => by kernel_rfl) ?_; clear hA ac; intro ac hA
        refine sq_rd (v := Value.bool (decide ((((k : Nat) : Int) : Int) < (((l.length : Nat) : Int) : Int)))) hA (by kernel_rfl) (by kernel_rfl) (by kernel_rfl) (Rd.pure fun _ => by kernel_rfl) ?_; clear hA ac; intro ac hA
        refine sq_rd (v := Value.bool (decide ((((k : Nat) : Int) : Int) < (((l.length : Nat) : Int) : Int)))) hA (by kernel_rfl) (by kernel_rfl) (by kernel_rfl) (Rd.pure fun _ => by kernel_rfl) ?_; clear hA ac; intro ac hA
        rcases Bool.eq_false_or_eq_true (decide ((((k : Nat) : Int) : Int) < (((l.length : Nat) : Int) : Int))) with h6 | h6
        · skip
          rw [h6] at hA
          have h6 := of_decide_eq_true h6
          first
          | (exfalso; clear hA hW; omega)
          | (exfalso; clear hA hW; exact absurd (of_decide_eq_true ‹_›) hp; done)
          | (
              refine sq_rd (v := Value.slice A_l l.length c_l) hA (by kernel_rfl) (by kernel_rfl) (by kernel_rfl) (Rd.pure fun _ => by kernel_rfl) ?_; clear hA ac; intro ac hA
              refine sq_rd (v := Value.int .i64 ((k : Nat) : Int)) hA (by kernel_rfl) (by kernel_rfl) (by kernel_rfl) (Rd.pure fun _ => by kernel_rfl) ?_; clear hA ac; intro ac hA
              obtain ⟨y7, hy7⟩ : ∃ y, l[k]? = some y := ⟨_, List.getElem?_eq_getElem (by first | omega | (simp; done) | (simp; omega))⟩
              obtain ⟨b8, o9, rfl, hbb8⟩ := row_some ((hW).getG 0 rfl) hy7
              refine sq_rd (v := Value.pointer (some ⟨b8, o9 + k * 4, none⟩)) hA (by kernel_rfl) (by kernel_rfl) (by kernel_rfl) (Rd.indexAddr (e := 54) (sz := 4) (b := b8) (off := o9) (n := l.length) (c := c_l) (k := k) (by kernel_rfl) (by kernel_rfl) (by first | omega | (simp; done) | (simp; omega)) (fun _ => by kernel_rfl) (fun _ => by kernel_rfl)) ?_; clear hA ac; intro ac hA
              refine sq_rd (v := Value.pointer (some ⟨b8, o9 + k * 4, none⟩)) hA (by kernel_rfl) (by kernel_rfl) (by kernel_rfl) (Rd.pure fun _ => by kernel_rfl) ?_; clear hA ac; intro ac hA
              refine sq_rd (v := Value.agg #[Value.int .i64 y7.a.f, Value.int .i64 y7.a.pc]) hA (by kernel_rfl) (by kernel_rfl) (by kernel_rfl) (Rd.loadRow (b := b8) (i := o9 + k * 4) (xs := [Value.int .i64 y7.a.f, Value.int .i64 y7.a.pc]) (by kernel_rfl) (fun _ hw => row_ld ((hw.1).getG 0 rfl) hy7 (Fr.refl No _) (fun h => h) 0 2 (by kernel_rfl)) (by kernel_rfl)) ?_; clear hA ac; intro ac hA
              refine sq_rd (v := Value.pointer (some ⟨b1, 0, none⟩)) hA (by kernel_rfl) (by kernel_rfl) (by kernel_rfl) (Rd.pure fun _ => by kernel_rfl) ?_; clear hA ac; intro ac hA
              refine sq_rd (v := Value.agg #[Value.int .i64 p.a.f, Value.int .i64 p.a.pc]) hA (by kernel_rfl) (by kernel_rfl) (by kernel_rfl) (Rd.load (b := b1) (i := 0) (by kernel_rfl) (fun _ hw => (hw.1).cel 0 rfl) (by kernel_rfl)) ?_; clear hA ac; intro ac hA
              refine sq_call (v := Value.int .i64 (Site.cmp y7.a p.a)) hA (by kernel_rfl) (by kernel_rfl) (by kernel_rfl) (fun _ => by kernel_rfl) (Cls.callNC fun wx hwx => e_order07 y7.a p.a wx) ?_; clear hA ac; intro ac hA
              refine sq_rd (v := Value.bool (decide ((Site.cmp y7.a p.a : Int) < (0 : Int)))) hA (by kernel_rfl) (by kernel_rfl) (by kernel_rfl) (Rd.pure fun _ => by kernel_rfl) ?_; clear hA ac; intro ac hA
              refine sq_rd (v := Value.bool (decide ((Site.cmp y7.a p.a : Int) < (0 : Int)))) hA (by kernel_rfl) (by kernel_rfl) (by kernel_rfl) (Rd.pure fun _ => by kernel_rfl) ?_; clear hA ac; intro ac hA
              rcases Bool.eq_false_or_eq_true (decide ((Site.cmp y7.a p.a : Int) < (0 : Int))) with h10 | h10
              · skip
                rw [h10] at hA
                have h10 := of_decide_eq_true h10
                first
                | (exfalso; clear hA hW; omega)
                | (exfalso; clear hA hW; exact absurd (of_decide_eq_true ‹_›) hp; done)
                | (
                    refine sq_skip hA (by kernel_rfl) (by kernel_rfl) ?_; clear hA ac; intro ac hA
                    refine sq_skip hA (by kernel_rfl) (by kernel_rfl) ?_; clear hA ac; intro ac hA
                    refine sq_skip hA (by kernel_rfl) (by kernel_rfl) ?_; clear hA ac; intro ac hA
                    refine sq_skip hA (by kernel_rfl) (by kernel_rfl) ?_; clear hA ac; intro ac hA
                    refine sq_skip hA (by kernel_rfl) (by kernel_rfl) ?_; clear hA ac; intro ac hA
                    refine sq_skip hA (by kernel_rfl) (by kernel_rfl) ?_; clear hA ac; intro ac hA
                    refine sq_skip hA (by kernel_rfl) (by kernel_rfl) ?_; clear hA ac; intro ac hA
                    refine sq_skip hA (by kernel_rfl) (by kernel_rfl) ?_; clear hA ac; intro ac hA
                    refine sq_skip hA (by kernel_rfl) (by kernel_rfl) ?_; clear hA ac; intro ac hA
                    refine sq_skip hA (by kernel_rfl) (by kernel_rfl) ?_; clear hA ac; intro ac hA
                    refine sq_skip hA (by kernel_rfl) (by kernel_rfl) ?_; clear hA ac; intro ac hA
                    refine sq_skip hA (by kernel_rfl) (by kernel_rfl) ?_; clear hA ac; intro ac hA
                    refine sq_skip hA (by kernel_rfl) (by kernel_rfl) ?_; clear hA ac; intro ac hA
                    refine sq_skip hA (by kernel_rfl) (by kernel_rfl) ?_; clear hA ac; intro ac hA
                    refine sq_skip hA (by kernel_rfl) (by kernel_rfl) ?_; clear hA ac; intro ac hA
                    refine sq_skip hA (by kernel_rfl) (by kernel_rfl) ?_; clear hA ac; intro ac hA
                    refine sq_skip hA (by kernel_rfl) (by kernel_rfl) ?_; clear hA ac; intro ac hA
                    refine sq_skip hA (by kernel_rfl) (by kernel_rfl) ?_; clear hA ac; intro ac hA
                    refine sq_skip hA (by kernel_rfl) (by kernel_rfl) ?_; clear hA ac; intro ac hA
                    refine sq_rd (v := Value.bool true) hA (by kernel_rfl) (by kernel_rfl) (by kernel_rfl) (Rd.pure fun _ => by kernel_rfl) ?_; clear hA ac; intro ac hA
                    refine sq_rd (v := Value.bool true) hA (by kernel_rfl) (by kernel_rfl) (by kernel_rfl) (Rd.pure fun _ => by kernel_rfl) ?_; clear hA ac; intro ac hA
                    refine sq_nil ?_; intro w11 hww11; have hW := hww11.1; have hfw11 := hww11.2; clear hww11
                    refine thenN ?_
                    refine wp_cond_true (hA.eval (by kernel_rfl)) ?_
                    refine wp_skip ?_
                    refine thenN ?_
                    refine wp_block ?_
                    refine wp_region_lit ?_
                    refine st_rd (v := Value.int .i64 ((k : Nat) : Int)) hA (by kernel_rfl) (by kernel_rfl) (by kernel_rfl) hW.cls (Rd.pure fun _ => by kernel_rfl) ?_; clear hA ac; intro ac hA
                    refine st_rd (v := Value.int .i64 ((k + 1 : Nat) : Int)) hA (by kernel_rfl) (by kernel_rfl) (by kernel_rfl) hW.cls (Rd.pureE (v0 := Value.int .i64 (IntKind.i64.wrap ((((k : Nat) : Int) : Int) + 1))) (fun _ => by kernel_rfl) (congrArg (Value.int .i64) ((w_i64 (x := (((k : Nat) : Int) : Int) + 1) (by omega) (by omega)).trans (by omega)))) ?_; clear hA ac; intro ac hA
                    refine st_rd (v := Value.int .i64 ((k + 1 : Nat) : Int)) hA (by kernel_rfl) (by kernel_rfl) (by kernel_rfl) hW.cls (Rd.pure fun _ => by kernel_rfl) ?_; clear hA ac; intro ac hA
                    refine wpList_nil ?_
                    refine blkN ?_
                    refine thenN ?_
                    exact ⟨l.length - (k + 1), by omega, k + 1, rfl, by omega, hA.sub ⟨⟨by kernel_rfl, by kernel_rfl⟩, ⟨by kernel_rfl, by kernel_rfl⟩, ⟨by kernel_rfl, by kernel_rfl⟩, trivial⟩, (hW.pick [0] (by decide) rfl).pickG [0] rfl⟩)
              · skip
                rw [h10] at hA
                have h10 := of_decide_eq_false h10
                first
                | (exfalso; clear hA hW; omega)
                | (exfalso; clear hA hW; exact absurd (of_decide_eq_true ‹_›) hp; done)
                | (
                    refine sq_rd (v := Value.slice (some ⟨b8, o9, none⟩) l.length c_l) hA (by kernel_rfl) (by kernel_rfl) (by kernel_rfl) (Rd.pure fun _ => by kernel_rfl) ?_; clear hA ac; intro ac hA
                    refine sq_rd (v := Value.int .i64 ((k : Nat) : Int)) hA (by kernel_rfl) (by kernel_rfl) (by kernel_rfl) (Rd.pure fun _ => by kernel_rfl) ?_; clear hA ac; intro ac hA
                    refine sq_rd (v := Value.pointer (some ⟨b8, o9 + k * 4, none⟩)) hA (by kernel_rfl) (by kernel_rfl) (by kernel_rfl) (Rd.indexAddr (e := 54) (sz := 4) (b := b8) (off := o9) (n := l.length) (c := c_l) (k := k) (by kernel_rfl) (by kernel_rfl) (by first | omega | (simp; done) | (simp; omega)) (fun _ => by kernel_rfl) (fun _ => by kernel_rfl)) ?_; clear hA ac; intro ac hA
                    refine sq_rd (v := Value.pointer (some ⟨b8, o9 + k * 4, none⟩)) hA (by kernel_rfl) (by kernel_rfl) (by kernel_rfl) (Rd.pure fun _ => by kernel_rfl) ?_; clear hA ac; intro ac hA
                    refine sq_rd (v := Value.agg #[Value.int .i64 y7.a.f, Value.int .i64 y7.a.pc]) hA (by kernel_rfl) (by kernel_rfl) (by kernel_rfl) (Rd.loadRow (b := b8) (i := o9 + k * 4) (xs := [Value.int .i64 y7.a.f, Value.int .i64 y7.a.pc]) (by kernel_rfl) (fun _ hw => row_ld ((hw.1).getG 0 rfl) hy7 (Fr.refl No _) (fun h => h) 0 2 (by kernel_rfl)) (by kernel_rfl)) ?_; clear hA ac; intro ac hA
                    refine sq_rd (v := Value.pointer (some ⟨b1, 0, none⟩)) hA (by kernel_rfl) (by kernel_rfl) (by kernel_rfl) (Rd.pure fun _ => by kernel_rfl) ?_; clear hA ac; intro ac hA
                    refine sq_rd (v := Value.agg #[Value.int .i64 p.a.f, Value.int .i64 p.a.pc]) hA (by kernel_rfl) (by kernel_rfl) (by kernel_rfl) (Rd.load (b := b1) (i := 0) (by kernel_rfl) (fun _ hw => (hw.1).cel 0 rfl) (by kernel_rfl)) ?_; clear hA ac; intro ac hA
                    refine sq_rd (v := Value.bool (decide (y7.a = p.a))) hA (by kernel_rfl) (by kernel_rfl) (by kernel_rfl) (Rd.eqS (u := y7.a.v) (v := p.a.v) (by kernel_rfl) (by kernel_rfl) rfl rfl (by kernel_rfl) (fun w => eq_Site w y7.a p.a)) ?_; clear hA ac; intro ac hA
                    refine sq_rd (v := Value.bool (decide (y7.a = p.a))) hA (by kernel_rfl) (by kernel_rfl) (by kernel_rfl) (Rd.pure fun _ => by kernel_rfl) ?_; clear hA ac; intro ac hA
                    rcases Bool.eq_false_or_eq_true (decide (y7.a = p.a)) with h12 | h12
                    · skip
                      rw [h12] at hA
                      have h12 := of_decide_eq_true h12
                      have h12e := (Site.eqi _ _).1 h12
                      first
                      | (exfalso; clear hA hW; omega)
                      | (exfalso; clear hA hW; exact absurd (of_decide_eq_true ‹_›) hp; done)
                      | (
                          refine sq_rd (v := Value.slice (some ⟨b8, o9, none⟩) l.length c_l) hA (by kernel_rfl) (by kernel_rfl) (by kernel_rfl) (Rd.pure fun _ => by kernel_rfl) ?_; clear hA ac; intro ac hA
                          refine sq_rd (v := Value.int .i64 ((k : Nat) : Int)) hA (by kernel_rfl) (by kernel_rfl) (by kernel_rfl) (Rd.pure fun _ => by kernel_rfl) ?_; clear hA ac; intro ac hA
                          refine sq_rd (v := Value.pointer (some ⟨b8, o9 + k * 4, none⟩)) hA (by kernel_rfl) (by kernel_rfl) (by kernel_rfl) (Rd.indexAddr (e := 54) (sz := 4) (b := b8) (off := o9) (n := l.length) (c := c_l) (k := k) (by kernel_rfl) (by kernel_rfl) (by first | omega | (simp; done) | (simp; omega)) (fun _ => by kernel_rfl) (fun _ => by kernel_rfl)) ?_; clear hA ac; intro ac hA
                          refine sq_rd (v := Value.pointer (some ⟨b8, o9 + k * 4 + 2, none⟩)) hA (by kernel_rfl) (by kernel_rfl) (by kernel_rfl) (Rd.pure fun _ => by kernel_rfl) ?_; clear hA ac; intro ac hA
                          refine sq_rd (v := Value.agg #[Value.int .i64 y7.b.f, Value.int .i64 y7.b.pc]) hA (by kernel_rfl) (by kernel_rfl) (by kernel_rfl) (Rd.loadRow (b := b8) (i := o9 + k * 4 + 2) (xs := [Value.int .i64 y7.b.f, Value.int .i64 y7.b.pc]) (by kernel_rfl) (fun _ hw => row_ld ((hw.1).getG 0 rfl) hy7 (Fr.refl No _) (fun h => h) 2 2 (by kernel_rfl)) (by kernel_rfl)) ?_; clear hA ac; intro ac hA
                          refine sq_rd (v := Value.pointer (some ⟨b1, 2, none⟩)) hA (by kernel_rfl) (by kernel_rfl) (by kernel_rfl) (Rd.pure fun _ => by kernel_rfl) ?_; clear hA ac; intro ac hA
                          refine sq_rd (v := Value.agg #[Value.int .i64 p.b.f, Value.int .i64 p.b.pc]) hA (by kernel_rfl) (by kernel_rfl) (by kernel_rfl) (Rd.load (b := b1) (i := 2) (by kernel_rfl) (fun _ hw => (hw.1).cel 0 rfl) (by kernel_rfl)) ?_; clear hA ac; intro ac hA
                          refine sq_call (v := Value.int .i64 (Site.cmp y7.b p.b)) hA (by kernel_rfl) (by kernel_rfl) (by kernel_rfl) (fun _ => by kernel_rfl) (Cls.callNC fun wx hwx => e_order07 y7.b p.b wx) ?_; clear hA ac; intro ac hA
                          refine sq_rd (v := Value.bool (decide ((Site.cmp y7.b p.b : Int) < (0 : Int)))) hA (by kernel_rfl) (by kernel_rfl) (by kernel_rfl) (Rd.pure fun _ => by kernel_rfl) ?_; clear hA ac; intro ac hA
                          refine sq_rd (v := Value.bool (decide ((Site.cmp y7.b p.b : Int) < (0 : Int)))) hA (by kernel_rfl) (by kernel_rfl) (by kernel_rfl) (Rd.pure fun _ => by kernel_rfl) ?_; clear hA ac; intro ac hA
                          refine sq_rd (v := Value.bool (decide ((Site.cmp y7.b p.b : Int) < (0 : Int)))) hA (by kernel_rfl) (by kernel_rfl) (by kernel_rfl) (Rd.pure fun _ => by kernel_rfl) ?_; clear hA ac; intro ac hA
                          refine sq_rd (v := Value.bool (decide ((Site.cmp y7.b p.b : Int) < (0 : Int)))) hA (by kernel_rfl) (by kernel_rfl) (by kernel_rfl) (Rd.pure fun _ => by kernel_rfl) ?_; clear hA ac; intro ac hA
                          refine sq_nil ?_; intro w13 hww13; have hW := hww13.1; have hfw13 := hww13.2; clear hww13
                          refine thenN ?_
                          refine wp_cond_split (t := decide ((Site.cmp y7.b p.b : Int) < (0 : Int))) (hA.eval (by kernel_rfl)) (fun h14 => ?_) (fun h14 => ?_)
                          · skip
                            have h14 := of_decide_eq_true h14
                            first
                            | (exfalso; clear hA hW; omega)
                            | (exfalso; clear hA hW; exact absurd (of_decide_eq_true ‹_›) hp; done)
                            | (
                                refine wp_skip ?_
                                refine thenN ?_
                                refine wp_block ?_
                                refine wp_region_lit ?_
                                refine st_rd (v := Value.int .i64 ((k : Nat) : Int)) hA (by kernel_rfl) (by kernel_rfl) (by kernel_rfl) hW.cls (Rd.pure fun _ => by kernel_rfl) ?_; clear hA ac; intro ac hA
                                refine st_rd (v := Value.int .i64 ((k + 1 : Nat) : Int)) hA (by kernel_rfl) (by kernel_rfl) (by kernel_rfl) hW.cls (Rd.pureE (v0 := Value.int .i64 (IntKind.i64.wrap ((((k : Nat) : Int) : Int) + 1))) (fun _ => by kernel_rfl) (congrArg (Value.int .i64) ((w_i64 (x := (((k : Nat) : Int) : Int) + 1) (by omega) (by omega)).trans (by omega)))) ?_; clear hA ac; intro ac hA
                                refine st_rd (v := Value.int .i64 ((k + 1 : Nat) : Int)) hA (by kernel_rfl) (by kernel_rfl) (by kernel_rfl) hW.cls (Rd.pure fun _ => by kernel_rfl) ?_; clear hA ac; intro ac hA
                                refine wpList_nil ?_
                                refine blkN ?_
                                refine thenN ?_
                                exact ⟨l.length - (k + 1), by omega, k + 1, rfl, by omega, hA.sub ⟨⟨by kernel_rfl, by kernel_rfl⟩, ⟨by kernel_rfl, by kernel_rfl⟩, ⟨by kernel_rfl, by kernel_rfl⟩, trivial⟩, (hW.pick [0] (by decide) rfl).pickG [0] rfl⟩)
                          · skip
                            have h14 := of_decide_eq_false h14
                            first
                            | (exfalso; clear hA hW; omega)
                            | (exfalso; clear hA hW; exact absurd (of_decide_eq_true ‹_›) hp; done)
                            | (
                                refine wp_exit ?_
                                refine thenX ?_
                                refine thenX ?_
                                refine blkX ?_
                                refine thenN ?_
                                refine wp_seq ?_
                                refine wp_cut (fun ac_ wl_ => ∃ Ar6_11 : Option Addr, ∃ Ar6_4 : Option Addr, ∃ Ar6_7 : Option Addr, ∃ br6_0 : Nat, ∃ br6_6 : Nat, ∃ cr6_11 : Nat, ∃ cr6_4 : Nat, ∃ cr6_7 : Nat, ((((([] : List Pair) ++ (l.take k)) ++ ([p] : List Pair)) ++ (l.drop k)).length ≤ cr6_11) ∧ ((([] : List Pair) ++ (l.take k)).length ≤ cr6_4) ∧ (((([] : List Pair) ++ (l.take k)) ++ ([p] : List Pair)).length ≤ cr6_7) ∧ Fm 60 [] [(0, Value.slice (some ⟨b8, o9, none⟩) l.length c_l), (3, Value.pointer (some ⟨b1, 0, none⟩)), (4, Value.slice Ar6_11 (((([] : List Pair) ++ (l.take k)) ++ ([p] : List Pair)) ++ (l.drop k)).length cr6_11), (5, Value.int .i64 ((k : Nat) : Int)), (10, Value.int .i64 ((k : Nat) : Int)), (11, Value.slice (some ⟨b8, o9, none⟩) l.length c_l), (12, Value.int .i64 ((l.length : Nat) : Int)), (13, Value.bool true), (14, Value.bool true), (15, Value.slice (some ⟨b8, o9, none⟩) l.length c_l), (16, Value.int .i64 ((k : Nat) : Int)), (17, Value.pointer (some ⟨b8, o9 + k * 4, none⟩)), (18, Value.pointer (some ⟨b8, o9 + k * 4, none⟩)), (19, Value.agg #[Value.int .i64 y7.a.f, Value.int .i64 y7.a.pc]), (20, Value.pointer (some ⟨b1, 0, none⟩)), (21, Value.agg #[Value.int .i64 p.a.f, Value.int .i64 p.a.pc]), (22, Value.int .i64 (Site.cmp y7.a p.a)), (23, Value.bool false), (24, Value.bool false), (25, Value.slice (some ⟨b8, o9, none⟩) l.length c_l), (26, Value.int .i64 ((k : Nat) : Int)), (27, Value.pointer (some ⟨b8, o9 + k * 4, none⟩)), (28, Value.pointer (some ⟨b8, o9 + k * 4, none⟩)), (29, Value.agg #[Value.int .i64 y7.a.f, Value.int .i64 y7.a.pc]), (30, Value.pointer (some ⟨b1, 0, none⟩)), (31, Value.agg #[Value.int .i64 p.a.f, Value.int .i64 p.a.pc]), (32, Value.bool true), (33, Value.bool true), (34, Value.slice (some ⟨b8, o9, none⟩) l.length c_l), (35, Value.int .i64 ((k : Nat) : Int)), (36, Value.pointer (some ⟨b8, o9 + k * 4, none⟩)), (37, Value.pointer (some ⟨b8, o9 + k * 4 + 2, none⟩)), (38, Value.agg #[Value.int .i64 y7.b.f, Value.int .i64 y7.b.pc]), (39, Value.pointer (some ⟨b1, 2, none⟩)), (40, Value.agg #[Value.int .i64 p.b.f, Value.int .i64 p.b.pc]), (41, Value.int .i64 (Site.cmp y7.b p.b)), (42, Value.bool (decide ((Site.cmp y7.b p.b : Int) < (0 : Int)))), (43, Value.bool (decide ((Site.cmp y7.b p.b : Int) < (0 : Int)))), (44, Value.bool (decide ((Site.cmp y7.b p.b : Int) < (0 : Int)))), (45, Value.bool (decide ((Site.cmp y7.b p.b : Int) < (0 : Int))))] ac_ ∧ Ws w No [Cel br6_6 #[Value.int .i64 p.a.f, Value.int .i64 p.a.pc, Value.int .i64 p.b.f, Value.int .i64 p.b.pc] 54, rowR 54 4 enPair (Value.slice Ar6_11 (((([] : List Pair) ++ (l.take k)) ++ ([p] : List Pair)) ++ (l.drop k)).length cr6_11) (((([] : List Pair) ++ (l.take k)) ++ ([p] : List Pair)) ++ (l.drop k)), Cel b1 #[Value.int .i64 p.a.f, Value.int .i64 p.a.pc, Value.int .i64 p.b.f, Value.int .i64 p.b.pc] 54] [roR (some ⟨b8, o9, none⟩) 4 enPair l] wl_) ?_ ?_
                                · refine sr_region (m := 13) (C := Ws w No [Cel b1 #[Value.int .i64 p.a.f, Value.int .i64 p.a.pc, Value.int .i64 p.b.f, Value.int .i64 p.b.pc] 54] [roR (some ⟨b8, o9, none⟩) 4 enPair l]) (fun i => [5].contains i) (fun i => [0, 4, 5].contains i) (fun i => [1, 2, 3, 8, 9, 10, 12].contains i) (by kernel_rfl) (by kernel_rfl) (by kernel_rfl) (by kernel_rfl) hW ?_; clear hW; intro w15 hW hfw15 hR; have hC : Ws w No [Cel b1 #[Value.int .i64 p.a.f, Value.int .i64 p.a.pc, Value.int .i64 p.b.f, Value.int .i64 p.b.pc] 54] [roR (some ⟨b8, o9, none⟩) 4 enPair l] w15 := hW.pick [0] (by decide) rfl
                                  refine sr_pure (i := 1) (v := Value.slice (some ⟨b8, o9, none⟩) l.length c_l) hR (by kernel_rfl) rfl (by kernel_rfl) (by kernel_rfl) (fun _ _ _ h => h.elim) hA (by kernel_rfl) (by kernel_rfl) (by kernel_rfl) (Rd.pure fun _ => by kernel_rfl) ?_; clear hA ac; intro ac hA
                                  refine sr_pure (i := 2) (v := Value.int .i64 ((k : Nat) : Int)) hR (by kernel_rfl) rfl (by kernel_rfl) (by kernel_rfl) (fun _ _ _ h => h.elim) hA (by kernel_rfl) (by kernel_rfl) (by kernel_rfl) (Rd.pure fun _ => by kernel_rfl) ?_; clear hA ac; intro ac hA
                                  refine sr_pure (i := 3) (v := Value.slice (some ⟨b8, o9, none⟩) (l.take k).length c_l) hR (by kernel_rfl) rfl (by kernel_rfl) (by kernel_rfl) (fun _ _ _ h => h.elim) hA (by kernel_rfl) (by kernel_rfl) (by kernel_rfl) ((Rd.slice (E := 54) (A := (some ⟨b8, o9, none⟩)) (n := l.length) (c := c_l) (l := 0) (h := k) (m := c_l) (sz := 4) (by kernel_rfl) (fun _ => by kernel_rfl) (fun _ => by kernel_rfl) (fun w => bounds_hi (by omega) w)).cast (slice_eq (addr_zero _ _ _) (by first | omega | (simp; done) | (simp; omega)) (by first | omega | (simp; done) | (simp; omega)))) ?_; clear hA ac; intro ac hA
                                  refine sr_take (i := 5) (v := Value.agg #[Value.int .i64 p.a.f, Value.int .i64 p.a.pc, Value.int .i64 p.b.f, Value.int .i64 p.b.pc]) hR (by kernel_rfl) rfl (by kernel_rfl) (by kernel_rfl) (by kernel_rfl) (fun _ _ _ h => h.elim) hA (by kernel_rfl) (by kernel_rfl) (by kernel_rfl) hC (Rd.load (b := b1) (i := 0) (by kernel_rfl) (fun _ hw => (hw).cel 0 rfl) (by kernel_rfl)) ?_; clear hA ac; intro ac hA
                                  refine sr_pure (i := 8) (v := Value.slice (some ⟨b8, o9, none⟩) l.length c_l) hR (by kernel_rfl) rfl (by kernel_rfl) (by kernel_rfl) (fun _ _ _ h => h.elim) hA (by kernel_rfl) (by kernel_rfl) (by kernel_rfl) (Rd.pure fun _ => by kernel_rfl) ?_; clear hA ac; intro ac hA
                                  refine sr_pure (i := 9) (v := Value.int .i64 ((k : Nat) : Int)) hR (by kernel_rfl) rfl (by kernel_rfl) (by kernel_rfl) (fun _ _ _ h => h.elim) hA (by kernel_rfl) (by kernel_rfl) (by kernel_rfl) (Rd.pure fun _ => by kernel_rfl) ?_; clear hA ac; intro ac hA
                                  refine sr_pure (i := 10) (v := Value.slice (if c_l = k then ((some ⟨b8, o9, none⟩) : Option Addr) else Option.map (fun a_ => Addr.add a_ (k * 4)) ((some ⟨b8, o9, none⟩) : Option Addr)) (l.drop k).length (c_l - k)) hR (by kernel_rfl) rfl (by kernel_rfl) (by kernel_rfl) (fun _ _ _ h => h.elim) hA (by kernel_rfl) (by kernel_rfl) (by kernel_rfl) ((Rd.slice (E := 54) (A := (some ⟨b8, o9, none⟩)) (n := l.length) (c := c_l) (l := k) (h := l.length) (m := c_l) (sz := 4) (by kernel_rfl) (fun _ => by kernel_rfl) (fun _ => by kernel_rfl) (fun w => bounds_lo (by omega) w)).cast (slice_eq rfl (by first | omega | (simp; done) | (simp; omega)) rfl)) ?_; clear hA ac; intro ac hA
                                  refine sr_two (i := 0) (j := 6) (by kernel_rfl) ?_ ?_
                                  · skip
                                    refine (sr_do rfl hA (by kernel_rfl) (by kernel_rfl) (by kernel_rfl) (Runs.cells (fun b => Value.slice (some ⟨b, 0, none⟩) 0 0) #[] 54 (fun _ => by kernel_rfl) hW ?_)); clear hA ac hW; intro br6_0 w16 hW hbr6_0 hfw16 ac hA
                                    refine ⟨⟨fun _ => (hW.pick [1] (by decide) rfl).pickG [0] rfl, fun h => absurd h (by decide)⟩, ?_⟩; have hC : Ws w No [Cel b1 #[Value.int .i64 p.a.f, Value.int .i64 p.a.pc, Value.int .i64 p.b.f, Value.int .i64 p.b.pc] 54] [roR (some ⟨b8, o9, none⟩) 4 enPair l] w16 := (hW.pick [1] (by decide) rfl).pickG [0] rfl
                                    refine sr_two (i := 4) (j := 6) (by kernel_rfl) ?_ ?_
                                    · skip
                                      have hW := hW.celRow (en := enPair) (H' := [rowR 54 4 enPair (Value.slice (some ⟨br6_0, 0, none⟩) ([] : List Pair).length ([] : List Pair).length) ([] : List Pair), Cel b1 #[Value.int .i64 p.a.f, Value.int .i64 p.a.pc, Value.int .i64 p.b.f, Value.int .i64 p.b.pc] 54]) 0 rfl ([] : List Pair) (by rfl) elt_Pair.len (by decide) rfl
                                      refine (sr_do rfl hA (by kernel_rfl) (by kernel_rfl) (by kernel_rfl) (Runs.appOwn (B := (some ⟨b8, o9, none⟩)) (k := c_l) (E := 54) (sz := 4) (en := enPair) (l := ([] : List Pair)) (m := (l.take k)) (i := 0) (by kernel_rfl) (by kernel_rfl) elt_Pair (by kernel_rfl) hW rfl (((hW).getG 0 rfl).takeE k) (by first | omega | (simp; done) | (simp; omega)) (by first | omega | (simp; done) | (simp; omega)) ?_)); clear hA ac hW; intro Ar6_4 cr6_4 w17 hW hccr6_4 ac hA
                                      refine ⟨⟨fun _ => (hW.pick [1] (by decide) rfl).pickG [0] rfl, fun h => absurd h (by decide)⟩, ?_⟩; have hC : Ws w No [Cel b1 #[Value.int .i64 p.a.f, Value.int .i64 p.a.pc, Value.int .i64 p.b.f, Value.int .i64 p.b.pc] 54] [roR (some ⟨b8, o9, none⟩) 4 enPair l] w17 := (hW.pick [1] (by decide) rfl).pickG [0] rfl
                                      refine sr_one (i := 6) (by kernel_rfl) (sr_do rfl hA (by kernel_rfl) (by kernel_rfl) (by kernel_rfl) (Runs.cells (fun b => Value.slice (some ⟨b, 0, none⟩) 1 1) #[Value.int .i64 p.a.f, Value.int .i64 p.a.pc, Value.int .i64 p.b.f, Value.int .i64 p.b.pc] 54 (fun _ => by kernel_rfl) hW ?_)); clear hA ac hW; intro br6_6 w18 hW hbr6_6 hfw18 ac hA
                                      refine ⟨⟨fun h => absurd h (by decide), fun h => absurd h (by decide)⟩, ?_⟩
                                      refine sr_one (i := 7) (by kernel_rfl) (sr_do rfl hA (by kernel_rfl) (by kernel_rfl) (by kernel_rfl) (Runs.appOwn (B := (some ⟨br6_6, 0, none⟩)) (k := 1) (E := 54) (sz := 4) (en := enPair) (l := (([] : List Pair) ++ (l.take k))) (m := ([p] : List Pair)) (i := 1) (by kernel_rfl) (by kernel_rfl) elt_Pair (by kernel_rfl) hW rfl (rowAt_cel ((hW).cel 0 rfl) ([p] : List Pair) (by rfl) elt_Pair.len) (by first | omega | (simp; done) | (simp; omega)) (by first | omega | (simp; done) | (simp; omega)) ?_)); clear hA ac hW; intro Ar6_7 cr6_7 w19 hW hccr6_7 ac hA
                                      refine ⟨⟨fun h => absurd h (by decide), fun h => absurd h (by decide)⟩, ?_⟩
                                      refine sr_one (i := 11) (by kernel_rfl) (sr_do rfl hA (by kernel_rfl) (by kernel_rfl) (by kernel_rfl) (Runs.appOwn (B := (if c_l = k then ((some ⟨b8, o9, none⟩) : Option Addr) else Option.map (fun a_ => Addr.add a_ (k * 4)) ((some ⟨b8, o9, none⟩) : Option Addr))) (k := c_l - k) (E := 54) (sz := 4) (en := enPair) (l := ((([] : List Pair) ++ (l.take k)) ++ ([p] : List Pair))) (m := (l.drop k)) (i := 1) (by kernel_rfl) (by kernel_rfl) elt_Pair (by kernel_rfl) hW rfl (((hW).getG 0 rfl).dropE (by first | assumption | omega | (simp; omega) | simp) k) (by first | omega | (simp; done) | (simp; omega)) (by first | omega | (simp; done) | (simp; omega)) ?_)); clear hA ac hW; intro Ar6_11 cr6_11 w20 hW hccr6_11 ac hA
                                      refine ⟨⟨fun h => absurd h (by decide), fun h => absurd h (by decide)⟩, ?_⟩
                                      refine sr_pure (i := 12) (v := Value.slice Ar6_11 (((([] : List Pair) ++ (l.take k)) ++ ([p] : List Pair)) ++ (l.drop k)).length cr6_11) hR (by kernel_rfl) rfl (by kernel_rfl) (by kernel_rfl) (fun _ _ _ h => h.elim) hA (by kernel_rfl) (by kernel_rfl) (by kernel_rfl) (Rd.pure fun _ => by kernel_rfl) ?_; clear hA ac; intro ac hA
                                      refine sr_done (by kernel_rfl) ?_ _
                                      exact ⟨Ar6_11, Ar6_4, Ar6_7, br6_0, br6_6, cr6_11, cr6_4, cr6_7, hccr6_11, hccr6_4, hccr6_7, hA.sub ⟨⟨by kernel_rfl, by kernel_rfl⟩, ⟨by kernel_rfl, by kernel_rfl⟩, ⟨by kernel_rfl, by kernel_rfl⟩, ⟨by kernel_rfl, by kernel_rfl⟩, ⟨by kernel_rfl, by kernel_rfl⟩, ⟨by kernel_rfl, by kernel_rfl⟩, ⟨by kernel_rfl, by kernel_rfl⟩, ⟨by kernel_rfl, by kernel_rfl⟩, ⟨by kernel_rfl, by kernel_rfl⟩, ⟨by kernel_rfl, by kernel_rfl⟩, ⟨by kernel_rfl, by kernel_rfl⟩, ⟨by kernel_rfl, by kernel_rfl⟩, ⟨by kernel_rfl, by kernel_rfl⟩, ⟨by kernel_rfl, by kernel_rfl⟩, ⟨by kernel_rfl, by kernel_rfl⟩, ⟨by kernel_rfl, by kernel_rfl⟩, ⟨by kernel_rfl, by kernel_rfl⟩, ⟨by kernel_rfl, by kernel_rfl⟩, ⟨by kernel_rfl, by kernel_rfl⟩, ⟨by kernel_rfl, by kernel_rfl⟩, ⟨by kernel_rfl, by kernel_rfl⟩, ⟨by kernel_rfl, by kernel_rfl⟩, ⟨by kernel_rfl, by kernel_rfl⟩, ⟨by kernel_rfl, by kernel_rfl⟩, ⟨by kernel_rfl, by kernel_rfl⟩, ⟨by kernel_rfl, by kernel_rfl⟩, ⟨by kernel_rfl, by kernel_rfl⟩, ⟨by kernel_rfl, by kernel_rfl⟩, ⟨by kernel_rfl, by kernel_rfl⟩, ⟨by kernel_rfl, by kernel_rfl⟩, ⟨by kernel_rfl, by kernel_rfl⟩, ⟨by kernel_rfl, by kernel_rfl⟩, ⟨by kernel_rfl, by kernel_rfl⟩, ⟨by kernel_rfl, by kernel_rfl⟩, ⟨by kernel_rfl, by kernel_rfl⟩, ⟨by kernel_rfl, by kernel_rfl⟩, ⟨by kernel_rfl, by kernel_rfl⟩, ⟨by kernel_rfl, by kernel_rfl⟩, ⟨by kernel_rfl, by kernel_rfl⟩, ⟨by kernel_rfl, by kernel_rfl⟩, trivial⟩, (hW.pick [0, 1, 2] (by decide) rfl).pickG [0] rfl⟩
                                    · skip
                                      refine (sr_do rfl hA (by kernel_rfl) (by kernel_rfl) (by kernel_rfl) (Runs.cells (fun b => Value.slice (some ⟨b, 0, none⟩) 1 1) #[Value.int .i64 p.a.f, Value.int .i64 p.a.pc, Value.int .i64 p.b.f, Value.int .i64 p.b.pc] 54 (fun _ => by kernel_rfl) hW ?_)); clear hA ac hW; intro br6_6 w21 hW hbr6_6 hfw21 ac hA
                                      refine ⟨⟨fun h => absurd h (by decide), fun h => absurd h (by decide)⟩, ?_⟩
                                      have hW := hW.celRow (en := enPair) (H' := [Cel br6_6 #[Value.int .i64 p.a.f, Value.int .i64 p.a.pc, Value.int .i64 p.b.f, Value.int .i64 p.b.pc] 54, rowR 54 4 enPair (Value.slice (some ⟨br6_0, 0, none⟩) ([] : List Pair).length ([] : List Pair).length) ([] : List Pair), Cel b1 #[Value.int .i64 p.a.f, Value.int .i64 p.a.pc, Value.int .i64 p.b.f, Value.int .i64 p.b.pc] 54]) 1 rfl ([] : List Pair) (by rfl) elt_Pair.len (by decide) rfl
                                      refine sr_one (i := 4) (by kernel_rfl) (sr_do rfl hA (by kernel_rfl) (by kernel_rfl) (by kernel_rfl) (Runs.appOwn (B := (some ⟨b8, o9, none⟩)) (k := c_l) (E := 54) (sz := 4) (en := enPair) (l := ([] : List Pair)) (m := (l.take k)) (i := 1) (by kernel_rfl) (by kernel_rfl) elt_Pair (by kernel_rfl) hW rfl (((hW).getG 0 rfl).takeE k) (by first | omega | (simp; done) | (simp; omega)) (by first | omega | (simp; done) | (simp; omega)) ?_)); clear hA ac hW; intro Ar6_4 cr6_4 w22 hW hccr6_4 ac hA
                                      refine ⟨⟨fun _ => (hW.pick [2] (by decide) rfl).pickG [0] rfl, fun h => absurd h (by decide)⟩, ?_⟩; have hC : Ws w No [Cel b1 #[Value.int .i64 p.a.f, Value.int .i64 p.a.pc, Value.int .i64 p.b.f, Value.int .i64 p.b.pc] 54] [roR (some ⟨b8, o9, none⟩) 4 enPair l] w22 := (hW.pick [2] (by decide) rfl).pickG [0] rfl
                                      refine sr_one (i := 7) (by kernel_rfl) (sr_do rfl hA (by kernel_rfl) (by kernel_rfl) (by kernel_rfl) (Runs.appOwn (B := (some ⟨br6_6, 0, none⟩)) (k := 1) (E := 54) (sz := 4) (en := enPair) (l := (([] : List Pair) ++ (l.take k))) (m := ([p] : List Pair)) (i := 1) (by kernel_rfl) (by kernel_rfl) elt_Pair (by kernel_rfl) hW rfl (rowAt_cel ((hW).cel 0 rfl) ([p] : List Pair) (by rfl) elt_Pair.len) (by first | omega | (simp; done) | (simp; omega)) (by first | omega | (simp; done) | (simp; omega)) ?_)); clear hA ac hW; intro Ar6_7 cr6_7 w23 hW hccr6_7 ac hA
                                      refine ⟨⟨fun h => absurd h (by decide), fun h => absurd h (by decide)⟩, ?_⟩
                                      refine sr_one (i := 11) (by kernel_rfl) (sr_do rfl hA (by kernel_rfl) (by kernel_rfl) (by kernel_rfl) (Runs.appOwn (B := (if c_l = k then ((some ⟨b8, o9, none⟩) : Option Addr) else Option.map (fun a_ => Addr.add a_ (k * 4)) ((some ⟨b8, o9, none⟩) : Option Addr))) (k := c_l - k) (E := 54) (sz := 4) (en := enPair) (l := ((([] : List Pair) ++ (l.take k)) ++ ([p] : List Pair))) (m := (l.drop k)) (i := 1) (by kernel_rfl) (by kernel_rfl) elt_Pair (by kernel_rfl) hW rfl (((hW).getG 0 rfl).dropE (by first | assumption | omega | (simp; omega) | simp) k) (by first | omega | (simp; done) | (simp; omega)) (by first | omega | (simp; done) | (simp; omega)) ?_)); clear hA ac hW; intro Ar6_11 cr6_11 w24 hW hccr6_11 ac hA
                                      refine ⟨⟨fun h => absurd h (by decide), fun h => absurd h (by decide)⟩, ?_⟩
                                      refine sr_pure (i := 12) (v := Value.slice Ar6_11 (((([] : List Pair) ++ (l.take k)) ++ ([p] : List Pair)) ++ (l.drop k)).length cr6_11) hR (by kernel_rfl) rfl (by kernel_rfl) (by kernel_rfl) (fun _ _ _ h => h.elim) hA (by kernel_rfl) (by kernel_rfl) (by kernel_rfl) (Rd.pure fun _ => by kernel_rfl) ?_; clear hA ac; intro ac hA
                                      refine sr_done (by kernel_rfl) ?_ _
                                      exact ⟨Ar6_11, Ar6_4, Ar6_7, br6_0, br6_6, cr6_11, cr6_4, cr6_7, hccr6_11, hccr6_4, hccr6_7, hA.sub ⟨⟨by kernel_rfl, by kernel_rfl⟩, ⟨by kernel_rfl, by kernel_rfl⟩, ⟨by kernel_rfl, by kernel_rfl⟩, ⟨by kernel_rfl, by kernel_rfl⟩, ⟨by kernel_rfl, by kernel_rfl⟩, ⟨by kernel_rfl, by kernel_rfl⟩, ⟨by kernel_rfl, by kernel_rfl⟩, ⟨by kernel_rfl, by kernel_rfl⟩, ⟨by kernel_rfl, by kernel_rfl⟩, ⟨by kernel_rfl, by kernel_rfl⟩, ⟨by kernel_rfl, by kernel_rfl⟩, ⟨by kernel_rfl, by kernel_rfl⟩, ⟨by kernel_rfl, by kernel_rfl⟩, ⟨by kernel_rfl, by kernel_rfl⟩, ⟨by kernel_rfl, by kernel_rfl⟩, ⟨by kernel_rfl, by kernel_rfl⟩, ⟨by kernel_rfl, by kernel_rfl⟩, ⟨by kernel_rfl, by kernel_rfl⟩, ⟨by kernel_rfl, by kernel_rfl⟩, ⟨by kernel_rfl, by kernel_rfl⟩, ⟨by kernel_rfl, by kernel_rfl⟩, ⟨by kernel_rfl, by kernel_rfl⟩, ⟨by kernel_rfl, by kernel_rfl⟩, ⟨by kernel_rfl, by kernel_rfl⟩, ⟨by kernel_rfl, by kernel_rfl⟩, ⟨by kernel_rfl, by kernel_rfl⟩, ⟨by kernel_rfl, by kernel_rfl⟩, ⟨by kernel_rfl, by kernel_rfl⟩, ⟨by kernel_rfl, by kernel_rfl⟩, ⟨by kernel_rfl, by kernel_rfl⟩, ⟨by kernel_rfl, by kernel_rfl⟩, ⟨by kernel_rfl, by kernel_rfl⟩, ⟨by kernel_rfl, by kernel_rfl⟩, ⟨by kernel_rfl, by kernel_rfl⟩, ⟨by kernel_rfl, by kernel_rfl⟩, ⟨by kernel_rfl, by kernel_rfl⟩, ⟨by kernel_rfl, by kernel_rfl⟩, ⟨by kernel_rfl, by kernel_rfl⟩, ⟨by kernel_rfl, by kernel_rfl⟩, ⟨by kernel_rfl, by kernel_rfl⟩, trivial⟩, (hW.pick [0, 1, 2] (by decide) rfl).pickG [0] rfl⟩
                                  · skip
                                    refine (sr_do rfl hA (by kernel_rfl) (by kernel_rfl) (by kernel_rfl) (Runs.cells (fun b => Value.slice (some ⟨b, 0, none⟩) 1 1) #[Value.int .i64 p.a.f, Value.int .i64 p.a.pc, Value.int .i64 p.b.f, Value.int .i64 p.b.pc] 54 (fun _ => by kernel_rfl) hW ?_)); clear hA ac hW; intro br6_6 w25 hW hbr6_6 hfw25 ac hA
                                    refine ⟨⟨fun h => absurd h (by decide), fun h => absurd h (by decide)⟩, ?_⟩
                                    refine sr_one (i := 0) (by kernel_rfl) (sr_do rfl hA (by kernel_rfl) (by kernel_rfl) (by kernel_rfl) (Runs.cells (fun b => Value.slice (some ⟨b, 0, none⟩) 0 0) #[] 54 (fun _ => by kernel_rfl) hW ?_)); clear hA ac hW; intro br6_0 w26 hW hbr6_0 hfw26 ac hA
                                    refine ⟨⟨fun _ => (hW.pick [2] (by decide) rfl).pickG [0] rfl, fun h => absurd h (by decide)⟩, ?_⟩; have hC : Ws w No [Cel b1 #[Value.int .i64 p.a.f, Value.int .i64 p.a.pc, Value.int .i64 p.b.f, Value.int .i64 p.b.pc] 54] [roR (some ⟨b8, o9, none⟩) 4 enPair l] w26 := (hW.pick [2] (by decide) rfl).pickG [0] rfl
                                    have hW := hW.celRow (en := enPair) (H' := [rowR 54 4 enPair (Value.slice (some ⟨br6_0, 0, none⟩) ([] : List Pair).length ([] : List Pair).length) ([] : List Pair), Cel br6_6 #[Value.int .i64 p.a.f, Value.int .i64 p.a.pc, Value.int .i64 p.b.f, Value.int .i64 p.b.pc] 54, Cel b1 #[Value.int .i64 p.a.f, Value.int .i64 p.a.pc, Value.int .i64 p.b.f, Value.int .i64 p.b.pc] 54]) 0 rfl ([] : List Pair) (by rfl) elt_Pair.len (by decide) rfl
                                    refine sr_one (i := 4) (by kernel_rfl) (sr_do rfl hA (by kernel_rfl) (by kernel_rfl) (by kernel_rfl) (Runs.appOwn (B := (some ⟨b8, o9, none⟩)) (k := c_l) (E := 54) (sz := 4) (en := enPair) (l := ([] : List Pair)) (m := (l.take k)) (i := 0) (by kernel_rfl) (by kernel_rfl) elt_Pair (by kernel_rfl) hW rfl (((hW).getG 0 rfl).takeE k) (by first | omega | (simp; done) | (simp; omega)) (by first | omega | (simp; done) | (simp; omega)) ?_)); clear hA ac hW; intro Ar6_4 cr6_4 w27 hW hccr6_4 ac hA
                                    refine ⟨⟨fun _ => (hW.pick [2] (by decide) rfl).pickG [0] rfl, fun h => absurd h (by decide)⟩, ?_⟩; have hC : Ws w No [Cel b1 #[Value.int .i64 p.a.f, Value.int .i64 p.a.pc, Value.int .i64 p.b.f, Value.int .i64 p.b.pc] 54] [roR (some ⟨b8, o9, none⟩) 4 enPair l] w27 := (hW.pick [2] (by decide) rfl).pickG [0] rfl
                                    refine sr_one (i := 7) (by kernel_rfl) (sr_do rfl hA (by kernel_rfl) (by kernel_rfl) (by kernel_rfl) (Runs.appOwn (B := (some ⟨br6_6, 0, none⟩)) (k := 1) (E := 54) (sz := 4) (en := enPair) (l := (([] : List Pair) ++ (l.take k))) (m := ([p] : List Pair)) (i := 0) (by kernel_rfl) (by kernel_rfl) elt_Pair (by kernel_rfl) hW rfl (rowAt_cel ((hW).cel 1 rfl) ([p] : List Pair) (by rfl) elt_Pair.len) (by first | omega | (simp; done) | (simp; omega)) (by first | omega | (simp; done) | (simp; omega)) ?_)); clear hA ac hW; intro Ar6_7 cr6_7 w28 hW hccr6_7 ac hA
                                    refine ⟨⟨fun h => absurd h (by decide), fun h => absurd h (by decide)⟩, ?_⟩
                                    refine sr_one (i := 11) (by kernel_rfl) (sr_do rfl hA (by kernel_rfl) (by kernel_rfl) (by kernel_rfl) (Runs.appOwn (B := (if c_l = k then ((some ⟨b8, o9, none⟩) : Option Addr) else Option.map (fun a_ => Addr.add a_ (k * 4)) ((some ⟨b8, o9, none⟩) : Option Addr))) (k := c_l - k) (E := 54) (sz := 4) (en := enPair) (l := ((([] : List Pair) ++ (l.take k)) ++ ([p] : List Pair))) (m := (l.drop k)) (i := 0) (by kernel_rfl) (by kernel_rfl) elt_Pair (by kernel_rfl) hW rfl (((hW).getG 0 rfl).dropE (by first | assumption | omega | (simp; omega) | simp) k) (by first | omega | (simp; done) | (simp; omega)) (by first | omega | (simp; done) | (simp; omega)) ?_)); clear hA ac hW; intro Ar6_11 cr6_11 w29 hW hccr6_11 ac hA
                                    refine ⟨⟨fun h => absurd h (by decide), fun h => absurd h (by decide)⟩, ?_⟩
                                    refine sr_pure (i := 12) (v := Value.slice Ar6_11 (((([] : List Pair) ++ (l.take k)) ++ ([p] : List Pair)) ++ (l.drop k)).length cr6_11) hR (by kernel_rfl) rfl (by kernel_rfl) (by kernel_rfl) (fun _ _ _ h => h.elim) hA (by kernel_rfl) (by kernel_rfl) (by kernel_rfl) (Rd.pure fun _ => by kernel_rfl) ?_; clear hA ac; intro ac hA
                                    refine sr_done (by kernel_rfl) ?_ _
                                    exact ⟨Ar6_11, Ar6_4, Ar6_7, br6_0, br6_6, cr6_11, cr6_4, cr6_7, hccr6_11, hccr6_4, hccr6_7, hA.sub ⟨⟨by kernel_rfl, by kernel_rfl⟩, ⟨by kernel_rfl, by kernel_rfl⟩, ⟨by kernel_rfl, by kernel_rfl⟩, ⟨by kernel_rfl, by kernel_rfl⟩, ⟨by kernel_rfl, by kernel_rfl⟩, ⟨by kernel_rfl, by kernel_rfl⟩, ⟨by kernel_rfl, by kernel_rfl⟩, ⟨by kernel_rfl, by kernel_rfl⟩, ⟨by kernel_rfl, by kernel_rfl⟩, ⟨by kernel_rfl, by kernel_rfl⟩, ⟨by kernel_rfl, by kernel_rfl⟩, ⟨by kernel_rfl, by kernel_rfl⟩, ⟨by kernel_rfl, by kernel_rfl⟩, ⟨by kernel_rfl, by kernel_rfl⟩, ⟨by kernel_rfl, by kernel_rfl⟩, ⟨by kernel_rfl, by kernel_rfl⟩, ⟨by kernel_rfl, by kernel_rfl⟩, ⟨by kernel_rfl, by kernel_rfl⟩, ⟨by kernel_rfl, by kernel_rfl⟩, ⟨by kernel_rfl, by kernel_rfl⟩, ⟨by kernel_rfl, by kernel_rfl⟩, ⟨by kernel_rfl, by kernel_rfl⟩, ⟨by kernel_rfl, by kernel_rfl⟩, ⟨by kernel_rfl, by kernel_rfl⟩, ⟨by kernel_rfl, by kernel_rfl⟩, ⟨by kernel_rfl, by kernel_rfl⟩, ⟨by kernel_rfl, by kernel_rfl⟩, ⟨by kernel_rfl, by kernel_rfl⟩, ⟨by kernel_rfl, by kernel_rfl⟩, ⟨by kernel_rfl, by kernel_rfl⟩, ⟨by kernel_rfl, by kernel_rfl⟩, ⟨by kernel_rfl, by kernel_rfl⟩, ⟨by kernel_rfl, by kernel_rfl⟩, ⟨by kernel_rfl, by kernel_rfl⟩, ⟨by kernel_rfl, by kernel_rfl⟩, ⟨by kernel_rfl, by kernel_rfl⟩, ⟨by kernel_rfl, by kernel_rfl⟩, ⟨by kernel_rfl, by kernel_rfl⟩, ⟨by kernel_rfl, by kernel_rfl⟩, ⟨by kernel_rfl, by kernel_rfl⟩, trivial⟩, (hW.pick [1, 0, 2] (by decide) rfl).pickG [0] rfl⟩
                                clear hA ac hW; rintro ac w30 ⟨Ar6_11, Ar6_4, Ar6_7, br6_0, br6_6, cr6_11, cr6_4, cr6_7, hccr6_11, hccr6_4, hccr6_7, hA, hW⟩
                                refine thenN ?_
                                refine wp_ret ?_
                                refine ret1 (v := Value.slice Ar6_11 (((([] : List Pair) ++ (l.take k)) ++ ([p] : List Pair)) ++ (l.drop k)).length cr6_11) (by rfl) hA (Got.tmp hA (by kernel_rfl) (by kernel_rfl)) ?_
                                clear hA
                                exact ⟨k, Ar6_11, cr6_11, by first | rfl | (simp; done), by omega, (own_cap ((hW).get 1 rfl)), (hW.outRow 1 rfl elt_Pair.len (fun _ h => h)), hW.fr⟩))
                    · skip
                      rw [h12] at hA
                      have h12 := of_decide_eq_false h12
                      have h12e := fun e => h12 ((Site.eqi _ _).2 e)
                      first
                      | (exfalso; clear hA hW; omega)
                      | (exfalso; clear hA hW; exact absurd (of_decide_eq_true ‹_›) hp; done)
                      | (
                          refine sq_skip hA (by kernel_rfl) (by kernel_rfl) ?_; clear hA ac; intro ac hA
                          refine sq_skip hA (by kernel_rfl) (by kernel_rfl) ?_; clear hA ac; intro ac hA
                          refine sq_skip hA (by kernel_rfl) (by kernel_rfl) ?_; clear hA ac; intro ac hA
                          refine sq_skip hA (by kernel_rfl) (by kernel_rfl) ?_; clear hA ac; intro ac hA
                          refine sq_skip hA (by kernel_rfl) (by kernel_rfl) ?_; clear hA ac; intro ac hA
                          refine sq_skip hA (by kernel_rfl) (by kernel_rfl) ?_; clear hA ac; intro ac hA
                          refine sq_skip hA (by kernel_rfl) (by kernel_rfl) ?_; clear hA ac; intro ac hA
                          refine sq_skip hA (by kernel_rfl) (by kernel_rfl) ?_; clear hA ac; intro ac hA
                          refine sq_skip hA (by kernel_rfl) (by kernel_rfl) ?_; clear hA ac; intro ac hA
                          refine sq_rd (v := Value.bool false) hA (by kernel_rfl) (by kernel_rfl) (by kernel_rfl) (Rd.pure fun _ => by kernel_rfl) ?_; clear hA ac; intro ac hA
                          refine sq_rd (v := Value.bool false) hA (by kernel_rfl) (by kernel_rfl) (by kernel_rfl) (Rd.pure fun _ => by kernel_rfl) ?_; clear hA ac; intro ac hA
                          refine sq_rd (v := Value.bool false) hA (by kernel_rfl) (by kernel_rfl) (by kernel_rfl) (Rd.pure fun _ => by kernel_rfl) ?_; clear hA ac; intro ac hA
                          refine sq_nil ?_; intro w31 hww31; have hW := hww31.1; have hfw31 := hww31.2; clear hww31
                          refine thenN ?_
                          refine wp_cond_false (hA.eval (by kernel_rfl)) ?_
                          refine wp_exit ?_
                          refine thenX ?_
                          refine thenX ?_
                          refine blkX ?_
                          refine thenN ?_
                          refine wp_seq ?_
                          refine wp_cut (fun ac_ wl_ => ∃ Ar6_11 : Option Addr, ∃ Ar6_4 : Option Addr, ∃ Ar6_7 : Option Addr, ∃ br6_0 : Nat, ∃ br6_6 : Nat, ∃ cr6_11 : Nat, ∃ cr6_4 : Nat, ∃ cr6_7 : Nat, ((((([] : List Pair) ++ (l.take k)) ++ ([p] : List Pair)) ++ (l.drop k)).length ≤ cr6_11) ∧ ((([] : List Pair) ++ (l.take k)).length ≤ cr6_4) ∧ (((([] : List Pair) ++ (l.take k)) ++ ([p] : List Pair)).length ≤ cr6_7) ∧ Fm 60 [] [(0, Value.slice (some ⟨b8, o9, none⟩) l.length c_l), (3, Value.pointer (some ⟨b1, 0, none⟩)), (4, Value.slice Ar6_11 (((([] : List Pair) ++ (l.take k)) ++ ([p] : List Pair)) ++ (l.drop k)).length cr6_11), (5, Value.int .i64 ((k : Nat) : Int)), (10, Value.int .i64 ((k : Nat) : Int)), (11, Value.slice (some ⟨b8, o9, none⟩) l.length c_l), (12, Value.int .i64 ((l.length : Nat) : Int)), (13, Value.bool true), (14, Value.bool true), (15, Value.slice (some ⟨b8, o9, none⟩) l.length c_l), (16, Value.int .i64 ((k : Nat) : Int)), (17, Value.pointer (some ⟨b8, o9 + k * 4, none⟩)), (18, Value.pointer (some ⟨b8, o9 + k * 4, none⟩)), (19, Value.agg #[Value.int .i64 y7.a.f, Value.int .i64 y7.a.pc]), (20, Value.pointer (some ⟨b1, 0, none⟩)), (21, Value.agg #[Value.int .i64 p.a.f, Value.int .i64 p.a.pc]), (22, Value.int .i64 (Site.cmp y7.a p.a)), (23, Value.bool false), (24, Value.bool false), (25, Value.slice (some ⟨b8, o9, none⟩) l.length c_l), (26, Value.int .i64 ((k : Nat) : Int)), (27, Value.pointer (some ⟨b8, o9 + k * 4, none⟩)), (28, Value.pointer (some ⟨b8, o9 + k * 4, none⟩)), (29, Value.agg #[Value.int .i64 y7.a.f, Value.int .i64 y7.a.pc]), (30, Value.pointer (some ⟨b1, 0, none⟩)), (31, Value.agg #[Value.int .i64 p.a.f, Value.int .i64 p.a.pc]), (32, Value.bool false), (33, Value.bool false), (34, undef), (35, undef), (36, undef), (37, undef), (38, undef), (39, undef), (40, undef), (41, undef), (42, undef), (43, Value.bool false), (44, Value.bool false), (45, Value.bool false)] ac_ ∧ Ws w No [Cel br6_6 #[Value.int .i64 p.a.f, Value.int .i64 p.a.pc, Value.int .i64 p.b.f, Value.int .i64 p.b.pc] 54, rowR 54 4 enPair (Value.slice Ar6_11 (((([] : List Pair) ++ (l.take k)) ++ ([p] : List Pair)) ++ (l.drop k)).length cr6_11) (((([] : List Pair) ++ (l.take k)) ++ ([p] : List Pair)) ++ (l.drop k)), Cel b1 #[Value.int .i64 p.a.f, Value.int .i64 p.a.pc, Value.int .i64 p.b.f, Value.int .i64 p.b.pc] 54] [roR (some ⟨b8, o9, none⟩) 4 enPair l] wl_) ?_ ?_
                          · refine sr_region (m := 13) (C := Ws w No [Cel b1 #[Value.int .i64 p.a.f, Value.int .i64 p.a.pc, Value.int .i64 p.b.f, Value.int .i64 p.b.pc] 54] [roR (some ⟨b8, o9, none⟩) 4 enPair l]) (fun i => [5].contains i) (fun i => [0, 4, 5].contains i) (fun i => [1, 2, 3, 8, 9, 10, 12].contains i) (by kernel_rfl) (by kernel_rfl) (by kernel_rfl) (by kernel_rfl) hW ?_; clear hW; intro w32 hW hfw32 hR; have hC : Ws w No [Cel b1 #[Value.int .i64 p.a.f, Value.int .i64 p.a.pc, Value.int .i64 p.b.f, Value.int .i64 p.b.pc] 54] [roR (some ⟨b8, o9, none⟩) 4 enPair l] w32 := hW.pick [0] (by decide) rfl
                            refine sr_pure (i := 1) (v := Value.slice (some ⟨b8, o9, none⟩) l.length c_l) hR (by kernel_rfl) rfl (by kernel_rfl) (by kernel_rfl) (fun _ _ _ h => h.elim) hA (by kernel_rfl) (by kernel_rfl) (by kernel_rfl) (Rd.pure fun _ => by kernel_rfl) ?_; clear hA ac; intro ac hA
                            refine sr_pure (i := 2) (v := Value.int .i64 ((k : Nat) : Int)) hR (by kernel_rfl) rfl (by kernel_rfl) (by kernel_rfl) (fun _ _ _ h => h.elim) hA (by kernel_rfl) (by kernel_rfl) (by kernel_rfl) (Rd.pure fun _ => by kernel_rfl) ?_; clear hA ac; intro ac hA
                            refine sr_pure (i := 3) (v := Value.slice (some ⟨b8, o9, none⟩) (l.take k).length c_l) hR (by kernel_rfl) rfl (by kernel_rfl) (by kernel_rfl) (fun _ _ _ h => h.elim) hA (by kernel_rfl) (by kernel_rfl) (by kernel_rfl) ((Rd.slice (E := 54) (A := (some ⟨b8, o9, none⟩)) (n := l.length) (c := c_l) (l := 0) (h := k) (m := c_l) (sz := 4) (by kernel_rfl) (fun _ => by kernel_rfl) (fun _ => by kernel_rfl) (fun w => bounds_hi (by omega) w)).cast (slice_eq (addr_zero _ _ _) (by first | omega | (simp; done) | (simp; omega)) (by first | omega | (simp; done) | (simp; omega)))) ?_; clear hA ac; intro ac hA
                            refine sr_take (i := 5) (v := Value.agg #[Value.int .i64 p.a.f, Value.int .i64 p.a.pc, Value.int .i64 p.b.f, Value.int .i64 p.b.pc]) hR (by kernel_rfl) rfl (by kernel_rfl) (by kernel_rfl) (by kernel_rfl) (fun _ _ _ h => h.elim) hA (by kernel_rfl) (by kernel_rfl) (by kernel_rfl) hC (Rd.load (b := b1) (i := 0) (by kernel_rfl) (fun _ hw => (hw).cel 0 rfl) (by kernel_rfl)) ?_; clear hA ac; intro ac hA
                            refine sr_pure (i := 8) (v := Value.slice (some ⟨b8, o9, none⟩) l.length c_l) hR (by kernel_rfl) rfl (by kernel_rfl) (by kernel_rfl) (fun _ _ _ h => h.elim) hA (by kernel_rfl) (by kernel_rfl) (by kernel_rfl) (Rd.pure fun _ => by kernel_rfl) ?_; clear hA ac; intro ac hA
                            refine sr_pure (i := 9) (v := Value.int .i64 ((k : Nat) : Int)) hR (by kernel_rfl) rfl (by kernel_rfl) (by kernel_rfl) (fun _ _ _ h => h.elim) hA (by kernel_rfl) (by kernel_rfl) (by kernel_rfl) (Rd.pure fun _ => by kernel_rfl) ?_; clear hA ac; intro ac hA
                            refine sr_pure (i := 10) (v := Value.slice (if c_l = k then ((some ⟨b8, o9, none⟩) : Option Addr) else Option.map (fun a_ => Addr.add a_ (k * 4)) ((some ⟨b8, o9, none⟩) : Option Addr)) (l.drop k).length (c_l - k)) hR (by kernel_rfl) rfl (by kernel_rfl) (by kernel_rfl) (fun _ _ _ h => h.elim) hA (by kernel_rfl) (by kernel_rfl) (by kernel_rfl) ((Rd.slice (E := 54) (A := (some ⟨b8, o9, none⟩)) (n := l.length) (c := c_l) (l := k) (h := l.length) (m := c_l) (sz := 4) (by kernel_rfl) (fun _ => by kernel_rfl) (fun _ => by kernel_rfl) (fun w => bounds_lo (by omega) w)).cast (slice_eq rfl (by first | omega | (simp; done) | (simp; omega)) rfl)) ?_; clear hA ac; intro ac hA
                            refine sr_two (i := 0) (j := 6) (by kernel_rfl) ?_ ?_
                            · skip
                              refine (sr_do rfl hA (by kernel_rfl) (by kernel_rfl) (by kernel_rfl) (Runs.cells (fun b => Value.slice (some ⟨b, 0, none⟩) 0 0) #[] 54 (fun _ => by kernel_rfl) hW ?_)); clear hA ac hW; intro br6_0 w33 hW hbr6_0 hfw33 ac hA
                              refine ⟨⟨fun _ => (hW.pick [1] (by decide) rfl).pickG [0] rfl, fun h => absurd h (by decide)⟩, ?_⟩; have hC : Ws w No [Cel b1 #[Value.int .i64 p.a.f, Value.int .i64 p.a.pc, Value.int .i64 p.b.f, Value.int .i64 p.b.pc] 54] [roR (some ⟨b8, o9, none⟩) 4 enPair l] w33 := (hW.pick [1] (by decide) rfl).pickG [0] rfl
                              refine sr_two (i := 4) (j := 6) (by kernel_rfl) ?_ ?_
                              · skip
                                have hW := hW.celRow (en := enPair) (H' := [rowR 54 4 enPair (Value.slice (some ⟨br6_0, 0, none⟩) ([] : List Pair).length ([] : List Pair).length) ([] : List Pair), Cel b1 #[Value.int .i64 p.a.f, Value.int .i64 p.a.pc, Value.int .i64 p.b.f, Value.int .i64 p.b.pc] 54]) 0 rfl ([] : List Pair) (by rfl) elt_Pair.len (by decide) rfl
                                refine (sr_do rfl hA (by kernel_rfl) (by kernel_rfl) (by kernel_rfl) (Runs.appOwn (B := (some ⟨b8, o9, none⟩)) (k := c_l) (E := 54) (sz := 4) (en := enPair) (l := ([] : List Pair)) (m := (l.take k)) (i := 0) (by kernel_rfl) (by kernel_rfl) elt_Pair (by kernel_rfl) hW rfl (((hW).getG 0 rfl).takeE k) (by first | omega | (simp; done) | (simp; omega)) (by first | omega | (simp; done) | (simp; omega)) ?_)); clear hA ac hW; intro Ar6_4 cr6_4 w34 hW hccr6_4 ac hA
                                refine ⟨⟨fun _ => (hW.pick [1] (by decide) rfl).pickG [0] rfl, fun h => absurd h (by decide)⟩, ?_⟩; have hC : Ws w No [Cel b1 #[Value.int .i64 p.a.f, Value.int .i64 p.a.pc, Value.int .i64 p.b.f, Value.int .i64 p.b.pc] 54] [roR (some ⟨b8, o9, none⟩) 4 enPair l] w34 := (hW.pick [1] (by decide) rfl).pickG [0] rfl
                                refine sr_one (i := 6) (by kernel_rfl) (sr_do rfl hA (by kernel_rfl) (by kernel_rfl) (by kernel_rfl) (Runs.cells (fun b => Value.slice (some ⟨b, 0, none⟩) 1 1) #[Value.int .i64 p.a.f, Value.int .i64 p.a.pc, Value.int .i64 p.b.f, Value.int .i64 p.b.pc] 54 (fun _ => by kernel_rfl) hW ?_)); clear hA ac hW; intro br6_6 w35 hW hbr6_6 hfw35 ac hA
                                refine ⟨⟨fun h => absurd h (by decide), fun h => absurd h (by decide)⟩, ?_⟩
                                refine sr_one (i := 7) (by kernel_rfl) (sr_do rfl hA (by kernel_rfl) (by kernel_rfl) (by kernel_rfl) (Runs.appOwn (B := (some ⟨br6_6, 0, none⟩)) (k := 1) (E := 54) (sz := 4) (en := enPair) (l := (([] : List Pair) ++ (l.take k))) (m := ([p] : List Pair)) (i := 1) (by kernel_rfl) (by kernel_rfl) elt_Pair (by kernel_rfl) hW rfl (rowAt_cel ((hW).cel 0 rfl) ([p] : List Pair) (by rfl) elt_Pair.len) (by first | omega | (simp; done) | (simp; omega)) (by first | omega | (simp; done) | (simp; omega)) ?_)); clear hA ac hW; intro Ar6_7 cr6_7 w36 hW hccr6_7 ac hA
                                refine ⟨⟨fun h => absurd h (by decide), fun h => absurd h (by decide)⟩, ?_⟩
                                refine sr_one (i := 11) (by kernel_rfl) (sr_do rfl hA (by kernel_rfl) (by kernel_rfl) (by kernel_rfl) (Runs.appOwn (B := (if c_l = k then ((some ⟨b8, o9, none⟩) : Option Addr) else Option.map (fun a_ => Addr.add a_ (k * 4)) ((some ⟨b8, o9, none⟩) : Option Addr))) (k := c_l - k) (E := 54) (sz := 4) (en := enPair) (l := ((([] : List Pair) ++ (l.take k)) ++ ([p] : List Pair))) (m := (l.drop k)) (i := 1) (by kernel_rfl) (by kernel_rfl) elt_Pair (by kernel_rfl) hW rfl (((hW).getG 0 rfl).dropE (by first | assumption | omega | (simp; omega) | simp) k) (by first | omega | (simp; done) | (simp; omega)) (by first | omega | (simp; done) | (simp; omega)) ?_)); clear hA ac hW; intro Ar6_11 cr6_11 w37 hW hccr6_11 ac hA
                                refine ⟨⟨fun h => absurd h (by decide), fun h => absurd h (by decide)⟩, ?_⟩
                                refine sr_pure (i := 12) (v := Value.slice Ar6_11 (((([] : List Pair) ++ (l.take k)) ++ ([p] : List Pair)) ++ (l.drop k)).length cr6_11) hR (by kernel_rfl) rfl (by kernel_rfl) (by kernel_rfl) (fun _ _ _ h => h.elim) hA (by kernel_rfl) (by kernel_rfl) (by kernel_rfl) (Rd.pure fun _ => by kernel_rfl) ?_; clear hA ac; intro ac hA
                                refine sr_done (by kernel_rfl) ?_ _
                                exact ⟨Ar6_11, Ar6_4, Ar6_7, br6_0, br6_6, cr6_11, cr6_4, cr6_7, hccr6_11, hccr6_4, hccr6_7, hA.sub ⟨⟨by kernel_rfl, by kernel_rfl⟩, ⟨by kernel_rfl, by kernel_rfl⟩, ⟨by kernel_rfl, by kernel_rfl⟩, ⟨by kernel_rfl, by kernel_rfl⟩, ⟨by kernel_rfl, by kernel_rfl⟩, ⟨by kernel_rfl, by kernel_rfl⟩, ⟨by kernel_rfl, by kernel_rfl⟩, ⟨by kernel_rfl, by kernel_rfl⟩, ⟨by kernel_rfl, by kernel_rfl⟩, ⟨by kernel_rfl, by kernel_rfl⟩, ⟨by kernel_rfl, by kernel_rfl⟩, ⟨by kernel_rfl, by kernel_rfl⟩, ⟨by kernel_rfl, by kernel_rfl⟩, ⟨by kernel_rfl, by kernel_rfl⟩, ⟨by kernel_rfl, by kernel_rfl⟩, ⟨by kernel_rfl, by kernel_rfl⟩, ⟨by kernel_rfl, by kernel_rfl⟩, ⟨by kernel_rfl, by kernel_rfl⟩, ⟨by kernel_rfl, by kernel_rfl⟩, ⟨by kernel_rfl, by kernel_rfl⟩, ⟨by kernel_rfl, by kernel_rfl⟩, ⟨by kernel_rfl, by kernel_rfl⟩, ⟨by kernel_rfl, by kernel_rfl⟩, ⟨by kernel_rfl, by kernel_rfl⟩, ⟨by kernel_rfl, by kernel_rfl⟩, ⟨by kernel_rfl, by kernel_rfl⟩, ⟨by kernel_rfl, by kernel_rfl⟩, ⟨by kernel_rfl, by kernel_rfl⟩, ⟨by kernel_rfl, by kernel_rfl⟩, ⟨by kernel_rfl, by kernel_rfl⟩, ⟨by kernel_rfl, by kernel_rfl⟩, ⟨by kernel_rfl, by kernel_rfl⟩, ⟨by kernel_rfl, by kernel_rfl⟩, ⟨by kernel_rfl, by kernel_rfl⟩, ⟨by kernel_rfl, by kernel_rfl⟩, ⟨by kernel_rfl, by kernel_rfl⟩, ⟨by kernel_rfl, by kernel_rfl⟩, ⟨by kernel_rfl, by kernel_rfl⟩, ⟨by kernel_rfl, by kernel_rfl⟩, ⟨by kernel_rfl, by kernel_rfl⟩, trivial⟩, (hW.pick [0, 1, 2] (by decide) rfl).pickG [0] rfl⟩
                              · skip
                                refine (sr_do rfl hA (by kernel_rfl) (by kernel_rfl) (by kernel_rfl) (Runs.cells (fun b => Value.slice (some ⟨b, 0, none⟩) 1 1) #[Value.int .i64 p.a.f, Value.int .i64 p.a.pc, Value.int .i64 p.b.f, Value.int .i64 p.b.pc] 54 (fun _ => by kernel_rfl) hW ?_)); clear hA ac hW; intro br6_6 w38 hW hbr6_6 hfw38 ac hA
                                refine ⟨⟨fun h => absurd h (by decide), fun h => absurd h (by decide)⟩, ?_⟩
                                have hW := hW.celRow (en := enPair) (H' := [Cel br6_6 #[Value.int .i64 p.a.f, Value.int .i64 p.a.pc, Value.int .i64 p.b.f, Value.int .i64 p.b.pc] 54, rowR 54 4 enPair (Value.slice (some ⟨br6_0, 0, none⟩) ([] : List Pair).length ([] : List Pair).length) ([] : List Pair), Cel b1 #[Value.int .i64 p.a.f, Value.int .i64 p.a.pc, Value.int .i64 p.b.f, Value.int .i64 p.b.pc] 54]) 1 rfl ([] : List Pair) (by rfl) elt_Pair.len (by decide) rfl
                                refine sr_one (i := 4) (by kernel_rfl) (sr_do rfl hA (by kernel_rfl) (by kernel_rfl) (by kernel_rfl) (Runs.appOwn (B := (some ⟨b8, o9, none⟩)) (k := c_l) (E := 54) (sz := 4) (en := enPair) (l := ([] : List Pair)) (m := (l.take k)) (i := 1) (by kernel_rfl) (by kernel_rfl) elt_Pair (by kernel_rfl) hW rfl (((hW).getG 0 rfl).takeE k) (by first | omega | (simp; done) | (simp; omega)) (by first | omega | (simp; done) | (simp; omega)) ?_)); clear hA ac hW; intro Ar6_4 cr6_4 w39 hW hccr6_4 ac hA
                                refine ⟨⟨fun _ => (hW.pick [2] (by decide) rfl).pickG [0] rfl, fun h => absurd h (by decide)⟩, ?_⟩; have hC : Ws w No [Cel b1 #[Value.int .i64 p.a.f, Value.int .i64 p.a.pc, Value.int .i64 p.b.f, Value.int .i64 p.b.pc] 54] [roR (some ⟨b8, o9, none⟩) 4 enPair l] w39 := (hW.pick [2] (by decide) rfl).pickG [0] rfl
                                refine sr_one (i := 7) (by kernel_rfl) (sr_do rfl hA (by kernel_rfl) (by kernel_rfl) (by kernel_rfl) (Runs.appOwn (B := (some ⟨br6_6, 0, none⟩)) (k := 1) (E := 54) (sz := 4) (en := enPair) (l := (([] : List Pair) ++ (l.take k))) (m := ([p] : List Pair)) (i := 1) (by kernel_rfl) (by kernel_rfl) elt_Pair (by kernel_rfl) hW rfl (rowAt_cel ((hW).cel 0 rfl) ([p] : List Pair) (by rfl) elt_Pair.len) (by first | omega | (simp; done) | (simp; omega)) (by first | omega | (simp; done) | (simp; omega)) ?_)); clear hA ac hW; intro Ar6_7 cr6_7 w40 hW hccr6_7 ac hA
                                refine ⟨⟨fun h => absurd h (by decide), fun h => absurd h (by decide)⟩, ?_⟩
                                refine sr_one (i := 11) (by kernel_rfl) (sr_do rfl hA (by kernel_rfl) (by kernel_rfl) (by kernel_rfl) (Runs.appOwn (B := (if c_l = k then ((some ⟨b8, o9, none⟩) : Option Addr) else Option.map (fun a_ => Addr.add a_ (k * 4)) ((some ⟨b8, o9, none⟩) : Option Addr))) (k := c_l - k) (E := 54) (sz := 4) (en := enPair) (l := ((([] : List Pair) ++ (l.take k)) ++ ([p] : List Pair))) (m := (l.drop k)) (i := 1) (by kernel_rfl) (by kernel_rfl) elt_Pair (by kernel_rfl) hW rfl (((hW).getG 0 rfl).dropE (by first | assumption | omega | (simp; omega) | simp) k) (by first | omega | (simp; done) | (simp; omega)) (by first | omega | (simp; done) | (simp; omega)) ?_)); clear hA ac hW; intro Ar6_11 cr6_11 w41 hW hccr6_11 ac hA
                                refine ⟨⟨fun h => absurd h (by decide), fun h => absurd h (by decide)⟩, ?_⟩
                                refine sr_pure (i := 12) (v := Value.slice Ar6_11 (((([] : List Pair) ++ (l.take k)) ++ ([p] : List Pair)) ++ (l.drop k)).length cr6_11) hR (by kernel_rfl) rfl (by kernel_rfl) (by kernel_rfl) (fun _ _ _ h => h.elim) hA (by kernel_rfl) (by kernel_rfl) (by kernel_rfl) (Rd.pure fun _ => by kernel_rfl) ?_; clear hA ac; intro ac hA
                                refine sr_done (by kernel_rfl) ?_ _
                                exact ⟨Ar6_11, Ar6_4, Ar6_7, br6_0, br6_6, cr6_11, cr6_4, cr6_7, hccr6_11, hccr6_4, hccr6_7, hA.sub ⟨⟨by kernel_rfl, by kernel_rfl⟩, ⟨by kernel_rfl, by kernel_rfl⟩, ⟨by kernel_rfl, by kernel_rfl⟩, ⟨by kernel_rfl, by kernel_rfl⟩, ⟨by kernel_rfl, by kernel_rfl⟩, ⟨by kernel_rfl, by kernel_rfl⟩, ⟨by kernel_rfl, by kernel_rfl⟩, ⟨by kernel_rfl, by kernel_rfl⟩, ⟨by kernel_rfl, by kernel_rfl⟩, ⟨by kernel_rfl, by kernel_rfl⟩, ⟨by kernel_rfl, by kernel_rfl⟩, ⟨by kernel_rfl, by kernel_rfl⟩, ⟨by kernel_rfl, by kernel_rfl⟩, ⟨by kernel_rfl, by kernel_rfl⟩, ⟨by kernel_rfl, by kernel_rfl⟩, ⟨by kernel_rfl, by kernel_rfl⟩, ⟨by kernel_rfl, by kernel_rfl⟩, ⟨by kernel_rfl, by kernel_rfl⟩, ⟨by kernel_rfl, by kernel_rfl⟩, ⟨by kernel_rfl, by kernel_rfl⟩, ⟨by kernel_rfl, by kernel_rfl⟩, ⟨by kernel_rfl, by kernel_rfl⟩, ⟨by kernel_rfl, by kernel_rfl⟩, ⟨by kernel_rfl, by kernel_rfl⟩, ⟨by kernel_rfl, by kernel_rfl⟩, ⟨by kernel_rfl, by kernel_rfl⟩, ⟨by kernel_rfl, by kernel_rfl⟩, ⟨by kernel_rfl, by kernel_rfl⟩, ⟨by kernel_rfl, by kernel_rfl⟩, ⟨by kernel_rfl, by kernel_rfl⟩, ⟨by kernel_rfl, by kernel_rfl⟩, ⟨by kernel_rfl, by kernel_rfl⟩, ⟨by kernel_rfl, by kernel_rfl⟩, ⟨by kernel_rfl, by kernel_rfl⟩, ⟨by kernel_rfl, by kernel_rfl⟩, ⟨by kernel_rfl, by kernel_rfl⟩, ⟨by kernel_rfl, by kernel_rfl⟩, ⟨by kernel_rfl, by kernel_rfl⟩, ⟨by kernel_rfl, by kernel_rfl⟩, ⟨by kernel_rfl, by kernel_rfl⟩, trivial⟩, (hW.pick [0, 1, 2] (by decide) rfl).pickG [0] rfl⟩
                            · skip
                              refine (sr_do rfl hA (by kernel_rfl) (by kernel_rfl) (by kernel_rfl) (Runs.cells (fun b => Value.slice (some ⟨b, 0, none⟩) 1 1) #[Value.int .i64 p.a.f, Value.int .i64 p.a.pc, Value.int .i64 p.b.f, Value.int .i64 p.b.pc] 54 (fun _ => by kernel_rfl) hW ?_)); clear hA ac hW; intro br6_6 w42 hW hbr6_6 hfw42 ac hA
                              refine ⟨⟨fun h => absurd h (by decide), fun h => absurd h (by decide)⟩, ?_⟩
                              refine sr_one (i := 0) (by kernel_rfl) (sr_do rfl hA (by kernel_rfl) (by kernel_rfl) (by kernel_rfl) (Runs.cells (fun b => Value.slice (some ⟨b, 0, none⟩) 0 0) #[] 54 (fun _ => by kernel_rfl) hW ?_)); clear hA ac hW; intro br6_0 w43 hW hbr6_0 hfw43 ac hA
                              refine ⟨⟨fun _ => (hW.pick [2] (by decide) rfl).pickG [0] rfl, fun h => absurd h (by decide)⟩, ?_⟩; have hC : Ws w No [Cel b1 #[Value.int .i64 p.a.f, Value.int .i64 p.a.pc, Value.int .i64 p.b.f, Value.int .i64 p.b.pc] 54] [roR (some ⟨b8, o9, none⟩) 4 enPair l] w43 := (hW.pick [2] (by decide) rfl).pickG [0] rfl
                              have hW := hW.celRow (en := enPair) (H' := [rowR 54 4 enPair (Value.slice (some ⟨br6_0, 0, none⟩) ([] : List Pair).length ([] : List Pair).length) ([] : List Pair), Cel br6_6 #[Value.int .i64 p.a.f, Value.int .i64 p.a.pc, Value.int .i64 p.b.f, Value.int .i64 p.b.pc] 54, Cel b1 #[Value.int .i64 p.a.f, Value.int .i64 p.a.pc, Value.int .i64 p.b.f, Value.int .i64 p.b.pc] 54]) 0 rfl ([] : List Pair) (by rfl) elt_Pair.len (by decide) rfl
                              refine sr_one (i := 4) (by kernel_rfl) (sr_do rfl hA (by kernel_rfl) (by kernel_rfl) (by kernel_rfl) (Runs.appOwn (B := (some ⟨b8, o9, none⟩)) (k := c_l) (E := 54) (sz := 4) (en := enPair) (l := ([] : List Pair)) (m := (l.take k)) (i := 0) (by kernel_rfl) (by kernel_rfl) elt_Pair (by kernel_rfl) hW rfl (((hW).getG 0 rfl).takeE k) (by first | omega | (simp; done) | (simp; omega)) (by first | omega | (simp; done) | (simp; omega)) ?_)); clear hA ac hW; intro Ar6_4 cr6_4 w44 hW hccr6_4 ac hA
                              refine ⟨⟨fun _ => (hW.pick [2] (by decide) rfl).pickG [0] rfl, fun h => absurd h (by decide)⟩, ?_⟩; have hC : Ws w No [Cel b1 #[Value.int .i64 p.a.f, Value.int .i64 p.a.pc, Value.int .i64 p.b.f, Value.int .i64 p.b.pc] 54] [roR (some ⟨b8, o9, none⟩) 4 enPair l] w44 := (hW.pick [2] (by decide) rfl).pickG [0] rfl
                              refine sr_one (i := 7) (by kernel_rfl) (sr_do rfl hA (by kernel_rfl) (by kernel_rfl) (by kernel_rfl) (Runs.appOwn (B := (some ⟨br6_6, 0, none⟩)) (k := 1) (E := 54) (sz := 4) (en := enPair) (l := (([] : List Pair) ++ (l.take k))) (m := ([p] : List Pair)) (i := 0) (by kernel_rfl) (by kernel_rfl) elt_Pair (by kernel_rfl) hW rfl (rowAt_cel ((hW).cel 1 rfl) ([p] : List Pair) (by rfl) elt_Pair.len) (by first | omega | (simp; done) | (simp; omega)) (by first | omega | (simp; done) | (simp; omega)) ?_)); clear hA ac hW; intro Ar6_7 cr6_7 w45 hW hccr6_7 ac hA
                              refine ⟨⟨fun h => absurd h (by decide), fun h => absurd h (by decide)⟩, ?_⟩
                              refine sr_one (i := 11) (by kernel_rfl) (sr_do rfl hA (by kernel_rfl) (by kernel_rfl) (by kernel_rfl) (Runs.appOwn (B := (if c_l = k then ((some ⟨b8, o9, none⟩) : Option Addr) else Option.map (fun a_ => Addr.add a_ (k * 4)) ((some ⟨b8, o9, none⟩) : Option Addr))) (k := c_l - k) (E := 54) (sz := 4) (en := enPair) (l := ((([] : List Pair) ++ (l.take k)) ++ ([p] : List Pair))) (m := (l.drop k)) (i := 0) (by kernel_rfl) (by kernel_rfl) elt_Pair (by kernel_rfl) hW rfl (((hW).getG 0 rfl).dropE (by first | assumption | omega | (simp; omega) | simp) k) (by first | omega | (simp; done) | (simp; omega)) (by first | omega | (simp; done) | (simp; omega)) ?_)); clear hA ac hW; intro Ar6_11 cr6_11 w46 hW hccr6_11 ac hA
                              refine ⟨⟨fun h => absurd h (by decide), fun h => absurd h (by decide)⟩, ?_⟩
                              refine sr_pure (i := 12) (v := Value.slice Ar6_11 (((([] : List Pair) ++ (l.take k)) ++ ([p] : List Pair)) ++ (l.drop k)).length cr6_11) hR (by kernel_rfl) rfl (by kernel_rfl) (by kernel_rfl) (fun _ _ _ h => h.elim) hA (by kernel_rfl) (by kernel_rfl) (by kernel_rfl) (Rd.pure fun _ => by kernel_rfl) ?_; clear hA ac; intro ac hA
                              refine sr_done (by kernel_rfl) ?_ _
                              exact ⟨Ar6_11, Ar6_4, Ar6_7, br6_0, br6_6, cr6_11, cr6_4, cr6_7, hccr6_11, hccr6_4, hccr6_7, hA.sub ⟨⟨by kernel_rfl, by kernel_rfl⟩, ⟨by kernel_rfl, by kernel_rfl⟩, ⟨by kernel_rfl, by kernel_rfl⟩, ⟨by kernel_rfl, by kernel_rfl⟩, ⟨by kernel_rfl, by kernel_rfl⟩, ⟨by kernel_rfl, by kernel_rfl⟩, ⟨by kernel_rfl, by kernel_rfl⟩, ⟨by kernel_rfl, by kernel_rfl⟩, ⟨by kernel_rfl, by kernel_rfl⟩, ⟨by kernel_rfl, by kernel_rfl⟩, ⟨by kernel_rfl, by kernel_rfl⟩, ⟨by kernel_rfl, by kernel_rfl⟩, ⟨by kernel_rfl, by kernel_rfl⟩, ⟨by kernel_rfl, by kernel_rfl⟩, ⟨by kernel_rfl, by kernel_rfl⟩, ⟨by kernel_rfl, by kernel_rfl⟩, ⟨by kernel_rfl, by kernel_rfl⟩, ⟨by kernel_rfl, by kernel_rfl⟩, ⟨by kernel_rfl, by kernel_rfl⟩, ⟨by kernel_rfl, by kernel_rfl⟩, ⟨by kernel_rfl, by kernel_rfl⟩, ⟨by kernel_rfl, by kernel_rfl⟩, ⟨by kernel_rfl, by kernel_rfl⟩, ⟨by kernel_rfl, by kernel_rfl⟩, ⟨by kernel_rfl, by kernel_rfl⟩, ⟨by kernel_rfl, by kernel_rfl⟩, ⟨by kernel_rfl, by kernel_rfl⟩, ⟨by kernel_rfl, by kernel_rfl⟩, ⟨by kernel_rfl, by kernel_rfl⟩, ⟨by kernel_rfl, by kernel_rfl⟩, ⟨by kernel_rfl, by kernel_rfl⟩, ⟨by kernel_rfl, by kernel_rfl⟩, ⟨by kernel_rfl, by kernel_rfl⟩, ⟨by kernel_rfl, by kernel_rfl⟩, ⟨by kernel_rfl, by kernel_rfl⟩, ⟨by kernel_rfl, by kernel_rfl⟩, ⟨by kernel_rfl, by kernel_rfl⟩, ⟨by kernel_rfl, by kernel_rfl⟩, ⟨by kernel_rfl, by kernel_rfl⟩, ⟨by kernel_rfl, by kernel_rfl⟩, trivial⟩, (hW.pick [1, 0, 2] (by decide) rfl).pickG [0] rfl⟩
                          clear hA ac hW; rintro ac w47 ⟨Ar6_11, Ar6_4, Ar6_7, br6_0, br6_6, cr6_11, cr6_4, cr6_7, hccr6_11, hccr6_4, hccr6_7, hA, hW⟩
                          refine thenN ?_
                          refine wp_ret ?_
                          refine ret1 (v := Value.slice Ar6_11 (((([] : List Pair) ++ (l.take k)) ++ ([p] : List Pair)) ++ (l.drop k)).length cr6_11) (by rfl) hA (Got.tmp hA (by kernel_rfl) (by kernel_rfl)) ?_
                          clear hA
                          exact ⟨k, Ar6_11, cr6_11, by first | rfl | (simp; done), by omega, (own_cap ((hW).get 1 rfl)), (hW.outRow 1 rfl elt_Pair.len (fun _ h => h)), hW.fr⟩)))
        · skip
          rw [h6] at hA
          have h6 := of_decide_eq_false h6
          first
          | (exfalso; clear hA hW; omega)
          | (exfalso; clear hA hW; exact absurd (of_decide_eq_true ‹_›) hp; done)
          | (
              refine sq_skip hA (by kernel_rfl) (by kernel_rfl) ?_; clear hA ac; intro ac hA
              refine sq_skip hA (by kernel_rfl) (by kernel_rfl) ?_; clear hA ac; intro ac hA
              refine sq_skip hA (by kernel_rfl) (by kernel_rfl) ?_; clear hA ac; intro ac hA
              refine sq_skip hA (by kernel_rfl) (by kernel_rfl) ?_; clear hA ac; intro ac hA
              refine sq_skip hA (by kernel_rfl) (by kernel_rfl) ?_; clear hA ac; intro ac hA
              refine sq_skip hA (by kernel_rfl) (by kernel_rfl) ?_; clear hA ac; intro ac hA
              refine sq_skip hA (by kernel_rfl) (by kernel_rfl) ?_; clear hA ac; intro ac hA
              refine sq_skip hA (by kernel_rfl) (by kernel_rfl) ?_; clear hA ac; intro ac hA
              refine sq_skip hA (by kernel_rfl) (by kernel_rfl) ?_; clear hA ac; intro ac hA
              refine sq_skip hA (by kernel_rfl) (by kernel_rfl) ?_; clear hA ac; intro ac hA
              refine sq_skip hA (by kernel_rfl) (by kernel_rfl) ?_; clear hA ac; intro ac hA
              refine sq_skip hA (by kernel_rfl) (by kernel_rfl) ?_; clear hA ac; intro ac hA
              refine sq_skip hA (by kernel_rfl) (by kernel_rfl) ?_; clear hA ac; intro ac hA
              refine sq_skip hA (by kernel_rfl) (by kernel_rfl) ?_; clear hA ac; intro ac hA
              refine sq_skip hA (by kernel_rfl) (by kernel_rfl) ?_; clear hA ac; intro ac hA
              refine sq_skip hA (by kernel_rfl) (by kernel_rfl) ?_; clear hA ac; intro ac hA
              refine sq_skip hA (by kernel_rfl) (by kernel_rfl) ?_; clear hA ac; intro ac hA
              refine sq_skip hA (by kernel_rfl) (by kernel_rfl) ?_; clear hA ac; intro ac hA
              refine sq_skip hA (by kernel_rfl) (by kernel_rfl) ?_; clear hA ac; intro ac hA
              refine sq_skip hA (by kernel_rfl) (by kernel_rfl) ?_; clear hA ac; intro ac hA
              refine sq_skip hA (by kernel_rfl) (by kernel_rfl) ?_; clear hA ac; intro ac hA
              refine sq_skip hA (by kernel_rfl) (by kernel_rfl) ?_; clear hA ac; intro ac hA
              refine sq_skip hA (by kernel_rfl) (by kernel_rfl) ?_; clear hA ac; intro ac hA
              refine sq_skip hA (by kernel_rfl) (by kernel_rfl) ?_; clear hA ac; intro ac hA
              refine sq_skip hA (by kernel_rfl) (by kernel_rfl) ?_; clear hA ac; intro ac hA
              refine sq_skip hA (by kernel_rfl) (by kernel_rfl) ?_; clear hA ac; intro ac hA
              refine sq_skip hA (by kernel_rfl) (by kernel_rfl) ?_; clear hA ac; intro ac hA
              refine sq_skip hA (by kernel_rfl) (by kernel_rfl) ?_; clear hA ac; intro ac hA
              refine sq_skip hA (by kernel_rfl) (by kernel_rfl) ?_; clear hA ac; intro ac hA
              refine sq_skip hA (by kernel_rfl) (by kernel_rfl) ?_; clear hA ac; intro ac hA
              refine sq_rd (v := Value.bool false) hA (by kernel_rfl) (by kernel_rfl) (by kernel_rfl) (Rd.pure fun _ => by kernel_rfl) ?_; clear hA ac; intro ac hA
              refine sq_nil ?_; intro w48 hww48; have hW := hww48.1; have hfw48 := hww48.2; clear hww48
              refine thenN ?_
              refine wp_cond_false (hA.eval (by kernel_rfl)) ?_
              refine wp_exit ?_
              refine thenX ?_
              refine thenX ?_
              refine blkX ?_
              refine thenN ?_
              refine wp_seq ?_
              refine wp_cut (fun ac_ wl_ => ∃ Ar6_11 : Option Addr, ∃ Ar6_4 : Option Addr, ∃ Ar6_7 : Option Addr, ∃ br6_0 : Nat, ∃ br6_6 : Nat, ∃ cr6_11 : Nat, ∃ cr6_4 : Nat, ∃ cr6_7 : Nat, ((((([] : List Pair) ++ (l.take k)) ++ ([p] : List Pair)) ++ (l.drop k)).length ≤ cr6_11) ∧ ((([] : List Pair) ++ (l.take k)).length ≤ cr6_4) ∧ (((([] : List Pair) ++ (l.take k)) ++ ([p] : List Pair)).length ≤ cr6_7) ∧ Fm 60 [] [(0, Value.slice A_l l.length c_l), (3, Value.pointer (some ⟨b1, 0, none⟩)), (4, Value.slice Ar6_11 (((([] : List Pair) ++ (l.take k)) ++ ([p] : List Pair)) ++ (l.drop k)).length cr6_11), (5, Value.int .i64 ((k : Nat) : Int)), (10, Value.int .i64 ((k : Nat) : Int)), (11, Value.slice A_l l.length c_l), (12, Value.int .i64 ((l.length : Nat) : Int)), (13, Value.bool false), (14, Value.bool false), (15, undef), (16, undef), (17, undef), (18, undef), (19, undef), (20, undef), (21, undef), (22, undef), (23, undef), (24, undef), (25, undef), (26, undef), (27, undef), (28, undef), (29, undef), (30, undef), (31, undef), (32, undef), (33, undef), (34, undef), (35, undef), (36, undef), (37, undef), (38, undef), (39, undef), (40, undef), (41, undef), (42, undef), (43, undef), (44, undef), (45, Value.bool false)] ac_ ∧ Ws w No [Cel br6_6 #[Value.int .i64 p.a.f, Value.int .i64 p.a.pc, Value.int .i64 p.b.f, Value.int .i64 p.b.pc] 54, rowR 54 4 enPair (Value.slice Ar6_11 (((([] : List Pair) ++ (l.take k)) ++ ([p] : List Pair)) ++ (l.drop k)).length cr6_11) (((([] : List Pair) ++ (l.take k)) ++ ([p] : List Pair)) ++ (l.drop k)), Cel b1 #[Value.int .i64 p.a.f, Value.int .i64 p.a.pc, Value.int .i64 p.b.f, Value.int .i64 p.b.pc] 54] [roR A_l 4 enPair l] wl_) ?_ ?_
              · refine sr_region (m := 13) (C := Ws w No [Cel b1 #[Value.int .i64 p.a.f, Value.int .i64 p.a.pc, Value.int .i64 p.b.f, Value.int .i64 p.b.pc] 54] [roR A_l 4 enPair l]) (fun i => [5].contains i) (fun i => [0, 4, 5].contains i) (fun i => [1, 2, 3, 8, 9, 10, 12].contains i) (by kernel_rfl) (by kernel_rfl) (by kernel_rfl) (by kernel_rfl) hW ?_; clear hW; intro w49 hW hfw49 hR; have hC : Ws w No [Cel b1 #[Value.int .i64 p.a.f, Value.int .i64 p.a.pc, Value.int .i64 p.b.f, Value.int .i64 p.b.pc] 54] [roR A_l 4 enPair l] w49 := hW.pick [0] (by decide) rfl
                refine sr_pure (i := 1) (v := Value.slice A_l l.length c_l) hR (by kernel_rfl) rfl (by kernel_rfl) (by kernel_rfl) (fun _ _ _ h => h.elim) hA (by kernel_rfl) (by kernel_rfl) (by kernel_rfl) (Rd.pure fun _ => by kernel_rfl) ?_; clear hA ac; intro ac hA
                refine sr_pure (i := 2) (v := Value.int .i64 ((k : Nat) : Int)) hR (by kernel_rfl) rfl (by kernel_rfl) (by kernel_rfl) (fun _ _ _ h => h.elim) hA (by kernel_rfl) (by kernel_rfl) (by kernel_rfl) (Rd.pure fun _ => by kernel_rfl) ?_; clear hA ac; intro ac hA
                refine sr_pure (i := 3) (v := Value.slice A_l (l.take k).length c_l) hR (by kernel_rfl) rfl (by kernel_rfl) (by kernel_rfl) (fun _ _ _ h => h.elim) hA (by kernel_rfl) (by kernel_rfl) (by kernel_rfl) ((Rd.slice (E := 54) (A := A_l) (n := l.length) (c := c_l) (l := 0) (h := k) (m := c_l) (sz := 4) (by kernel_rfl) (fun _ => by kernel_rfl) (fun _ => by kernel_rfl) (fun w => bounds_hi (by omega) w)).cast (slice_eq (addr_zero _ _ _) (by first | omega | (simp; done) | (simp; omega)) (by first | omega | (simp; done) | (simp; omega)))) ?_; clear hA ac; intro ac hA
                refine sr_take (i := 5) (v := Value.agg #[Value.int .i64 p.a.f, Value.int .i64 p.a.pc, Value.int .i64 p.b.f, Value.int .i64 p.b.pc]) hR (by kernel_rfl) rfl (by kernel_rfl) (by kernel_rfl) (by kernel_rfl) (fun _ _ _ h => h.elim) hA (by kernel_rfl) (by kernel_rfl) (by kernel_rfl) hC (Rd.load (b := b1) (i := 0) (by kernel_rfl) (fun _ hw => (hw).cel 0 rfl) (by kernel_rfl)) ?_; clear hA ac; intro ac hA
                refine sr_pure (i := 8) (v := Value.slice A_l l.length c_l) hR (by kernel_rfl) rfl (by kernel_rfl) (by kernel_rfl) (fun _ _ _ h => h.elim) hA (by kernel_rfl) (by kernel_rfl) (by kernel_rfl) (Rd.pure fun _ => by kernel_rfl) ?_; clear hA ac; intro ac hA
                refine sr_pure (i := 9) (v := Value.int .i64 ((k : Nat) : Int)) hR (by kernel_rfl) rfl (by kernel_rfl) (by kernel_rfl) (fun _ _ _ h => h.elim) hA (by kernel_rfl) (by kernel_rfl) (by kernel_rfl) (Rd.pure fun _ => by kernel_rfl) ?_; clear hA ac; intro ac hA
                refine sr_pure (i := 10) (v := Value.slice (if c_l = k then (A_l : Option Addr) else Option.map (fun a_ => Addr.add a_ (k * 4)) (A_l : Option Addr)) (l.drop k).length (c_l - k)) hR (by kernel_rfl) rfl (by kernel_rfl) (by kernel_rfl) (fun _ _ _ h => h.elim) hA (by kernel_rfl) (by kernel_rfl) (by kernel_rfl) ((Rd.slice (E := 54) (A := A_l) (n := l.length) (c := c_l) (l := k) (h := l.length) (m := c_l) (sz := 4) (by kernel_rfl) (fun _ => by kernel_rfl) (fun _ => by kernel_rfl) (fun w => bounds_lo (by omega) w)).cast (slice_eq rfl (by first | omega | (simp; done) | (simp; omega)) rfl)) ?_; clear hA ac; intro ac hA
                refine sr_two (i := 0) (j := 6) (by kernel_rfl) ?_ ?_
                · skip
                  refine (sr_do rfl hA (by kernel_rfl) (by kernel_rfl) (by kernel_rfl) (Runs.cells (fun b => Value.slice (some ⟨b, 0, none⟩) 0 0) #[] 54 (fun _ => by kernel_rfl) hW ?_)); clear hA ac hW; intro br6_0 w50 hW hbr6_0 hfw50 ac hA
                  refine ⟨⟨fun _ => (hW.pick [1] (by decide) rfl).pickG [0] rfl, fun h => absurd h (by decide)⟩, ?_⟩; have hC : Ws w No [Cel b1 #[Value.int .i64 p.a.f, Value.int .i64 p.a.pc, Value.int .i64 p.b.f, Value.int .i64 p.b.pc] 54] [roR A_l 4 enPair l] w50 := (hW.pick [1] (by decide) rfl).pickG [0] rfl
                  refine sr_two (i := 4) (j := 6) (by kernel_rfl) ?_ ?_
                  · skip
                    have hW := hW.celRow (en := enPair) (H' := [rowR 54 4 enPair (Value.slice (some ⟨br6_0, 0, none⟩) ([] : List Pair).length ([] : List Pair).length) ([] : List Pair), Cel b1 #[Value.int .i64 p.a.f, Value.int .i64 p.a.pc, Value.int .i64 p.b.f, Value.int .i64 p.b.pc] 54]) 0 rfl ([] : List Pair) (by rfl) elt_Pair.len (by decide) rfl
                    refine (sr_do rfl hA (by kernel_rfl) (by kernel_rfl) (by kernel_rfl) (Runs.appOwn (B := A_l) (k := c_l) (E := 54) (sz := 4) (en := enPair) (l := ([] : List Pair)) (m := (l.take k)) (i := 0) (by kernel_rfl) (by kernel_rfl) elt_Pair (by kernel_rfl) hW rfl (((hW).getG 0 rfl).takeE k) (by first | omega | (simp; done) | (simp; omega)) (by first | omega | (simp; done) | (simp; omega)) ?_)); clear hA ac hW; intro Ar6_4 cr6_4 w51 hW hccr6_4 ac hA
                    refine ⟨⟨fun _ => (hW.pick [1] (by decide) rfl).pickG [0] rfl, fun h => absurd h (by decide)⟩, ?_⟩; have hC : Ws w No [Cel b1 #[Value.int .i64 p.a.f, Value.int .i64 p.a.pc, Value.int .i64 p.b.f, Value.int .i64 p.b.pc] 54] [roR A_l 4 enPair l] w51 := (hW.pick [1] (by decide) rfl).pickG [0] rfl
                    refine sr_one (i := 6) (by kernel_rfl) (sr_do rfl hA (by kernel_rfl) (by kernel_rfl) (by kernel_rfl) (Runs.cells (fun b => Value.slice (some ⟨b, 0, none⟩) 1 1) #[Value.int .i64 p.a.f, Value.int .i64 p.a.pc, Value.int .i64 p.b.f, Value.int .i64 p.b.pc] 54 (fun _ => by kernel_rfl) hW ?_)); clear hA ac hW; intro br6_6 w52 hW hbr6_6 hfw52 ac hA
                    refine ⟨⟨fun h => absurd h (by decide), fun h => absurd h (by decide)⟩, ?_⟩
                    refine sr_one (i := 7) (by kernel_rfl) (sr_do rfl hA (by kernel_rfl) (by kernel_rfl) (by kernel_rfl) (Runs.appOwn (B := (some ⟨br6_6, 0, none⟩)) (k := 1) (E := 54) (sz := 4) (en := enPair) (l := (([] : List Pair) ++ (l.take k))) (m := ([p] : List Pair)) (i := 1) (by kernel_rfl) (by kernel_rfl) elt_Pair (by kernel_rfl) hW rfl (rowAt_cel ((hW).cel 0 rfl) ([p] : List Pair) (by rfl) elt_Pair.len) (by first | omega | (simp; done) | (simp; omega)) (by first | omega | (simp; done) | (simp; omega)) ?_)); clear hA ac hW; intro Ar6_7 cr6_7 w53 hW hccr6_7 ac hA
                    refine ⟨⟨fun h => absurd h (by decide), fun h => absurd h (by decide)⟩, ?_⟩
                    refine sr_one (i := 11) (by kernel_rfl) (sr_do rfl hA (by kernel_rfl) (by kernel_rfl) (by kernel_rfl) (Runs.appOwn (B := (if c_l = k then (A_l : Option Addr) else Option.map (fun a_ => Addr.add a_ (k * 4)) (A_l : Option Addr))) (k := c_l - k) (E := 54) (sz := 4) (en := enPair) (l := ((([] : List Pair) ++ (l.take k)) ++ ([p] : List Pair))) (m := (l.drop k)) (i := 1) (by kernel_rfl) (by kernel_rfl) elt_Pair (by kernel_rfl) hW rfl (((hW).getG 0 rfl).dropE (by first | assumption | omega | (simp; omega) | simp) k) (by first | omega | (simp; done) | (simp; omega)) (by first | omega | (simp; done) | (simp; omega)) ?_)); clear hA ac hW; intro Ar6_11 cr6_11 w54 hW hccr6_11 ac hA
                    refine ⟨⟨fun h => absurd h (by decide), fun h => absurd h (by decide)⟩, ?_⟩
                    refine sr_pure (i := 12) (v := Value.slice Ar6_11 (((([] : List Pair) ++ (l.take k)) ++ ([p] : List Pair)) ++ (l.drop k)).length cr6_11) hR (by kernel_rfl) rfl (by kernel_rfl) (by kernel_rfl) (fun _ _ _ h => h.elim) hA (by kernel_rfl) (by kernel_rfl) (by kernel_rfl) (Rd.pure fun _ => by kernel_rfl) ?_; clear hA ac; intro ac hA
                    refine sr_done (by kernel_rfl) ?_ _
                    exact ⟨Ar6_11, Ar6_4, Ar6_7, br6_0, br6_6, cr6_11, cr6_4, cr6_7, hccr6_11, hccr6_4, hccr6_7, hA.sub ⟨⟨by kernel_rfl, by kernel_rfl⟩, ⟨by kernel_rfl, by kernel_rfl⟩, ⟨by kernel_rfl, by kernel_rfl⟩, ⟨by kernel_rfl, by kernel_rfl⟩, ⟨by kernel_rfl, by kernel_rfl⟩, ⟨by kernel_rfl, by kernel_rfl⟩, ⟨by kernel_rfl, by kernel_rfl⟩, ⟨by kernel_rfl, by kernel_rfl⟩, ⟨by kernel_rfl, by kernel_rfl⟩, ⟨by kernel_rfl, by kernel_rfl⟩, ⟨by kernel_rfl, by kernel_rfl⟩, ⟨by kernel_rfl, by kernel_rfl⟩, ⟨by kernel_rfl, by kernel_rfl⟩, ⟨by kernel_rfl, by kernel_rfl⟩, ⟨by kernel_rfl, by kernel_rfl⟩, ⟨by kernel_rfl, by kernel_rfl⟩, ⟨by kernel_rfl, by kernel_rfl⟩, ⟨by kernel_rfl, by kernel_rfl⟩, ⟨by kernel_rfl, by kernel_rfl⟩, ⟨by kernel_rfl, by kernel_rfl⟩, ⟨by kernel_rfl, by kernel_rfl⟩, ⟨by kernel_rfl, by kernel_rfl⟩, ⟨by kernel_rfl, by kernel_rfl⟩, ⟨by kernel_rfl, by kernel_rfl⟩, ⟨by kernel_rfl, by kernel_rfl⟩, ⟨by kernel_rfl, by kernel_rfl⟩, ⟨by kernel_rfl, by kernel_rfl⟩, ⟨by kernel_rfl, by kernel_rfl⟩, ⟨by kernel_rfl, by kernel_rfl⟩, ⟨by kernel_rfl, by kernel_rfl⟩, ⟨by kernel_rfl, by kernel_rfl⟩, ⟨by kernel_rfl, by kernel_rfl⟩, ⟨by kernel_rfl, by kernel_rfl⟩, ⟨by kernel_rfl, by kernel_rfl⟩, ⟨by kernel_rfl, by kernel_rfl⟩, ⟨by kernel_rfl, by kernel_rfl⟩, ⟨by kernel_rfl, by kernel_rfl⟩, ⟨by kernel_rfl, by kernel_rfl⟩, ⟨by kernel_rfl, by kernel_rfl⟩, ⟨by kernel_rfl, by kernel_rfl⟩, trivial⟩, (hW.pick [0, 1, 2] (by decide) rfl).pickG [0] rfl⟩
                  · skip
                    refine (sr_do rfl hA (by kernel_rfl) (by kernel_rfl) (by kernel_rfl) (Runs.cells (fun b => Value.slice (some ⟨b, 0, none⟩) 1 1) #[Value.int .i64 p.a.f, Value.int .i64 p.a.pc, Value.int .i64 p.b.f, Value.int .i64 p.b.pc] 54 (fun _ => by kernel_rfl) hW ?_)); clear hA ac hW; intro br6_6 w55 hW hbr6_6 hfw55 ac hA
                    refine ⟨⟨fun h => absurd h (by decide), fun h => absurd h (by decide)⟩, ?_⟩
                    have hW := hW.celRow (en := enPair) (H' := [Cel br6_6 #[Value.int .i64 p.a.f, Value.int .i64 p.a.pc, Value.int .i64 p.b.f, Value.int .i64 p.b.pc] 54, rowR 54 4 enPair (Value.slice (some ⟨br6_0, 0, none⟩) ([] : List Pair).length ([] : List Pair).length) ([] : List Pair), Cel b1 #[Value.int .i64 p.a.f, Value.int .i64 p.a.pc, Value.int .i64 p.b.f, Value.int .i64 p.b.pc] 54]) 1 rfl ([] : List Pair) (by rfl) elt_Pair.len (by decide) rfl
                    refine sr_one (i := 4) (by kernel_rfl) (sr_do rfl hA (by kernel_rfl) (by kernel_rfl) (by kernel_rfl) (Runs.appOwn (B := A_l) (k := c_l) (E := 54) (sz := 4) (en := enPair) (l := ([] : List Pair)) (m := (l.take k)) (i := 1) (by kernel_rfl) (by kernel_rfl) elt_Pair (by kernel_rfl) hW rfl (((hW).getG 0 rfl).takeE k) (by first | omega | (simp; done) | (simp; omega)) (by first | omega | (simp; done) | (simp; omega)) ?_)); clear hA ac hW; intro Ar6_4 cr6_4 w56 hW hccr6_4 ac hA
                    refine ⟨⟨fun _ => (hW.pick [2] (by decide) rfl).pickG [0] rfl, fun h => absurd h (by decide)⟩, ?_⟩; have hC : Ws w No [Cel b1 #[Value.int .i64 p.a.f, Value.int .i64 p.a.pc, Value.int .i64 p.b.f, Value.int .i64 p.b.pc] 54] [roR A_l 4 enPair l] w56 := (hW.pick [2] (by decide) rfl).pickG [0] rfl
                    refine sr_one (i := 7) (by kernel_rfl) (sr_do rfl hA (by kernel_rfl) (by kernel_rfl) (by kernel_rfl) (Runs.appOwn (B := (some ⟨br6_6, 0, none⟩)) (k := 1) (E := 54) (sz := 4) (en := enPair) (l := (([] : List Pair) ++ (l.take k))) (m := ([p] : List Pair)) (i := 1) (by kernel_rfl) (by kernel_rfl) elt_Pair (by kernel_rfl) hW rfl (rowAt_cel ((hW).cel 0 rfl) ([p] : List Pair) (by rfl) elt_Pair.len) (by first | omega | (simp; done) | (simp; omega)) (by first | omega | (simp; done) | (simp; omega)) ?_)); clear hA ac hW; intro Ar6_7 cr6_7 w57 hW hccr6_7 ac hA
                    refine ⟨⟨fun h => absurd h (by decide), fun h => absurd h (by decide)⟩, ?_⟩
                    refine sr_one (i := 11) (by kernel_rfl) (sr_do rfl hA (by kernel_rfl) (by kernel_rfl) (by kernel_rfl) (Runs.appOwn (B := (if c_l = k then (A_l : Option Addr) else Option.map (fun a_ => Addr.add a_ (k * 4)) (A_l : Option Addr))) (k := c_l - k) (E := 54) (sz := 4) (en := enPair) (l := ((([] : List Pair) ++ (l.take k)) ++ ([p] : List Pair))) (m := (l.drop k)) (i := 1) (by kernel_rfl) (by kernel_rfl) elt_Pair (by kernel_rfl) hW rfl (((hW).getG 0 rfl).dropE (by first | assumption | omega | (simp; omega) | simp) k) (by first | omega | (simp; done) | (simp; omega)) (by first | omega | (simp; done) | (simp; omega)) ?_)); clear hA ac hW; intro Ar6_11 cr6_11 w58 hW hccr6_11 ac hA
                    refine ⟨⟨fun h => absurd h (by decide), fun h => absurd h (by decide)⟩, ?_⟩
                    refine sr_pure (i := 12) (v := Value.slice Ar6_11 (((([] : List Pair) ++ (l.take k)) ++ ([p] : List Pair)) ++ (l.drop k)).length cr6_11) hR (by kernel_rfl) rfl (by kernel_rfl) (by kernel_rfl) (fun _ _ _ h => h.elim) hA (by kernel_rfl) (by kernel_rfl) (by kernel_rfl) (Rd.pure fun _ => by kernel_rfl) ?_; clear hA ac; intro ac hA
                    refine sr_done (by kernel_rfl) ?_ _
                    exact ⟨Ar6_11, Ar6_4, Ar6_7, br6_0, br6_6, cr6_11, cr6_4, cr6_7, hccr6_11, hccr6_4, hccr6_7, hA.sub ⟨⟨by kernel_rfl, by kernel_rfl⟩, ⟨by kernel_rfl, by kernel_rfl⟩, ⟨by kernel_rfl, by kernel_rfl⟩, ⟨by kernel_rfl, by kernel_rfl⟩, ⟨by kernel_rfl, by kernel_rfl⟩, ⟨by kernel_rfl, by kernel_rfl⟩, ⟨by kernel_rfl, by kernel_rfl⟩, ⟨by kernel_rfl, by kernel_rfl⟩, ⟨by kernel_rfl, by kernel_rfl⟩, ⟨by kernel_rfl, by kernel_rfl⟩, ⟨by kernel_rfl, by kernel_rfl⟩, ⟨by kernel_rfl, by kernel_rfl⟩, ⟨by kernel_rfl, by kernel_rfl⟩, ⟨by kernel_rfl, by kernel_rfl⟩, ⟨by kernel_rfl, by kernel_rfl⟩, ⟨by kernel_rfl, by kernel_rfl⟩, ⟨by kernel_rfl, by kernel_rfl⟩, ⟨by kernel_rfl, by kernel_rfl⟩, ⟨by kernel_rfl, by kernel_rfl⟩, ⟨by kernel_rfl, by kernel_rfl⟩, ⟨by kernel_rfl, by kernel_rfl⟩, ⟨by kernel_rfl, by kernel_rfl⟩, ⟨by kernel_rfl, by kernel_rfl⟩, ⟨by kernel_rfl, by kernel_rfl⟩, ⟨by kernel_rfl, by kernel_rfl⟩, ⟨by kernel_rfl, by kernel_rfl⟩, ⟨by kernel_rfl, by kernel_rfl⟩, ⟨by kernel_rfl, by kernel_rfl⟩, ⟨by kernel_rfl, by kernel_rfl⟩, ⟨by kernel_rfl, by kernel_rfl⟩, ⟨by kernel_rfl, by kernel_rfl⟩, ⟨by kernel_rfl, by kernel_rfl⟩, ⟨by kernel_rfl, by kernel_rfl⟩, ⟨by kernel_rfl, by kernel_rfl⟩, ⟨by kernel_rfl, by kernel_rfl⟩, ⟨by kernel_rfl, by kernel_rfl⟩, ⟨by kernel_rfl, by kernel_rfl⟩, ⟨by kernel_rfl, by kernel_rfl⟩, ⟨by kernel_rfl, by kernel_rfl⟩, ⟨by kernel_rfl, by kernel_rfl⟩, trivial⟩, (hW.pick [0, 1, 2] (by decide) rfl).pickG [0] rfl⟩
                · skip
                  refine (sr_do rfl hA (by kernel_rfl) (by kernel_rfl) (by kernel_rfl) (Runs.cells (fun b => Value.slice (some ⟨b, 0, none⟩) 1 1) #[Value.int .i64 p.a.f, Value.int .i64 p.a.pc, Value.int .i64 p.b.f, Value.int .i64 p.b.pc] 54 (fun _ => by kernel_rfl) hW ?_)); clear hA ac hW; intro br6_6 w59 hW hbr6_6 hfw59 ac hA
                  refine ⟨⟨fun h => absurd h (by decide), fun h => absurd h (by decide)⟩, ?_⟩
                  refine sr_one (i := 0) (by kernel_rfl) (sr_do rfl hA (by kernel_rfl) (by kernel_rfl) (by kernel_rfl) (Runs.cells (fun b => Value.slice (some ⟨b, 0, none⟩) 0 0) #[] 54 (fun _ => by kernel_rfl) hW ?_)); clear hA ac hW; intro br6_0 w60 hW hbr6_0 hfw60 ac hA
                  refine ⟨⟨fun _ => (hW.pick [2] (by decide) rfl).pickG [0] rfl, fun h => absurd h (by decide)⟩, ?_⟩; have hC : Ws w No [Cel b1 #[Value.int .i64 p.a.f, Value.int .i64 p.a.pc, Value.int .i64 p.b.f, Value.int .i64 p.b.pc] 54] [roR A_l 4 enPair l] w60 := (hW.pick [2] (by decide) rfl).pickG [0] rfl
                  have hW := hW.celRow (en := enPair) (H' := [rowR 54 4 enPair (Value.slice (some ⟨br6_0, 0, none⟩) ([] : List Pair).length ([] : List Pair).length) ([] : List Pair), Cel br6_6 #[Value.int .i64 p.a.f, Value.int .i64 p.a.pc, Value.int .i64 p.b.f, Value.int .i64 p.b.pc] 54, Cel b1 #[Value.int .i64 p.a.f, Value.int .i64 p.a.pc, Value.int .i64 p.b.f, Value.int .i64 p.b.pc] 54]) 0 rfl ([] : List Pair) (by rfl) elt_Pair.len (by decide) rfl
                  refine sr_one (i := 4) (by kernel_rfl) (sr_do rfl hA (by kernel_rfl) (by kernel_rfl) (by kernel_rfl) (Runs.appOwn (B := A_l) (k := c_l) (E := 54) (sz := 4) (en := enPair) (l := ([] : List Pair)) (m := (l.take k)) (i := 0) (by kernel_rfl) (by kernel_rfl) elt_Pair (by kernel_rfl) hW rfl (((hW).getG 0 rfl).takeE k) (by first | omega | (simp; done) | (simp; omega)) (by first | omega | (simp; done) | (simp; omega)) ?_)); clear hA ac hW; intro Ar6_4 cr6_4 w61 hW hccr6_4 ac hA
                  refine ⟨⟨fun _ => (hW.pick [2] (by decide) rfl).pickG [0] rfl, fun h => absurd h (by decide)⟩, ?_⟩; have hC : Ws w No [Cel b1 #[Value.int .i64 p.a.f, Value.int .i64 p.a.pc, Value.int .i64 p.b.f, Value.int .i64 p.b.pc] 54] [roR A_l 4 enPair l] w61 := (hW.pick [2] (by decide) rfl).pickG [0] rfl
                  refine sr_one (i := 7) (by kernel_rfl) (sr_do rfl hA (by kernel_rfl) (by kernel_rfl) (by kernel_rfl) (Runs.appOwn (B := (some ⟨br6_6, 0, none⟩)) (k := 1) (E := 54) (sz := 4) (en := enPair) (l := (([] : List Pair) ++ (l.take k))) (m := ([p] : List Pair)) (i := 0) (by kernel_rfl) (by kernel_rfl) elt_Pair (by kernel_rfl) hW rfl (rowAt_cel ((hW).cel 1 rfl) ([p] : List Pair) (by rfl) elt_Pair.len) (by first | omega | (simp; done) | (simp; omega)) (by first | omega | (simp; done) | (simp; omega)) ?_)); clear hA ac hW; intro Ar6_7 cr6_7 w62 hW hccr6_7 ac hA
                  refine ⟨⟨fun h => absurd h (by decide), fun h => absurd h (by decide)⟩, ?_⟩
                  refine sr_one (i := 11) (by kernel_rfl) (sr_do rfl hA (by kernel_rfl) (by kernel_rfl) (by kernel_rfl) (Runs.appOwn (B := (if c_l = k then (A_l : Option Addr) else Option.map (fun a_ => Addr.add a_ (k * 4)) (A_l : Option Addr))) (k := c_l - k) (E := 54) (sz := 4) (en := enPair) (l := ((([] : List Pair) ++ (l.take k)) ++ ([p] : List Pair))) (m := (l.drop k)) (i := 0) (by kernel_rfl) (by kernel_rfl) elt_Pair (by kernel_rfl) hW rfl (((hW).getG 0 rfl).dropE (by first | assumption | omega | (simp; omega) | simp) k) (by first | omega | (simp; done) | (simp; omega)) (by first | omega | (simp; done) | (simp; omega)) ?_)); clear hA ac hW; intro Ar6_11 cr6_11 w63 hW hccr6_11 ac hA
                  refine ⟨⟨fun h => absurd h (by decide), fun h => absurd h (by decide)⟩, ?_⟩
                  refine sr_pure (i := 12) (v := Value.slice Ar6_11 (((([] : List Pair) ++ (l.take k)) ++ ([p] : List Pair)) ++ (l.drop k)).length cr6_11) hR (by kernel_rfl) rfl (by kernel_rfl) (by kernel_rfl) (fun _ _ _ h => h.elim) hA (by kernel_rfl) (by kernel_rfl) (by kernel_rfl) (Rd.pure fun _ => by kernel_rfl) ?_; clear hA ac; intro ac hA
                  refine sr_done (by kernel_rfl) ?_ _
                  exact ⟨Ar6_11, Ar6_4, Ar6_7, br6_0, br6_6, cr6_11, cr6_4, cr6_7, hccr6_11, hccr6_4, hccr6_7, hA.sub ⟨⟨by kernel_rfl, by kernel_rfl⟩, ⟨by kernel_rfl, by kernel_rfl⟩, ⟨by kernel_rfl, by kernel_rfl⟩, ⟨by kernel_rfl, by kernel_rfl⟩, ⟨by kernel_rfl, by kernel_rfl⟩, ⟨by kernel_rfl, by kernel_rfl⟩, ⟨by kernel_rfl, by kernel_rfl⟩, ⟨by kernel_rfl, by kernel_rfl⟩, ⟨by kernel_rfl, by kernel_rfl⟩, ⟨by kernel_rfl, by kernel_rfl⟩, ⟨by kernel_rfl, by kernel_rfl⟩, ⟨by kernel_rfl, by kernel_rfl⟩, ⟨by kernel_rfl, by kernel_rfl⟩, ⟨by kernel_rfl, by kernel_rfl⟩, ⟨by kernel_rfl, by kernel_rfl⟩, ⟨by kernel_rfl, by kernel_rfl⟩, ⟨by kernel_rfl, by kernel_rfl⟩, ⟨by kernel_rfl, by kernel_rfl⟩, ⟨by kernel_rfl, by kernel_rfl⟩, ⟨by kernel_rfl, by kernel_rfl⟩, ⟨by kernel_rfl, by kernel_rfl⟩, ⟨by kernel_rfl, by kernel_rfl⟩, ⟨by kernel_rfl, by kernel_rfl⟩, ⟨by kernel_rfl, by kernel_rfl⟩, ⟨by kernel_rfl, by kernel_rfl⟩, ⟨by kernel_rfl, by kernel_rfl⟩, ⟨by kernel_rfl, by kernel_rfl⟩, ⟨by kernel_rfl, by kernel_rfl⟩, ⟨by kernel_rfl, by kernel_rfl⟩, ⟨by kernel_rfl, by kernel_rfl⟩, ⟨by kernel_rfl, by kernel_rfl⟩, ⟨by kernel_rfl, by kernel_rfl⟩, ⟨by kernel_rfl, by kernel_rfl⟩, ⟨by kernel_rfl, by kernel_rfl⟩, ⟨by kernel_rfl, by kernel_rfl⟩, ⟨by kernel_rfl, by kernel_rfl⟩, ⟨by kernel_rfl, by kernel_rfl⟩, ⟨by kernel_rfl, by kernel_rfl⟩, ⟨by kernel_rfl, by kernel_rfl⟩, ⟨by kernel_rfl, by kernel_rfl⟩, trivial⟩, (hW.pick [1, 0, 2] (by decide) rfl).pickG [0] rfl⟩
              clear hA ac hW; rintro ac w64 ⟨Ar6_11, Ar6_4, Ar6_7, br6_0, br6_6, cr6_11, cr6_4, cr6_7, hccr6_11, hccr6_4, hccr6_7, hA, hW⟩
              refine thenN ?_
              refine wp_ret ?_
              refine ret1 (v := Value.slice Ar6_11 (((([] : List Pair) ++ (l.take k)) ++ ([p] : List Pair)) ++ (l.drop k)).length cr6_11) (by rfl) hA (Got.tmp hA (by kernel_rfl) (by kernel_rfl)) ?_
              clear hA
              exact ⟨k, Ar6_11, cr6_11, by first | rfl | (simp; done), by omega, (own_cap ((hW).get 1 rfl)), (hW.outRow 1 rfl elt_Pair.len (fun _ h => h)), hW.fr⟩))

set_option maxRecDepth 100000 in
theorem e_take27 (most : Int) (A_L : Option Addr) (c_L : Nat) (L : List Flag) (A_P : Option Addr) (c_P : Nat) (P : List Pair) (f : Flag) (w : World) (hr_L : RowAt w A_L 10 enFlag L) (hc_L : L.length ≤ c_L) (hr_P : RowAt w A_P 4 enPair P) (hc_P : P.length ≤ c_P) (hL : L.length ≤ 900) (hP : P.length ≤ 900) : Calls Try.prog 16 #[Value.agg #[Value.int .i64 most, Value.slice A_L L.length c_L, Value.slice A_P P.length c_P], f.v] w (fun e w' => ∃ L' : List Flag, ∃ P' : List Pair, ∃ r : Bool, ∃ (A_o1 : Option Addr) (c_o1 : Nat), ∃ (A_o2 : Option Addr) (c_o2 : Nat), e = .returned (Value.tuple #[Value.agg #[Value.int .i64 most, Value.slice A_o1 (L').length c_o1, Value.slice A_o2 (P').length c_o2], Value.bool r]) ∧ (RT.Takes ⟨most, L, P⟩ f ⟨most, L', P'⟩ r) ∧ (L').length ≤ c_o1 ∧ (P').length ≤ c_o2 ∧ (roR A_o1 10 enFlag L').from_ [roR A_L 10 enFlag L, roR A_P 4 enPair P] w w' ∧ (roR A_o2 4 enPair P').from_ [roR A_L 10 enFlag L, roR A_P 4 enPair P] w w' ∧ Fr No w w') := by
  have _hu := hc_L; have _hv := hr_L; clear _hu _hv
  have _hu := hc_P; have _hv := hr_P; clear _hu _hv
  have _hu := hL; clear _hu
  have _hu := hP; clear _hu
  refine enter_E 40 Try.func16 rfl rfl (by kernel_rfl) (L := [(0, Value.agg #[Value.int .i64 most, Value.slice A_L L.length c_L, Value.slice A_P P.length c_P]), (1, f.v)]) (by kernel_rfl) ?_
  intro ac hA
  have hW := Ws.start w No
  have hW := hW.arg hr_L
  have hW := hW.arg hr_P
  refine wp_seq ?_
  refine wp_region_lit ?_
  refine st hA (by kernel_rfl) (by kernel_rfl) (by kernel_rfl) (Runs.cells (fun b => Value.pointer (some ⟨b, 0, none⟩)) #[Value.int .i64 most, Value.slice A_L L.length c_L, Value.slice A_P P.length c_P] 29 (fun _ => by kernel_rfl) hW ?_); clear hA ac hW; intro b1 w2 hW hb1 hfw2 ac hA
  refine st hA (by kernel_rfl) (by kernel_rfl) (by kernel_rfl) (Runs.cells (fun b => Value.pointer (some ⟨b, 0, none⟩)) #[Value.int .i64 f.at_, Value.int .u32 f.addr, Value.int .i64 f.e.g, Value.int .i64 f.e.s.f, Value.int .i64 f.e.s.pc, Value.int .i64 f.e.k, Value.int .i64 f.l.g, Value.int .i64 f.l.s.f, Value.int .i64 f.l.s.pc, Value.int .i64 f.l.k] 43 (fun _ => by kernel_rfl) hW ?_); clear hA ac hW; intro b3 w4 hW hb3 hfw4 ac hA
  refine st hA (by kernel_rfl) (by kernel_rfl) (by kernel_rfl) (Runs.cells (fun b => Value.pointer (some ⟨b, 0, none⟩)) #[Value.int .i64 0, Value.slice none 0 0, Value.slice none 0 0] 29 (fun _ => by kernel_rfl) hW ?_); clear hA ac hW; intro b5 w6 hW hb5 hfw6 ac hA
  refine st_rd (v := Value.bool false) hA (by kernel_rfl) (by kernel_rfl) (by kernel_rfl) hW.cls (Rd.pure fun _ => by kernel_rfl) ?_; clear hA ac; intro ac hA
  refine wpList_nil ?_
  refine thenN ?_
  refine wp_seq ?_
  refine wp_region_lit ?_
  refine st_rd (v := Value.pointer (some ⟨b3, 2, none⟩)) hA (by kernel_rfl) (by kernel_rfl) (by kernel_rfl) hW.cls (Rd.pure fun _ => by kernel_rfl) ?_; clear hA ac; intro ac hA
  refine st_rd (v := Value.pointer (some ⟨b3, 3, none⟩)) hA (by kernel_rfl) (by kernel_rfl) (by kernel_rfl) hW.cls (Rd.pure fun _ => by kernel_rfl) ?_; clear hA ac; intro ac hA
  refine st_rd (v := Value.agg #[Value.int .i64 f.e.s.f, Value.int .i64 f.e.s.pc]) hA (by kernel_rfl) (by kernel_rfl) (by kernel_rfl) hW.cls (Rd.load (b := b3) (i := 3) (by kernel_rfl) (fun _ hw => (hw.1).cel 1 rfl) (by kernel_rfl)) ?_; clear hA ac; intro ac hA
  refine st_rd (v := Value.pointer (some ⟨b3, 6, none⟩)) hA (by kernel_rfl) (by kernel_rfl) (by kernel_rfl) hW.cls (Rd.pure fun _ => by kernel_rfl) ?_; clear hA ac; intro ac hA
  refine st_rd (v := Value.pointer (some ⟨b3, 7, none⟩)) hA (by kernel_rfl) (by kernel_rfl) (by kernel_rfl) hW.cls (Rd.pure fun _ => by kernel_rfl) ?_; clear hA ac; intro ac hA
  refine st_rd (v := Value.agg #[Value.int .i64 f.l.s.f, Value.int .i64 f.l.s.pc]) hA (by kernel_rfl) (by kernel_rfl) (by kernel_rfl) hW.cls (Rd.load (b := b3) (i := 7) (by kernel_rfl) (fun _ hw => (hw.1).cel 1 rfl) (by kernel_rfl)) ?_; clear hA ac; intro ac hA
  refine st hA (by kernel_rfl) (by kernel_rfl) (by kernel_rfl) (Runs.callN (v := (Pair.of f.e.s f.l.s).v) (fun _ => by kernel_rfl) hW (e_of07 f.e.s f.l.s w6) ?_); clear hA ac hW; intro w7 hW hfw7 ac hA
  refine st hA (by kernel_rfl) (by kernel_rfl) (by kernel_rfl) (Runs.cells (fun b => Value.pointer (some ⟨b, 0, none⟩)) #[Value.int .i64 0, Value.int .i64 0, Value.int .i64 0, Value.int .i64 0] 54 (fun _ => by kernel_rfl) hW ?_); clear hA ac hW; intro b8 w9 hW hb8 hfw9 ac hA
  refine st hA (by kernel_rfl) (by kernel_rfl) (by kernel_rfl) (Runs.store (v := (Pair.of f.e.s f.l.s).v) (b := b8) (j := 0) (n := 4) (cs' := #[Value.int .i64 (Pair.of f.e.s f.l.s).a.f, Value.int .i64 (Pair.of f.e.s f.l.s).a.pc, Value.int .i64 (Pair.of f.e.s f.l.s).b.f, Value.int .i64 (Pair.of f.e.s f.l.s).b.pc]) (H' := [Cel b8 #[Value.int .i64 (Pair.of f.e.s f.l.s).a.f, Value.int .i64 (Pair.of f.e.s f.l.s).a.pc, Value.int .i64 (Pair.of f.e.s f.l.s).b.f, Value.int .i64 (Pair.of f.e.s f.l.s).b.pc] 54, Cel b5 #[Value.int .i64 0, Value.slice none 0 0, Value.slice none 0 0] 29, Cel b3 #[Value.int .i64 f.at_, Value.int .u32 f.addr, Value.int .i64 f.e.g, Value.int .i64 f.e.s.f, Value.int .i64 f.e.s.pc, Value.int .i64 f.e.k, Value.int .i64 f.l.g, Value.int .i64 f.l.s.f, Value.int .i64 f.l.s.pc, Value.int .i64 f.l.k] 43, Cel b1 #[Value.int .i64 most, Value.slice A_L L.length c_L, Value.slice A_P P.length c_P] 29]) (by kernel_rfl) (by kernel_rfl) (by kernel_rfl) (by kernel_rfl) (by kernel_rfl) hW 0 (by rfl) (Nat.le_of_ble_eq_true (by kernel_rfl)) (by kernel_rfl) (by rfl) ?_); clear hA ac hW; intro w10 hW ac hA
  refine wpList_nil ?_
  refine thenN ?_
  refine wp_seq ?_
  refine wp_seq ?_
  refine wp_region_lit ?_
  refine st_rd (v := Value.pointer (some ⟨b1, 2, none⟩)) hA (by kernel_rfl) (by kernel_rfl) (by kernel_rfl) hW.cls (Rd.pure fun _ => by kernel_rfl) ?_; clear hA ac; intro ac hA
  refine st_rd (v := Value.slice A_P P.length c_P) hA (by kernel_rfl) (by kernel_rfl) (by kernel_rfl) hW.cls (Rd.load (b := b1) (i := 2) (by kernel_rfl) (fun _ hw => (hw.1).cel 3 rfl) (by kernel_rfl)) ?_; clear hA ac; intro ac hA
  refine st_rd (v := Value.agg #[Value.int .i64 (Pair.of f.e.s f.l.s).a.f, Value.int .i64 (Pair.of f.e.s f.l.s).a.pc, Value.int .i64 (Pair.of f.e.s f.l.s).b.f, Value.int .i64 (Pair.of f.e.s f.l.s).b.pc]) hA (by kernel_rfl) (by kernel_rfl) (by kernel_rfl) hW.cls (Rd.load (b := b8) (i := 0) (by kernel_rfl) (fun _ hw => (hw.1).cel 0 rfl) (by kernel_rfl)) ?_; clear hA ac; intro ac hA
  refine st hA (by kernel_rfl) (by kernel_rfl) (by kernel_rfl) (Runs.callN (v := Value.bool (decide ((Pair.of f.e.s f.l.s) ∈ P))) (fun _ => by kernel_rfl) hW (e_has07 A_P c_P P (Pair.of f.e.s f.l.s) w10 ((hW).getG 0 rfl) (by first | assumption | omega | (simp; omega) | simp) (by first | omega | exact of_decide_eq_false ‹_› | assumption)) ?_); clear hA ac hW; intro w11 hW hfw11 ac hA
  refine wpList_nil ?_
  refine thenN ?_
  refine wp_cond_split (t := decide ((Pair.of f.e.s f.l.s) ∈ P)) (hA.eval (by kernel_rfl)) (fun h12 => ?_) (fun h12 => ?_)
  · skip
    first
    | (exfalso; clear hA hW; omega)
    | (
        refine wp_seq ?_
        refine wp_region_lit ?_
        refine st_rd (v := Value.agg #[Value.int .i64 most, Value.slice A_L L.length c_L, Value.slice A_P P.length c_P]) hA (by kernel_rfl) (by kernel_rfl) (by kernel_rfl) hW.cls (Rd.load (b := b1) (i := 0) (by kernel_rfl) (fun _ hw => (hw.1).cel 3 rfl) (by kernel_rfl)) ?_; clear hA ac; intro ac hA
        refine st hA (by kernel_rfl) (by kernel_rfl) (by kernel_rfl) (Runs.store (v := Value.agg #[Value.int .i64 most, Value.slice A_L L.length c_L, Value.slice A_P P.length c_P]) (b := b5) (j := 0) (n := 3) (cs' := #[Value.int .i64 most, Value.slice A_L L.length c_L, Value.slice A_P P.length c_P]) (H' := [Cel b8 #[Value.int .i64 (Pair.of f.e.s f.l.s).a.f, Value.int .i64 (Pair.of f.e.s f.l.s).a.pc, Value.int .i64 (Pair.of f.e.s f.l.s).b.f, Value.int .i64 (Pair.of f.e.s f.l.s).b.pc] 54, Cel b5 #[Value.int .i64 most, Value.slice A_L L.length c_L, Value.slice A_P P.length c_P] 29, Cel b3 #[Value.int .i64 f.at_, Value.int .u32 f.addr, Value.int .i64 f.e.g, Value.int .i64 f.e.s.f, Value.int .i64 f.e.s.pc, Value.int .i64 f.e.k, Value.int .i64 f.l.g, Value.int .i64 f.l.s.f, Value.int .i64 f.l.s.pc, Value.int .i64 f.l.k] 43, Cel b1 #[Value.int .i64 most, Value.slice A_L L.length c_L, Value.slice A_P P.length c_P] 29]) (by kernel_rfl) (by kernel_rfl) (by kernel_rfl) (by kernel_rfl) (by kernel_rfl) hW 1 (by rfl) (Nat.le_of_ble_eq_true (by kernel_rfl)) (by kernel_rfl) (by rfl) ?_); clear hA ac hW; intro w13 hW ac hA
        refine st_rd (v := Value.bool false) hA (by kernel_rfl) (by kernel_rfl) (by kernel_rfl) hW.cls (Rd.pure fun _ => by kernel_rfl) ?_; clear hA ac; intro ac hA
        refine wpList_nil ?_
        refine thenN ?_
        refine wp_ret ?_
        refine thenR ?_
        refine ret2 (v1 := Value.agg #[Value.int .i64 most, Value.slice A_L L.length c_L, Value.slice A_P P.length c_P]) (v2 := Value.bool false) (by rfl) hA (Got.cell (b := b5) (i := 0) hA (by kernel_rfl) (by kernel_rfl) (hW.cel 1 rfl) (by kernel_rfl)) (Got.tmp hA (by kernel_rfl) (by kernel_rfl)) ?_
        clear hA
        exact ⟨L, P, false, A_L, c_L, A_P, c_P, by first | rfl | (simp; done), by unfold RT.Takes; rw [if_pos (of_decide_eq_true h12)]; exact ⟨rfl, rfl⟩, (by first | assumption | omega | (simp; omega) | simp), (by first | assumption | omega | (simp; omega) | simp), (hW.outSrc 1 rfl (src_arg (.head _))), (hW.outSrc 0 rfl (src_arg (.tail _ (.head _)))), hW.fr⟩)
  · skip
    first
    | (exfalso; clear hA hW; omega)
    | (
        refine wp_skip ?_
        refine thenN ?_
        refine wp_seq ?_
        refine wp_region_lit ?_
        refine st_rd (v := Value.pointer (some ⟨b1, 2, none⟩)) hA (by kernel_rfl) (by kernel_rfl) (by kernel_rfl) hW.cls (Rd.pure fun _ => by kernel_rfl) ?_; clear hA ac; intro ac hA
        refine st_rd (v := Value.slice A_P P.length c_P) hA (by kernel_rfl) (by kernel_rfl) (by kernel_rfl) hW.cls (Rd.load (b := b1) (i := 2) (by kernel_rfl) (fun _ hw => (hw.1).cel 3 rfl) (by kernel_rfl)) ?_; clear hA ac; intro ac hA
        refine st_rd (v := Value.agg #[Value.int .i64 (Pair.of f.e.s f.l.s).a.f, Value.int .i64 (Pair.of f.e.s f.l.s).a.pc, Value.int .i64 (Pair.of f.e.s f.l.s).b.f, Value.int .i64 (Pair.of f.e.s f.l.s).b.pc]) hA (by kernel_rfl) (by kernel_rfl) (by kernel_rfl) hW.cls (Rd.load (b := b8) (i := 0) (by kernel_rfl) (fun _ hw => (hw.1).cel 0 rfl) (by kernel_rfl)) ?_; clear hA ac; intro ac hA
        refine st hA (by kernel_rfl) (by kernel_rfl) (by kernel_rfl) (Runs.call (fun _ => by kernel_rfl) (e_add07 A_P c_P P (Pair.of f.e.s f.l.s) w11 ((hW).getG 0 rfl) (by first | assumption | omega | (simp; omega) | simp) (by first | omega | exact of_decide_eq_false ‹_› | assumption) (by first | omega | exact of_decide_eq_false ‹_› | assumption)) ?_)
        rintro _ w14 ⟨g15, Ao16, co17, rfl, hw14_hk, hcco17, hfco17, hfw14⟩; refine ⟨_, rfl, ?_⟩; have hW0 := hW; have hW := hW0.call hfw14
        have hW := hW0.addFromAt hW hfco17 (in_cons (in_at 0 rfl) in_nil)
        have hsco17 : Res.src (roR Ao16 4 enPair (P.take g15 ++ [(Pair.of f.e.s f.l.s)] ++ P.drop g15)) [roR A_L 10 enFlag L, roR A_P 4 enPair P] w := src_call hfco17 (srcs_cons (src_arg (.tail _ (.head _))) srcs_nil) hW0.fr.size
        clear hW0 hA ac; intro ac hA
        refine st_rd (v := Value.pointer (some ⟨b1, 2, none⟩)) hA (by kernel_rfl) (by kernel_rfl) (by kernel_rfl) hW.cls (Rd.pure fun _ => by kernel_rfl) ?_; clear hA ac; intro ac hA
        refine st hA (by kernel_rfl) (by kernel_rfl) (by kernel_rfl) (Runs.store (v := Value.slice Ao16 (P.take g15 ++ [(Pair.of f.e.s f.l.s)] ++ P.drop g15).length co17) (b := b1) (j := 2) (n := 1) (cs' := #[Value.int .i64 most, Value.slice A_L L.length c_L, Value.slice Ao16 (P.take g15 ++ [(Pair.of f.e.s f.l.s)] ++ P.drop g15).length co17]) (H' := [Cel b8 #[Value.int .i64 (Pair.of f.e.s f.l.s).a.f, Value.int .i64 (Pair.of f.e.s f.l.s).a.pc, Value.int .i64 (Pair.of f.e.s f.l.s).b.f, Value.int .i64 (Pair.of f.e.s f.l.s).b.pc] 54, Cel b5 #[Value.int .i64 0, Value.slice none 0 0, Value.slice none 0 0] 29, Cel b3 #[Value.int .i64 f.at_, Value.int .u32 f.addr, Value.int .i64 f.e.g, Value.int .i64 f.e.s.f, Value.int .i64 f.e.s.pc, Value.int .i64 f.e.k, Value.int .i64 f.l.g, Value.int .i64 f.l.s.f, Value.int .i64 f.l.s.pc, Value.int .i64 f.l.k] 43, Cel b1 #[Value.int .i64 most, Value.slice A_L L.length c_L, Value.slice Ao16 (P.take g15 ++ [(Pair.of f.e.s f.l.s)] ++ P.drop g15).length co17] 29]) (by kernel_rfl) (by kernel_rfl) (by kernel_rfl) (by kernel_rfl) (by kernel_rfl) hW 3 (by rfl) (Nat.le_of_ble_eq_true (by kernel_rfl)) (by kernel_rfl) (by rfl) ?_); clear hA ac hW; intro w18 hW ac hA
        refine wpList_nil ?_
        refine thenN ?_
        refine wp_seq ?_
        refine wp_seq ?_
        refine wp_region_lit ?_
        refine st_rd (v := Value.pointer (some ⟨b1, 1, none⟩)) hA (by kernel_rfl) (by kernel_rfl) (by kernel_rfl) hW.cls (Rd.pure fun _ => by kernel_rfl) ?_; clear hA ac; intro ac hA
        refine st_rd (v := Value.slice A_L L.length c_L) hA (by kernel_rfl) (by kernel_rfl) (by kernel_rfl) hW.cls (Rd.load (b := b1) (i := 1) (by kernel_rfl) (fun _ hw => (hw.1).cel 3 rfl) (by kernel_rfl)) ?_; clear hA ac; intro ac hA
        refine st_rd (v := Value.int .i64 ((L.length : Nat) : Int)) hA (by kernel_rfl) (by kernel_rfl) (by kernel_rfl) hW.cls (Rd.pure fun _ => by kernel_rfl) ?_; clear hA ac; intro ac hA
        refine st_rd (v := Value.pointer (some ⟨b1, 0, none⟩)) hA (by kernel_rfl) (by kernel_rfl) (by kernel_rfl) hW.cls (Rd.pure fun _ => by kernel_rfl) ?_; clear hA ac; intro ac hA
        refine st_rd (v := Value.int .i64 most) hA (by kernel_rfl) (by kernel_rfl) (by kernel_rfl) hW.cls (Rd.load (b := b1) (i := 0) (by kernel_rfl) (fun _ hw => (hw.1).cel 3 rfl) (by kernel_rfl)) ?_; clear hA ac; intro ac hA
        refine st_rd (v := Value.bool (decide ((((L.length : Nat) : Int) : Int) ≥ (most : Int)))) hA (by kernel_rfl) (by kernel_rfl) (by kernel_rfl) hW.cls (Rd.pure fun _ => by kernel_rfl) ?_; clear hA ac; intro ac hA
        refine wpList_nil ?_
        refine thenN ?_
        refine wp_cond_split (t := decide ((((L.length : Nat) : Int) : Int) ≥ (most : Int))) (hA.eval (by kernel_rfl)) (fun h19 => ?_) (fun h19 => ?_)
        · skip
          have h19 := of_decide_eq_true h19
          first
          | (exfalso; clear hA hW; omega)
          | (
              refine wp_seq ?_
              refine wp_region_lit ?_
              refine st_rd (v := Value.agg #[Value.int .i64 most, Value.slice A_L L.length c_L, Value.slice Ao16 (P.take g15 ++ [(Pair.of f.e.s f.l.s)] ++ P.drop g15).length co17]) hA (by kernel_rfl) (by kernel_rfl) (by kernel_rfl) hW.cls (Rd.load (b := b1) (i := 0) (by kernel_rfl) (fun _ hw => (hw.1).cel 3 rfl) (by kernel_rfl)) ?_; clear hA ac; intro ac hA
              refine st hA (by kernel_rfl) (by kernel_rfl) (by kernel_rfl) (Runs.store (v := Value.agg #[Value.int .i64 most, Value.slice A_L L.length c_L, Value.slice Ao16 (P.take g15 ++ [(Pair.of f.e.s f.l.s)] ++ P.drop g15).length co17]) (b := b5) (j := 0) (n := 3) (cs' := #[Value.int .i64 most, Value.slice A_L L.length c_L, Value.slice Ao16 (P.take g15 ++ [(Pair.of f.e.s f.l.s)] ++ P.drop g15).length co17]) (H' := [Cel b8 #[Value.int .i64 (Pair.of f.e.s f.l.s).a.f, Value.int .i64 (Pair.of f.e.s f.l.s).a.pc, Value.int .i64 (Pair.of f.e.s f.l.s).b.f, Value.int .i64 (Pair.of f.e.s f.l.s).b.pc] 54, Cel b5 #[Value.int .i64 most, Value.slice A_L L.length c_L, Value.slice Ao16 (P.take g15 ++ [(Pair.of f.e.s f.l.s)] ++ P.drop g15).length co17] 29, Cel b3 #[Value.int .i64 f.at_, Value.int .u32 f.addr, Value.int .i64 f.e.g, Value.int .i64 f.e.s.f, Value.int .i64 f.e.s.pc, Value.int .i64 f.e.k, Value.int .i64 f.l.g, Value.int .i64 f.l.s.f, Value.int .i64 f.l.s.pc, Value.int .i64 f.l.k] 43, Cel b1 #[Value.int .i64 most, Value.slice A_L L.length c_L, Value.slice Ao16 (P.take g15 ++ [(Pair.of f.e.s f.l.s)] ++ P.drop g15).length co17] 29]) (by kernel_rfl) (by kernel_rfl) (by kernel_rfl) (by kernel_rfl) (by kernel_rfl) hW 1 (by rfl) (Nat.le_of_ble_eq_true (by kernel_rfl)) (by kernel_rfl) (by rfl) ?_); clear hA ac hW; intro w20 hW ac hA
              refine st_rd (v := Value.bool false) hA (by kernel_rfl) (by kernel_rfl) (by kernel_rfl) hW.cls (Rd.pure fun _ => by kernel_rfl) ?_; clear hA ac; intro ac hA
              refine wpList_nil ?_
              refine thenN ?_
              refine wp_ret ?_
              refine thenR ?_
              refine ret2 (v1 := Value.agg #[Value.int .i64 most, Value.slice A_L L.length c_L, Value.slice Ao16 (P.take g15 ++ [(Pair.of f.e.s f.l.s)] ++ P.drop g15).length co17]) (v2 := Value.bool false) (by rfl) hA (Got.cell (b := b5) (i := 0) hA (by kernel_rfl) (by kernel_rfl) (hW.cel 1 rfl) (by kernel_rfl)) (Got.tmp hA (by kernel_rfl) (by kernel_rfl)) ?_
              clear hA
              exact ⟨L, P.take g15 ++ [(Pair.of f.e.s f.l.s)] ++ P.drop g15, false, A_L, c_L, Ao16, co17, by first | rfl | (simp; done), by unfold RT.Takes; rw [if_neg (of_decide_eq_false h12)]; exact ⟨_, hw14_hk, rfl, rfl, by rw [if_pos (by simp; omega)]; exact ⟨rfl, rfl⟩⟩, (by first | assumption | omega | (simp; omega) | simp), (by first | assumption | omega | (simp; omega) | simp), (hW.outSrc 2 rfl (src_arg (.head _))), (hW.outSrc 0 rfl hsco17), hW.fr⟩)
        · skip
          have h19 := of_decide_eq_false h19
          first
          | (exfalso; clear hA hW; omega)
          | (
              refine wp_skip ?_
              refine thenN ?_
              refine wp_seq ?_
              refine wp_cut (fun ac_ wl_ => ∃ Ar7_3 : Option Addr, ∃ Ar7_6 : Option Addr, ∃ br7_0 : Nat, ∃ br7_5 : Nat, ∃ cr7_3 : Nat, ∃ cr7_6 : Nat, ((([] : List Flag) ++ L).length ≤ cr7_3) ∧ (((([] : List Flag) ++ L) ++ ([f] : List Flag)).length ≤ cr7_6) ∧ Fm 40 [] [(0, Value.agg #[Value.int .i64 most, Value.slice A_L L.length c_L, Value.slice A_P P.length c_P]), (1, f.v), (2, Value.pointer (some ⟨b1, 0, none⟩)), (3, Value.pointer (some ⟨b3, 0, none⟩)), (4, Value.pointer (some ⟨b5, 0, none⟩)), (5, Value.bool false), (6, Value.pointer (some ⟨b8, 0, none⟩)), (7, Value.pointer (some ⟨b3, 2, none⟩)), (8, Value.pointer (some ⟨b3, 3, none⟩)), (9, Value.agg #[Value.int .i64 f.e.s.f, Value.int .i64 f.e.s.pc]), (10, Value.pointer (some ⟨b3, 6, none⟩)), (11, Value.pointer (some ⟨b3, 7, none⟩)), (12, Value.agg #[Value.int .i64 f.l.s.f, Value.int .i64 f.l.s.pc]), (13, (Pair.of f.e.s f.l.s).v), (14, Value.pointer (some ⟨b1, 2, none⟩)), (15, Value.slice A_P P.length c_P), (16, Value.agg #[Value.int .i64 (Pair.of f.e.s f.l.s).a.f, Value.int .i64 (Pair.of f.e.s f.l.s).a.pc, Value.int .i64 (Pair.of f.e.s f.l.s).b.f, Value.int .i64 (Pair.of f.e.s f.l.s).b.pc]), (17, Value.bool (decide ((Pair.of f.e.s f.l.s) ∈ P))), (19, Value.pointer (some ⟨b1, 2, none⟩)), (20, Value.slice A_P P.length c_P), (21, Value.agg #[Value.int .i64 (Pair.of f.e.s f.l.s).a.f, Value.int .i64 (Pair.of f.e.s f.l.s).a.pc, Value.int .i64 (Pair.of f.e.s f.l.s).b.f, Value.int .i64 (Pair.of f.e.s f.l.s).b.pc]), (22, Value.slice Ao16 (P.take g15 ++ [(Pair.of f.e.s f.l.s)] ++ P.drop g15).length co17), (23, Value.pointer (some ⟨b1, 2, none⟩)), (24, Value.pointer (some ⟨b1, 1, none⟩)), (25, Value.slice A_L L.length c_L), (26, Value.int .i64 ((L.length : Nat) : Int)), (27, Value.pointer (some ⟨b1, 0, none⟩)), (28, Value.int .i64 most), (29, Value.bool (decide ((((L.length : Nat) : Int) : Int) ≥ (most : Int))))] ac_ ∧ Ws w No [Cel br7_5 #[Value.int .i64 f.at_, Value.int .u32 f.addr, Value.int .i64 f.e.g, Value.int .i64 f.e.s.f, Value.int .i64 f.e.s.pc, Value.int .i64 f.e.k, Value.int .i64 f.l.g, Value.int .i64 f.l.s.f, Value.int .i64 f.l.s.pc, Value.int .i64 f.l.k] 43, rowR 43 10 enFlag (Value.slice Ar7_6 ((([] : List Flag) ++ L) ++ ([f] : List Flag)).length cr7_6) ((([] : List Flag) ++ L) ++ ([f] : List Flag)), Cel b8 #[Value.int .i64 (Pair.of f.e.s f.l.s).a.f, Value.int .i64 (Pair.of f.e.s f.l.s).a.pc, Value.int .i64 (Pair.of f.e.s f.l.s).b.f, Value.int .i64 (Pair.of f.e.s f.l.s).b.pc] 54, Cel b5 #[Value.int .i64 0, Value.slice none 0 0, Value.slice none 0 0] 29, Cel b3 #[Value.int .i64 f.at_, Value.int .u32 f.addr, Value.int .i64 f.e.g, Value.int .i64 f.e.s.f, Value.int .i64 f.e.s.pc, Value.int .i64 f.e.k, Value.int .i64 f.l.g, Value.int .i64 f.l.s.f, Value.int .i64 f.l.s.pc, Value.int .i64 f.l.k] 43, Cel b1 #[Value.int .i64 most, Value.slice Ar7_6 ((([] : List Flag) ++ L) ++ ([f] : List Flag)).length cr7_6, Value.slice Ao16 (P.take g15 ++ [(Pair.of f.e.s f.l.s)] ++ P.drop g15).length co17] 29] [roR Ao16 4 enPair (P.take g15 ++ [(Pair.of f.e.s f.l.s)] ++ P.drop g15), roR A_P 4 enPair P, roR A_L 10 enFlag L] wl_) ?_ ?_
              · refine sr_region (m := 9) (C := Ws w No [Cel b8 #[Value.int .i64 (Pair.of f.e.s f.l.s).a.f, Value.int .i64 (Pair.of f.e.s f.l.s).a.pc, Value.int .i64 (Pair.of f.e.s f.l.s).b.f, Value.int .i64 (Pair.of f.e.s f.l.s).b.pc] 54, Cel b5 #[Value.int .i64 0, Value.slice none 0 0, Value.slice none 0 0] 29, Cel b3 #[Value.int .i64 f.at_, Value.int .u32 f.addr, Value.int .i64 f.e.g, Value.int .i64 f.e.s.f, Value.int .i64 f.e.s.pc, Value.int .i64 f.e.k, Value.int .i64 f.l.g, Value.int .i64 f.l.s.f, Value.int .i64 f.l.s.pc, Value.int .i64 f.l.k] 43, Cel b1 #[Value.int .i64 most, Value.slice A_L L.length c_L, Value.slice Ao16 (P.take g15 ++ [(Pair.of f.e.s f.l.s)] ++ P.drop g15).length co17] 29] [roR Ao16 4 enPair (P.take g15 ++ [(Pair.of f.e.s f.l.s)] ++ P.drop g15), roR A_P 4 enPair P, roR A_L 10 enFlag L]) (fun i => [2, 4].contains i) (fun i => [0, 2, 3, 4, 5].contains i) (fun i => [1, 7].contains i) (by kernel_rfl) (by kernel_rfl) (by kernel_rfl) (by kernel_rfl) hW ?_; clear hW; intro w21 hW hfw21 hR; have hC : Ws w No [Cel b8 #[Value.int .i64 (Pair.of f.e.s f.l.s).a.f, Value.int .i64 (Pair.of f.e.s f.l.s).a.pc, Value.int .i64 (Pair.of f.e.s f.l.s).b.f, Value.int .i64 (Pair.of f.e.s f.l.s).b.pc] 54, Cel b5 #[Value.int .i64 0, Value.slice none 0 0, Value.slice none 0 0] 29, Cel b3 #[Value.int .i64 f.at_, Value.int .u32 f.addr, Value.int .i64 f.e.g, Value.int .i64 f.e.s.f, Value.int .i64 f.e.s.pc, Value.int .i64 f.e.k, Value.int .i64 f.l.g, Value.int .i64 f.l.s.f, Value.int .i64 f.l.s.pc, Value.int .i64 f.l.k] 43, Cel b1 #[Value.int .i64 most, Value.slice A_L L.length c_L, Value.slice Ao16 (P.take g15 ++ [(Pair.of f.e.s f.l.s)] ++ P.drop g15).length co17] 29] [roR Ao16 4 enPair (P.take g15 ++ [(Pair.of f.e.s f.l.s)] ++ P.drop g15), roR A_P 4 enPair P, roR A_L 10 enFlag L] w21 := hW.pick [0, 1, 2, 3] (by decide) rfl
                refine sr_pure (i := 1) (v := Value.pointer (some ⟨b1, 1, none⟩)) hR (by kernel_rfl) rfl (by kernel_rfl) (by kernel_rfl) (fun _ _ _ h => h.elim) hA (by kernel_rfl) (by kernel_rfl) (by kernel_rfl) (Rd.pure fun _ => by kernel_rfl) ?_; clear hA ac; intro ac hA
                refine sr_take (i := 2) (v := Value.slice A_L L.length c_L) hR (by kernel_rfl) rfl (by kernel_rfl) (by kernel_rfl) (by kernel_rfl) (fun _ _ _ h => h.elim) hA (by kernel_rfl) (by kernel_rfl) (by kernel_rfl) hC (Rd.load (b := b1) (i := 1) (by kernel_rfl) (fun _ hw => (hw).cel 3 rfl) (by kernel_rfl)) ?_; clear hA ac; intro ac hA
                refine sr_take (i := 4) (v := Value.agg #[Value.int .i64 f.at_, Value.int .u32 f.addr, Value.int .i64 f.e.g, Value.int .i64 f.e.s.f, Value.int .i64 f.e.s.pc, Value.int .i64 f.e.k, Value.int .i64 f.l.g, Value.int .i64 f.l.s.f, Value.int .i64 f.l.s.pc, Value.int .i64 f.l.k]) hR (by kernel_rfl) rfl (by kernel_rfl) (by kernel_rfl) (by kernel_rfl) (fun _ _ _ h => h.elim) hA (by kernel_rfl) (by kernel_rfl) (by kernel_rfl) hC (Rd.load (b := b3) (i := 0) (by kernel_rfl) (fun _ hw => (hw).cel 2 rfl) (by kernel_rfl)) ?_; clear hA ac; intro ac hA
                refine sr_two (i := 0) (j := 5) (by kernel_rfl) ?_ ?_
                · skip
                  refine (sr_do rfl hA (by kernel_rfl) (by kernel_rfl) (by kernel_rfl) (Runs.cells (fun b => Value.slice (some ⟨b, 0, none⟩) 0 0) #[] 43 (fun _ => by kernel_rfl) hW ?_)); clear hA ac hW; intro br7_0 w22 hW hbr7_0 hfw22 ac hA
                  refine ⟨⟨fun _ => (hW.pick [1, 2, 3, 4] (by decide) rfl).pickG [0, 1, 2] rfl, fun h => absurd h (by decide)⟩, ?_⟩; have hC : Ws w No [Cel b8 #[Value.int .i64 (Pair.of f.e.s f.l.s).a.f, Value.int .i64 (Pair.of f.e.s f.l.s).a.pc, Value.int .i64 (Pair.of f.e.s f.l.s).b.f, Value.int .i64 (Pair.of f.e.s f.l.s).b.pc] 54, Cel b5 #[Value.int .i64 0, Value.slice none 0 0, Value.slice none 0 0] 29, Cel b3 #[Value.int .i64 f.at_, Value.int .u32 f.addr, Value.int .i64 f.e.g, Value.int .i64 f.e.s.f, Value.int .i64 f.e.s.pc, Value.int .i64 f.e.k, Value.int .i64 f.l.g, Value.int .i64 f.l.s.f, Value.int .i64 f.l.s.pc, Value.int .i64 f.l.k] 43, Cel b1 #[Value.int .i64 most, Value.slice A_L L.length c_L, Value.slice Ao16 (P.take g15 ++ [(Pair.of f.e.s f.l.s)] ++ P.drop g15).length co17] 29] [roR Ao16 4 enPair (P.take g15 ++ [(Pair.of f.e.s f.l.s)] ++ P.drop g15), roR A_P 4 enPair P, roR A_L 10 enFlag L] w22 := (hW.pick [1, 2, 3, 4] (by decide) rfl).pickG [0, 1, 2] rfl
                  refine sr_two (i := 3) (j := 5) (by kernel_rfl) ?_ ?_
                  · skip
                    have hW := hW.celRow (en := enFlag) (H' := [rowR 43 10 enFlag (Value.slice (some ⟨br7_0, 0, none⟩) ([] : List Flag).length ([] : List Flag).length) ([] : List Flag), Cel b8 #[Value.int .i64 (Pair.of f.e.s f.l.s).a.f, Value.int .i64 (Pair.of f.e.s f.l.s).a.pc, Value.int .i64 (Pair.of f.e.s f.l.s).b.f, Value.int .i64 (Pair.of f.e.s f.l.s).b.pc] 54, Cel b5 #[Value.int .i64 0, Value.slice none 0 0, Value.slice none 0 0] 29, Cel b3 #[Value.int .i64 f.at_, Value.int .u32 f.addr, Value.int .i64 f.e.g, Value.int .i64 f.e.s.f, Value.int .i64 f.e.s.pc, Value.int .i64 f.e.k, Value.int .i64 f.l.g, Value.int .i64 f.l.s.f, Value.int .i64 f.l.s.pc, Value.int .i64 f.l.k] 43, Cel b1 #[Value.int .i64 most, Value.slice A_L L.length c_L, Value.slice Ao16 (P.take g15 ++ [(Pair.of f.e.s f.l.s)] ++ P.drop g15).length co17] 29]) 0 rfl ([] : List Flag) (by rfl) elt_Flag.len (by decide) rfl
                    refine (sr_do rfl hA (by kernel_rfl) (by kernel_rfl) (by kernel_rfl) (Runs.appOwn (B := A_L) (k := c_L) (E := 43) (sz := 10) (en := enFlag) (l := ([] : List Flag)) (m := L) (i := 0) (by kernel_rfl) (by kernel_rfl) elt_Flag (by kernel_rfl) hW rfl ((hW).getG 2 rfl) (by first | omega | (simp; done) | (simp; omega)) (by first | omega | (simp; done) | (simp; omega)) ?_)); clear hA ac hW; intro Ar7_3 cr7_3 w23 hW hccr7_3 ac hA
                    refine ⟨⟨fun _ => (hW.pick [1, 2, 3, 4] (by decide) rfl).pickG [0, 1, 2] rfl, fun h => absurd h (by decide)⟩, ?_⟩; have hC : Ws w No [Cel b8 #[Value.int .i64 (Pair.of f.e.s f.l.s).a.f, Value.int .i64 (Pair.of f.e.s f.l.s).a.pc, Value.int .i64 (Pair.of f.e.s f.l.s).b.f, Value.int .i64 (Pair.of f.e.s f.l.s).b.pc] 54, Cel b5 #[Value.int .i64 0, Value.slice none 0 0, Value.slice none 0 0] 29, Cel b3 #[Value.int .i64 f.at_, Value.int .u32 f.addr, Value.int .i64 f.e.g, Value.int .i64 f.e.s.f, Value.int .i64 f.e.s.pc, Value.int .i64 f.e.k, Value.int .i64 f.l.g, Value.int .i64 f.l.s.f, Value.int .i64 f.l.s.pc, Value.int .i64 f.l.k] 43, Cel b1 #[Value.int .i64 most, Value.slice A_L L.length c_L, Value.slice Ao16 (P.take g15 ++ [(Pair.of f.e.s f.l.s)] ++ P.drop g15).length co17] 29] [roR Ao16 4 enPair (P.take g15 ++ [(Pair.of f.e.s f.l.s)] ++ P.drop g15), roR A_P 4 enPair P, roR A_L 10 enFlag L] w23 := (hW.pick [1, 2, 3, 4] (by decide) rfl).pickG [0, 1, 2] rfl
                    refine sr_one (i := 5) (by kernel_rfl) (sr_do rfl hA (by kernel_rfl) (by kernel_rfl) (by kernel_rfl) (Runs.cells (fun b => Value.slice (some ⟨b, 0, none⟩) 1 1) #[Value.int .i64 f.at_, Value.int .u32 f.addr, Value.int .i64 f.e.g, Value.int .i64 f.e.s.f, Value.int .i64 f.e.s.pc, Value.int .i64 f.e.k, Value.int .i64 f.l.g, Value.int .i64 f.l.s.f, Value.int .i64 f.l.s.pc, Value.int .i64 f.l.k] 43 (fun _ => by kernel_rfl) hW ?_)); clear hA ac hW; intro br7_5 w24 hW hbr7_5 hfw24 ac hA
                    refine ⟨⟨fun _ => (hW.pick [2, 3, 4, 5] (by decide) rfl).pickG [0, 1, 2] rfl, fun h => absurd h (by decide)⟩, ?_⟩; have hC : Ws w No [Cel b8 #[Value.int .i64 (Pair.of f.e.s f.l.s).a.f, Value.int .i64 (Pair.of f.e.s f.l.s).a.pc, Value.int .i64 (Pair.of f.e.s f.l.s).b.f, Value.int .i64 (Pair.of f.e.s f.l.s).b.pc] 54, Cel b5 #[Value.int .i64 0, Value.slice none 0 0, Value.slice none 0 0] 29, Cel b3 #[Value.int .i64 f.at_, Value.int .u32 f.addr, Value.int .i64 f.e.g, Value.int .i64 f.e.s.f, Value.int .i64 f.e.s.pc, Value.int .i64 f.e.k, Value.int .i64 f.l.g, Value.int .i64 f.l.s.f, Value.int .i64 f.l.s.pc, Value.int .i64 f.l.k] 43, Cel b1 #[Value.int .i64 most, Value.slice A_L L.length c_L, Value.slice Ao16 (P.take g15 ++ [(Pair.of f.e.s f.l.s)] ++ P.drop g15).length co17] 29] [roR Ao16 4 enPair (P.take g15 ++ [(Pair.of f.e.s f.l.s)] ++ P.drop g15), roR A_P 4 enPair P, roR A_L 10 enFlag L] w24 := (hW.pick [2, 3, 4, 5] (by decide) rfl).pickG [0, 1, 2] rfl
                    refine sr_one (i := 6) (by kernel_rfl) (sr_do rfl hA (by kernel_rfl) (by kernel_rfl) (by kernel_rfl) (Runs.appOwn (B := (some ⟨br7_5, 0, none⟩)) (k := 1) (E := 43) (sz := 10) (en := enFlag) (l := (([] : List Flag) ++ L)) (m := ([f] : List Flag)) (i := 1) (by kernel_rfl) (by kernel_rfl) elt_Flag (by kernel_rfl) hW rfl (rowAt_cel ((hW).cel 0 rfl) ([f] : List Flag) (by rfl) elt_Flag.len) (by first | omega | (simp; done) | (simp; omega)) (by first | omega | (simp; done) | (simp; omega)) ?_)); clear hA ac hW; intro Ar7_6 cr7_6 w25 hW hccr7_6 ac hA
                    refine ⟨⟨fun h => absurd h (by decide), fun h => absurd h (by decide)⟩, ?_⟩
                    refine sr_pure (i := 7) (v := Value.pointer (some ⟨b1, 1, none⟩)) hR (by kernel_rfl) rfl (by kernel_rfl) (by kernel_rfl) (fun _ _ _ h => h.elim) hA (by kernel_rfl) (by kernel_rfl) (by kernel_rfl) (Rd.pure fun _ => by kernel_rfl) ?_; clear hA ac; intro ac hA
                    refine sr_one (i := 8) (by kernel_rfl) (sr_do rfl hA (by kernel_rfl) (by kernel_rfl) (by kernel_rfl) (Runs.store (v := Value.slice Ar7_6 ((([] : List Flag) ++ L) ++ ([f] : List Flag)).length cr7_6) (b := b1) (j := 1) (n := 1) (cs' := #[Value.int .i64 most, Value.slice Ar7_6 ((([] : List Flag) ++ L) ++ ([f] : List Flag)).length cr7_6, Value.slice Ao16 (P.take g15 ++ [(Pair.of f.e.s f.l.s)] ++ P.drop g15).length co17]) (H' := [Cel br7_5 #[Value.int .i64 f.at_, Value.int .u32 f.addr, Value.int .i64 f.e.g, Value.int .i64 f.e.s.f, Value.int .i64 f.e.s.pc, Value.int .i64 f.e.k, Value.int .i64 f.l.g, Value.int .i64 f.l.s.f, Value.int .i64 f.l.s.pc, Value.int .i64 f.l.k] 43, rowR 43 10 enFlag (Value.slice Ar7_6 ((([] : List Flag) ++ L) ++ ([f] : List Flag)).length cr7_6) ((([] : List Flag) ++ L) ++ ([f] : List Flag)), Cel b8 #[Value.int .i64 (Pair.of f.e.s f.l.s).a.f, Value.int .i64 (Pair.of f.e.s f.l.s).a.pc, Value.int .i64 (Pair.of f.e.s f.l.s).b.f, Value.int .i64 (Pair.of f.e.s f.l.s).b.pc] 54, Cel b5 #[Value.int .i64 0, Value.slice none 0 0, Value.slice none 0 0] 29, Cel b3 #[Value.int .i64 f.at_, Value.int .u32 f.addr, Value.int .i64 f.e.g, Value.int .i64 f.e.s.f, Value.int .i64 f.e.s.pc, Value.int .i64 f.e.k, Value.int .i64 f.l.g, Value.int .i64 f.l.s.f, Value.int .i64 f.l.s.pc, Value.int .i64 f.l.k] 43, Cel b1 #[Value.int .i64 most, Value.slice Ar7_6 ((([] : List Flag) ++ L) ++ ([f] : List Flag)).length cr7_6, Value.slice Ao16 (P.take g15 ++ [(Pair.of f.e.s f.l.s)] ++ P.drop g15).length co17] 29]) (by kernel_rfl) (by kernel_rfl) (by kernel_rfl) (by kernel_rfl) (by kernel_rfl) hW 5 (by rfl) (Nat.le_of_ble_eq_true (by kernel_rfl)) (by kernel_rfl) (by rfl) ?_)); clear hA ac hW; intro w26 hW ac hA
                    refine ⟨⟨fun h => absurd h (by decide), fun h => absurd h (by decide)⟩, ?_⟩
                    refine sr_done (by kernel_rfl) ?_ _
                    exact ⟨Ar7_3, Ar7_6, br7_0, br7_5, cr7_3, cr7_6, hccr7_3, hccr7_6, hA.sub ⟨⟨by kernel_rfl, by kernel_rfl⟩, ⟨by kernel_rfl, by kernel_rfl⟩, ⟨by kernel_rfl, by kernel_rfl⟩, ⟨by kernel_rfl, by kernel_rfl⟩, ⟨by kernel_rfl, by kernel_rfl⟩, ⟨by kernel_rfl, by kernel_rfl⟩, ⟨by kernel_rfl, by kernel_rfl⟩, ⟨by kernel_rfl, by kernel_rfl⟩, ⟨by kernel_rfl, by kernel_rfl⟩, ⟨by kernel_rfl, by kernel_rfl⟩, ⟨by kernel_rfl, by kernel_rfl⟩, ⟨by kernel_rfl, by kernel_rfl⟩, ⟨by kernel_rfl, by kernel_rfl⟩, ⟨by kernel_rfl, by kernel_rfl⟩, ⟨by kernel_rfl, by kernel_rfl⟩, ⟨by kernel_rfl, by kernel_rfl⟩, ⟨by kernel_rfl, by kernel_rfl⟩, ⟨by kernel_rfl, by kernel_rfl⟩, ⟨by kernel_rfl, by kernel_rfl⟩, ⟨by kernel_rfl, by kernel_rfl⟩, ⟨by kernel_rfl, by kernel_rfl⟩, ⟨by kernel_rfl, by kernel_rfl⟩, ⟨by kernel_rfl, by kernel_rfl⟩, ⟨by kernel_rfl, by kernel_rfl⟩, ⟨by kernel_rfl, by kernel_rfl⟩, ⟨by kernel_rfl, by kernel_rfl⟩, ⟨by kernel_rfl, by kernel_rfl⟩, ⟨by kernel_rfl, by kernel_rfl⟩, ⟨by kernel_rfl, by kernel_rfl⟩, trivial⟩, (hW.pick [0, 1, 2, 3, 4, 5] (by decide) rfl).pickG [0, 1, 2] rfl⟩
                  · skip
                    refine (sr_do rfl hA (by kernel_rfl) (by kernel_rfl) (by kernel_rfl) (Runs.cells (fun b => Value.slice (some ⟨b, 0, none⟩) 1 1) #[Value.int .i64 f.at_, Value.int .u32 f.addr, Value.int .i64 f.e.g, Value.int .i64 f.e.s.f, Value.int .i64 f.e.s.pc, Value.int .i64 f.e.k, Value.int .i64 f.l.g, Value.int .i64 f.l.s.f, Value.int .i64 f.l.s.pc, Value.int .i64 f.l.k] 43 (fun _ => by kernel_rfl) hW ?_)); clear hA ac hW; intro br7_5 w27 hW hbr7_5 hfw27 ac hA
                    refine ⟨⟨fun _ => (hW.pick [2, 3, 4, 5] (by decide) rfl).pickG [0, 1, 2] rfl, fun h => absurd h (by decide)⟩, ?_⟩; have hC : Ws w No [Cel b8 #[Value.int .i64 (Pair.of f.e.s f.l.s).a.f, Value.int .i64 (Pair.of f.e.s f.l.s).a.pc, Value.int .i64 (Pair.of f.e.s f.l.s).b.f, Value.int .i64 (Pair.of f.e.s f.l.s).b.pc] 54, Cel b5 #[Value.int .i64 0, Value.slice none 0 0, Value.slice none 0 0] 29, Cel b3 #[Value.int .i64 f.at_, Value.int .u32 f.addr, Value.int .i64 f.e.g, Value.int .i64 f.e.s.f, Value.int .i64 f.e.s.pc, Value.int .i64 f.e.k, Value.int .i64 f.l.g, Value.int .i64 f.l.s.f, Value.int .i64 f.l.s.pc, Value.int .i64 f.l.k] 43, Cel b1 #[Value.int .i64 most, Value.slice A_L L.length c_L, Value.slice Ao16 (P.take g15 ++ [(Pair.of f.e.s f.l.s)] ++ P.drop g15).length co17] 29] [roR Ao16 4 enPair (P.take g15 ++ [(Pair.of f.e.s f.l.s)] ++ P.drop g15), roR A_P 4 enPair P, roR A_L 10 enFlag L] w27 := (hW.pick [2, 3, 4, 5] (by decide) rfl).pickG [0, 1, 2] rfl
                    have hW := hW.celRow (en := enFlag) (H' := [Cel br7_5 #[Value.int .i64 f.at_, Value.int .u32 f.addr, Value.int .i64 f.e.g, Value.int .i64 f.e.s.f, Value.int .i64 f.e.s.pc, Value.int .i64 f.e.k, Value.int .i64 f.l.g, Value.int .i64 f.l.s.f, Value.int .i64 f.l.s.pc, Value.int .i64 f.l.k] 43, rowR 43 10 enFlag (Value.slice (some ⟨br7_0, 0, none⟩) ([] : List Flag).length ([] : List Flag).length) ([] : List Flag), Cel b8 #[Value.int .i64 (Pair.of f.e.s f.l.s).a.f, Value.int .i64 (Pair.of f.e.s f.l.s).a.pc, Value.int .i64 (Pair.of f.e.s f.l.s).b.f, Value.int .i64 (Pair.of f.e.s f.l.s).b.pc] 54, Cel b5 #[Value.int .i64 0, Value.slice none 0 0, Value.slice none 0 0] 29, Cel b3 #[Value.int .i64 f.at_, Value.int .u32 f.addr, Value.int .i64 f.e.g, Value.int .i64 f.e.s.f, Value.int .i64 f.e.s.pc, Value.int .i64 f.e.k, Value.int .i64 f.l.g, Value.int .i64 f.l.s.f, Value.int .i64 f.l.s.pc, Value.int .i64 f.l.k] 43, Cel b1 #[Value.int .i64 most, Value.slice A_L L.length c_L, Value.slice Ao16 (P.take g15 ++ [(Pair.of f.e.s f.l.s)] ++ P.drop g15).length co17] 29]) 1 rfl ([] : List Flag) (by rfl) elt_Flag.len (by decide) rfl
                    refine sr_one (i := 3) (by kernel_rfl) (sr_do rfl hA (by kernel_rfl) (by kernel_rfl) (by kernel_rfl) (Runs.appOwn (B := A_L) (k := c_L) (E := 43) (sz := 10) (en := enFlag) (l := ([] : List Flag)) (m := L) (i := 1) (by kernel_rfl) (by kernel_rfl) elt_Flag (by kernel_rfl) hW rfl ((hW).getG 2 rfl) (by first | omega | (simp; done) | (simp; omega)) (by first | omega | (simp; done) | (simp; omega)) ?_)); clear hA ac hW; intro Ar7_3 cr7_3 w28 hW hccr7_3 ac hA
                    refine ⟨⟨fun _ => (hW.pick [2, 3, 4, 5] (by decide) rfl).pickG [0, 1, 2] rfl, fun h => absurd h (by decide)⟩, ?_⟩; have hC : Ws w No [Cel b8 #[Value.int .i64 (Pair.of f.e.s f.l.s).a.f, Value.int .i64 (Pair.of f.e.s f.l.s).a.pc, Value.int .i64 (Pair.of f.e.s f.l.s).b.f, Value.int .i64 (Pair.of f.e.s f.l.s).b.pc] 54, Cel b5 #[Value.int .i64 0, Value.slice none 0 0, Value.slice none 0 0] 29, Cel b3 #[Value.int .i64 f.at_, Value.int .u32 f.addr, Value.int .i64 f.e.g, Value.int .i64 f.e.s.f, Value.int .i64 f.e.s.pc, Value.int .i64 f.e.k, Value.int .i64 f.l.g, Value.int .i64 f.l.s.f, Value.int .i64 f.l.s.pc, Value.int .i64 f.l.k] 43, Cel b1 #[Value.int .i64 most, Value.slice A_L L.length c_L, Value.slice Ao16 (P.take g15 ++ [(Pair.of f.e.s f.l.s)] ++ P.drop g15).length co17] 29] [roR Ao16 4 enPair (P.take g15 ++ [(Pair.of f.e.s f.l.s)] ++ P.drop g15), roR A_P 4 enPair P, roR A_L 10 enFlag L] w28 := (hW.pick [2, 3, 4, 5] (by decide) rfl).pickG [0, 1, 2] rfl
                    refine sr_one (i := 6) (by kernel_rfl) (sr_do rfl hA (by kernel_rfl) (by kernel_rfl) (by kernel_rfl) (Runs.appOwn (B := (some ⟨br7_5, 0, none⟩)) (k := 1) (E := 43) (sz := 10) (en := enFlag) (l := (([] : List Flag) ++ L)) (m := ([f] : List Flag)) (i := 1) (by kernel_rfl) (by kernel_rfl) elt_Flag (by kernel_rfl) hW rfl (rowAt_cel ((hW).cel 0 rfl) ([f] : List Flag) (by rfl) elt_Flag.len) (by first | omega | (simp; done) | (simp; omega)) (by first | omega | (simp; done) | (simp; omega)) ?_)); clear hA ac hW; intro Ar7_6 cr7_6 w29 hW hccr7_6 ac hA
                    refine ⟨⟨fun h => absurd h (by decide), fun h => absurd h (by decide)⟩, ?_⟩
                    refine sr_pure (i := 7) (v := Value.pointer (some ⟨b1, 1, none⟩)) hR (by kernel_rfl) rfl (by kernel_rfl) (by kernel_rfl) (fun _ _ _ h => h.elim) hA (by kernel_rfl) (by kernel_rfl) (by kernel_rfl) (Rd.pure fun _ => by kernel_rfl) ?_; clear hA ac; intro ac hA
                    refine sr_one (i := 8) (by kernel_rfl) (sr_do rfl hA (by kernel_rfl) (by kernel_rfl) (by kernel_rfl) (Runs.store (v := Value.slice Ar7_6 ((([] : List Flag) ++ L) ++ ([f] : List Flag)).length cr7_6) (b := b1) (j := 1) (n := 1) (cs' := #[Value.int .i64 most, Value.slice Ar7_6 ((([] : List Flag) ++ L) ++ ([f] : List Flag)).length cr7_6, Value.slice Ao16 (P.take g15 ++ [(Pair.of f.e.s f.l.s)] ++ P.drop g15).length co17]) (H' := [Cel br7_5 #[Value.int .i64 f.at_, Value.int .u32 f.addr, Value.int .i64 f.e.g, Value.int .i64 f.e.s.f, Value.int .i64 f.e.s.pc, Value.int .i64 f.e.k, Value.int .i64 f.l.g, Value.int .i64 f.l.s.f, Value.int .i64 f.l.s.pc, Value.int .i64 f.l.k] 43, rowR 43 10 enFlag (Value.slice Ar7_6 ((([] : List Flag) ++ L) ++ ([f] : List Flag)).length cr7_6) ((([] : List Flag) ++ L) ++ ([f] : List Flag)), Cel b8 #[Value.int .i64 (Pair.of f.e.s f.l.s).a.f, Value.int .i64 (Pair.of f.e.s f.l.s).a.pc, Value.int .i64 (Pair.of f.e.s f.l.s).b.f, Value.int .i64 (Pair.of f.e.s f.l.s).b.pc] 54, Cel b5 #[Value.int .i64 0, Value.slice none 0 0, Value.slice none 0 0] 29, Cel b3 #[Value.int .i64 f.at_, Value.int .u32 f.addr, Value.int .i64 f.e.g, Value.int .i64 f.e.s.f, Value.int .i64 f.e.s.pc, Value.int .i64 f.e.k, Value.int .i64 f.l.g, Value.int .i64 f.l.s.f, Value.int .i64 f.l.s.pc, Value.int .i64 f.l.k] 43, Cel b1 #[Value.int .i64 most, Value.slice Ar7_6 ((([] : List Flag) ++ L) ++ ([f] : List Flag)).length cr7_6, Value.slice Ao16 (P.take g15 ++ [(Pair.of f.e.s f.l.s)] ++ P.drop g15).length co17] 29]) (by kernel_rfl) (by kernel_rfl) (by kernel_rfl) (by kernel_rfl) (by kernel_rfl) hW 5 (by rfl) (Nat.le_of_ble_eq_true (by kernel_rfl)) (by kernel_rfl) (by rfl) ?_)); clear hA ac hW; intro w30 hW ac hA
                    refine ⟨⟨fun h => absurd h (by decide), fun h => absurd h (by decide)⟩, ?_⟩
                    refine sr_done (by kernel_rfl) ?_ _
                    exact ⟨Ar7_3, Ar7_6, br7_0, br7_5, cr7_3, cr7_6, hccr7_3, hccr7_6, hA.sub ⟨⟨by kernel_rfl, by kernel_rfl⟩, ⟨by kernel_rfl, by kernel_rfl⟩, ⟨by kernel_rfl, by kernel_rfl⟩, ⟨by kernel_rfl, by kernel_rfl⟩, ⟨by kernel_rfl, by kernel_rfl⟩, ⟨by kernel_rfl, by kernel_rfl⟩, ⟨by kernel_rfl, by kernel_rfl⟩, ⟨by kernel_rfl, by kernel_rfl⟩, ⟨by kernel_rfl, by kernel_rfl⟩, ⟨by kernel_rfl, by kernel_rfl⟩, ⟨by kernel_rfl, by kernel_rfl⟩, ⟨by kernel_rfl, by kernel_rfl⟩, ⟨by kernel_rfl, by kernel_rfl⟩, ⟨by kernel_rfl, by kernel_rfl⟩, ⟨by kernel_rfl, by kernel_rfl⟩, ⟨by kernel_rfl, by kernel_rfl⟩, ⟨by kernel_rfl, by kernel_rfl⟩, ⟨by kernel_rfl, by kernel_rfl⟩, ⟨by kernel_rfl, by kernel_rfl⟩, ⟨by kernel_rfl, by kernel_rfl⟩, ⟨by kernel_rfl, by kernel_rfl⟩, ⟨by kernel_rfl, by kernel_rfl⟩, ⟨by kernel_rfl, by kernel_rfl⟩, ⟨by kernel_rfl, by kernel_rfl⟩, ⟨by kernel_rfl, by kernel_rfl⟩, ⟨by kernel_rfl, by kernel_rfl⟩, ⟨by kernel_rfl, by kernel_rfl⟩, ⟨by kernel_rfl, by kernel_rfl⟩, ⟨by kernel_rfl, by kernel_rfl⟩, trivial⟩, (hW.pick [0, 1, 2, 3, 4, 5] (by decide) rfl).pickG [0, 1, 2] rfl⟩
                · skip
                  refine (sr_do rfl hA (by kernel_rfl) (by kernel_rfl) (by kernel_rfl) (Runs.cells (fun b => Value.slice (some ⟨b, 0, none⟩) 1 1) #[Value.int .i64 f.at_, Value.int .u32 f.addr, Value.int .i64 f.e.g, Value.int .i64 f.e.s.f, Value.int .i64 f.e.s.pc, Value.int .i64 f.e.k, Value.int .i64 f.l.g, Value.int .i64 f.l.s.f, Value.int .i64 f.l.s.pc, Value.int .i64 f.l.k] 43 (fun _ => by kernel_rfl) hW ?_)); clear hA ac hW; intro br7_5 w31 hW hbr7_5 hfw31 ac hA
                  refine ⟨⟨fun _ => (hW.pick [1, 2, 3, 4] (by decide) rfl).pickG [0, 1, 2] rfl, fun h => absurd h (by decide)⟩, ?_⟩; have hC : Ws w No [Cel b8 #[Value.int .i64 (Pair.of f.e.s f.l.s).a.f, Value.int .i64 (Pair.of f.e.s f.l.s).a.pc, Value.int .i64 (Pair.of f.e.s f.l.s).b.f, Value.int .i64 (Pair.of f.e.s f.l.s).b.pc] 54, Cel b5 #[Value.int .i64 0, Value.slice none 0 0, Value.slice none 0 0] 29, Cel b3 #[Value.int .i64 f.at_, Value.int .u32 f.addr, Value.int .i64 f.e.g, Value.int .i64 f.e.s.f, Value.int .i64 f.e.s.pc, Value.int .i64 f.e.k, Value.int .i64 f.l.g, Value.int .i64 f.l.s.f, Value.int .i64 f.l.s.pc, Value.int .i64 f.l.k] 43, Cel b1 #[Value.int .i64 most, Value.slice A_L L.length c_L, Value.slice Ao16 (P.take g15 ++ [(Pair.of f.e.s f.l.s)] ++ P.drop g15).length co17] 29] [roR Ao16 4 enPair (P.take g15 ++ [(Pair.of f.e.s f.l.s)] ++ P.drop g15), roR A_P 4 enPair P, roR A_L 10 enFlag L] w31 := (hW.pick [1, 2, 3, 4] (by decide) rfl).pickG [0, 1, 2] rfl
                  refine sr_one (i := 0) (by kernel_rfl) (sr_do rfl hA (by kernel_rfl) (by kernel_rfl) (by kernel_rfl) (Runs.cells (fun b => Value.slice (some ⟨b, 0, none⟩) 0 0) #[] 43 (fun _ => by kernel_rfl) hW ?_)); clear hA ac hW; intro br7_0 w32 hW hbr7_0 hfw32 ac hA
                  refine ⟨⟨fun _ => (hW.pick [2, 3, 4, 5] (by decide) rfl).pickG [0, 1, 2] rfl, fun h => absurd h (by decide)⟩, ?_⟩; have hC : Ws w No [Cel b8 #[Value.int .i64 (Pair.of f.e.s f.l.s).a.f, Value.int .i64 (Pair.of f.e.s f.l.s).a.pc, Value.int .i64 (Pair.of f.e.s f.l.s).b.f, Value.int .i64 (Pair.of f.e.s f.l.s).b.pc] 54, Cel b5 #[Value.int .i64 0, Value.slice none 0 0, Value.slice none 0 0] 29, Cel b3 #[Value.int .i64 f.at_, Value.int .u32 f.addr, Value.int .i64 f.e.g, Value.int .i64 f.e.s.f, Value.int .i64 f.e.s.pc, Value.int .i64 f.e.k, Value.int .i64 f.l.g, Value.int .i64 f.l.s.f, Value.int .i64 f.l.s.pc, Value.int .i64 f.l.k] 43, Cel b1 #[Value.int .i64 most, Value.slice A_L L.length c_L, Value.slice Ao16 (P.take g15 ++ [(Pair.of f.e.s f.l.s)] ++ P.drop g15).length co17] 29] [roR Ao16 4 enPair (P.take g15 ++ [(Pair.of f.e.s f.l.s)] ++ P.drop g15), roR A_P 4 enPair P, roR A_L 10 enFlag L] w32 := (hW.pick [2, 3, 4, 5] (by decide) rfl).pickG [0, 1, 2] rfl
                  have hW := hW.celRow (en := enFlag) (H' := [rowR 43 10 enFlag (Value.slice (some ⟨br7_0, 0, none⟩) ([] : List Flag).length ([] : List Flag).length) ([] : List Flag), Cel br7_5 #[Value.int .i64 f.at_, Value.int .u32 f.addr, Value.int .i64 f.e.g, Value.int .i64 f.e.s.f, Value.int .i64 f.e.s.pc, Value.int .i64 f.e.k, Value.int .i64 f.l.g, Value.int .i64 f.l.s.f, Value.int .i64 f.l.s.pc, Value.int .i64 f.l.k] 43, Cel b8 #[Value.int .i64 (Pair.of f.e.s f.l.s).a.f, Value.int .i64 (Pair.of f.e.s f.l.s).a.pc, Value.int .i64 (Pair.of f.e.s f.l.s).b.f, Value.int .i64 (Pair.of f.e.s f.l.s).b.pc] 54, Cel b5 #[Value.int .i64 0, Value.slice none 0 0, Value.slice none 0 0] 29, Cel b3 #[Value.int .i64 f.at_, Value.int .u32 f.addr, Value.int .i64 f.e.g, Value.int .i64 f.e.s.f, Value.int .i64 f.e.s.pc, Value.int .i64 f.e.k, Value.int .i64 f.l.g, Value.int .i64 f.l.s.f, Value.int .i64 f.l.s.pc, Value.int .i64 f.l.k] 43, Cel b1 #[Value.int .i64 most, Value.slice A_L L.length c_L, Value.slice Ao16 (P.take g15 ++ [(Pair.of f.e.s f.l.s)] ++ P.drop g15).length co17] 29]) 0 rfl ([] : List Flag) (by rfl) elt_Flag.len (by decide) rfl
                  refine sr_one (i := 3) (by kernel_rfl) (sr_do rfl hA (by kernel_rfl) (by kernel_rfl) (by kernel_rfl) (Runs.appOwn (B := A_L) (k := c_L) (E := 43) (sz := 10) (en := enFlag) (l := ([] : List Flag)) (m := L) (i := 0) (by kernel_rfl) (by kernel_rfl) elt_Flag (by kernel_rfl) hW rfl ((hW).getG 2 rfl) (by first | omega | (simp; done) | (simp; omega)) (by first | omega | (simp; done) | (simp; omega)) ?_)); clear hA ac hW; intro Ar7_3 cr7_3 w33 hW hccr7_3 ac hA
                  refine ⟨⟨fun _ => (hW.pick [2, 3, 4, 5] (by decide) rfl).pickG [0, 1, 2] rfl, fun h => absurd h (by decide)⟩, ?_⟩; have hC : Ws w No [Cel b8 #[Value.int .i64 (Pair.of f.e.s f.l.s).a.f, Value.int .i64 (Pair.of f.e.s f.l.s).a.pc, Value.int .i64 (Pair.of f.e.s f.l.s).b.f, Value.int .i64 (Pair.of f.e.s f.l.s).b.pc] 54, Cel b5 #[Value.int .i64 0, Value.slice none 0 0, Value.slice none 0 0] 29, Cel b3 #[Value.int .i64 f.at_, Value.int .u32 f.addr, Value.int .i64 f.e.g, Value.int .i64 f.e.s.f, Value.int .i64 f.e.s.pc, Value.int .i64 f.e.k, Value.int .i64 f.l.g, Value.int .i64 f.l.s.f, Value.int .i64 f.l.s.pc, Value.int .i64 f.l.k] 43, Cel b1 #[Value.int .i64 most, Value.slice A_L L.length c_L, Value.slice Ao16 (P.take g15 ++ [(Pair.of f.e.s f.l.s)] ++ P.drop g15).length co17] 29] [roR Ao16 4 enPair (P.take g15 ++ [(Pair.of f.e.s f.l.s)] ++ P.drop g15), roR A_P 4 enPair P, roR A_L 10 enFlag L] w33 := (hW.pick [2, 3, 4, 5] (by decide) rfl).pickG [0, 1, 2] rfl
                  refine sr_one (i := 6) (by kernel_rfl) (sr_do rfl hA (by kernel_rfl) (by kernel_rfl) (by kernel_rfl) (Runs.appOwn (B := (some ⟨br7_5, 0, none⟩)) (k := 1) (E := 43) (sz := 10) (en := enFlag) (l := (([] : List Flag) ++ L)) (m := ([f] : List Flag)) (i := 0) (by kernel_rfl) (by kernel_rfl) elt_Flag (by kernel_rfl) hW rfl (rowAt_cel ((hW).cel 1 rfl) ([f] : List Flag) (by rfl) elt_Flag.len) (by first | omega | (simp; done) | (simp; omega)) (by first | omega | (simp; done) | (simp; omega)) ?_)); clear hA ac hW; intro Ar7_6 cr7_6 w34 hW hccr7_6 ac hA
                  refine ⟨⟨fun h => absurd h (by decide), fun h => absurd h (by decide)⟩, ?_⟩
                  refine sr_pure (i := 7) (v := Value.pointer (some ⟨b1, 1, none⟩)) hR (by kernel_rfl) rfl (by kernel_rfl) (by kernel_rfl) (fun _ _ _ h => h.elim) hA (by kernel_rfl) (by kernel_rfl) (by kernel_rfl) (Rd.pure fun _ => by kernel_rfl) ?_; clear hA ac; intro ac hA
                  refine sr_one (i := 8) (by kernel_rfl) (sr_do rfl hA (by kernel_rfl) (by kernel_rfl) (by kernel_rfl) (Runs.store (v := Value.slice Ar7_6 ((([] : List Flag) ++ L) ++ ([f] : List Flag)).length cr7_6) (b := b1) (j := 1) (n := 1) (cs' := #[Value.int .i64 most, Value.slice Ar7_6 ((([] : List Flag) ++ L) ++ ([f] : List Flag)).length cr7_6, Value.slice Ao16 (P.take g15 ++ [(Pair.of f.e.s f.l.s)] ++ P.drop g15).length co17]) (H' := [rowR 43 10 enFlag (Value.slice Ar7_6 ((([] : List Flag) ++ L) ++ ([f] : List Flag)).length cr7_6) ((([] : List Flag) ++ L) ++ ([f] : List Flag)), Cel br7_5 #[Value.int .i64 f.at_, Value.int .u32 f.addr, Value.int .i64 f.e.g, Value.int .i64 f.e.s.f, Value.int .i64 f.e.s.pc, Value.int .i64 f.e.k, Value.int .i64 f.l.g, Value.int .i64 f.l.s.f, Value.int .i64 f.l.s.pc, Value.int .i64 f.l.k] 43, Cel b8 #[Value.int .i64 (Pair.of f.e.s f.l.s).a.f, Value.int .i64 (Pair.of f.e.s f.l.s).a.pc, Value.int .i64 (Pair.of f.e.s f.l.s).b.f, Value.int .i64 (Pair.of f.e.s f.l.s).b.pc] 54, Cel b5 #[Value.int .i64 0, Value.slice none 0 0, Value.slice none 0 0] 29, Cel b3 #[Value.int .i64 f.at_, Value.int .u32 f.addr, Value.int .i64 f.e.g, Value.int .i64 f.e.s.f, Value.int .i64 f.e.s.pc, Value.int .i64 f.e.k, Value.int .i64 f.l.g, Value.int .i64 f.l.s.f, Value.int .i64 f.l.s.pc, Value.int .i64 f.l.k] 43, Cel b1 #[Value.int .i64 most, Value.slice Ar7_6 ((([] : List Flag) ++ L) ++ ([f] : List Flag)).length cr7_6, Value.slice Ao16 (P.take g15 ++ [(Pair.of f.e.s f.l.s)] ++ P.drop g15).length co17] 29]) (by kernel_rfl) (by kernel_rfl) (by kernel_rfl) (by kernel_rfl) (by kernel_rfl) hW 5 (by rfl) (Nat.le_of_ble_eq_true (by kernel_rfl)) (by kernel_rfl) (by rfl) ?_)); clear hA ac hW; intro w35 hW ac hA
                  refine ⟨⟨fun h => absurd h (by decide), fun h => absurd h (by decide)⟩, ?_⟩
                  refine sr_done (by kernel_rfl) ?_ _
                  exact ⟨Ar7_3, Ar7_6, br7_0, br7_5, cr7_3, cr7_6, hccr7_3, hccr7_6, hA.sub ⟨⟨by kernel_rfl, by kernel_rfl⟩, ⟨by kernel_rfl, by kernel_rfl⟩, ⟨by kernel_rfl, by kernel_rfl⟩, ⟨by kernel_rfl, by kernel_rfl⟩, ⟨by kernel_rfl, by kernel_rfl⟩, ⟨by kernel_rfl, by kernel_rfl⟩, ⟨by kernel_rfl, by kernel_rfl⟩, ⟨by kernel_rfl, by kernel_rfl⟩, ⟨by kernel_rfl, by kernel_rfl⟩, ⟨by kernel_rfl, by kernel_rfl⟩, ⟨by kernel_rfl, by kernel_rfl⟩, ⟨by kernel_rfl, by kernel_rfl⟩, ⟨by kernel_rfl, by kernel_rfl⟩, ⟨by kernel_rfl, by kernel_rfl⟩, ⟨by kernel_rfl, by kernel_rfl⟩, ⟨by kernel_rfl, by kernel_rfl⟩, ⟨by kernel_rfl, by kernel_rfl⟩, ⟨by kernel_rfl, by kernel_rfl⟩, ⟨by kernel_rfl, by kernel_rfl⟩, ⟨by kernel_rfl, by kernel_rfl⟩, ⟨by kernel_rfl, by kernel_rfl⟩, ⟨by kernel_rfl, by kernel_rfl⟩, ⟨by kernel_rfl, by kernel_rfl⟩, ⟨by kernel_rfl, by kernel_rfl⟩, ⟨by kernel_rfl, by kernel_rfl⟩, ⟨by kernel_rfl, by kernel_rfl⟩, ⟨by kernel_rfl, by kernel_rfl⟩, ⟨by kernel_rfl, by kernel_rfl⟩, ⟨by kernel_rfl, by kernel_rfl⟩, trivial⟩, (hW.pick [1, 0, 2, 3, 4, 5] (by decide) rfl).pickG [0, 1, 2] rfl⟩
              clear hA ac hW; rintro ac w36 ⟨Ar7_3, Ar7_6, br7_0, br7_5, cr7_3, cr7_6, hccr7_3, hccr7_6, hA, hW⟩
              refine thenN ?_
              refine wp_seq ?_
              refine wp_region_lit ?_
              refine st_rd (v := Value.agg #[Value.int .i64 most, Value.slice Ar7_6 ((([] : List Flag) ++ L) ++ ([f] : List Flag)).length cr7_6, Value.slice Ao16 (P.take g15 ++ [(Pair.of f.e.s f.l.s)] ++ P.drop g15).length co17]) hA (by kernel_rfl) (by kernel_rfl) (by kernel_rfl) hW.cls (Rd.load (b := b1) (i := 0) (by kernel_rfl) (fun _ hw => (hw.1).cel 5 rfl) (by kernel_rfl)) ?_; clear hA ac; intro ac hA
              refine st hA (by kernel_rfl) (by kernel_rfl) (by kernel_rfl) (Runs.store (v := Value.agg #[Value.int .i64 most, Value.slice Ar7_6 ((([] : List Flag) ++ L) ++ ([f] : List Flag)).length cr7_6, Value.slice Ao16 (P.take g15 ++ [(Pair.of f.e.s f.l.s)] ++ P.drop g15).length co17]) (b := b5) (j := 0) (n := 3) (cs' := #[Value.int .i64 most, Value.slice Ar7_6 ((([] : List Flag) ++ L) ++ ([f] : List Flag)).length cr7_6, Value.slice Ao16 (P.take g15 ++ [(Pair.of f.e.s f.l.s)] ++ P.drop g15).length co17]) (H' := [Cel br7_5 #[Value.int .i64 f.at_, Value.int .u32 f.addr, Value.int .i64 f.e.g, Value.int .i64 f.e.s.f, Value.int .i64 f.e.s.pc, Value.int .i64 f.e.k, Value.int .i64 f.l.g, Value.int .i64 f.l.s.f, Value.int .i64 f.l.s.pc, Value.int .i64 f.l.k] 43, rowR 43 10 enFlag (Value.slice Ar7_6 ((([] : List Flag) ++ L) ++ ([f] : List Flag)).length cr7_6) ((([] : List Flag) ++ L) ++ ([f] : List Flag)), Cel b8 #[Value.int .i64 (Pair.of f.e.s f.l.s).a.f, Value.int .i64 (Pair.of f.e.s f.l.s).a.pc, Value.int .i64 (Pair.of f.e.s f.l.s).b.f, Value.int .i64 (Pair.of f.e.s f.l.s).b.pc] 54, Cel b5 #[Value.int .i64 most, Value.slice Ar7_6 ((([] : List Flag) ++ L) ++ ([f] : List Flag)).length cr7_6, Value.slice Ao16 (P.take g15 ++ [(Pair.of f.e.s f.l.s)] ++ P.drop g15).length co17] 29, Cel b3 #[Value.int .i64 f.at_, Value.int .u32 f.addr, Value.int .i64 f.e.g, Value.int .i64 f.e.s.f, Value.int .i64 f.e.s.pc, Value.int .i64 f.e.k, Value.int .i64 f.l.g, Value.int .i64 f.l.s.f, Value.int .i64 f.l.s.pc, Value.int .i64 f.l.k] 43, Cel b1 #[Value.int .i64 most, Value.slice Ar7_6 ((([] : List Flag) ++ L) ++ ([f] : List Flag)).length cr7_6, Value.slice Ao16 (P.take g15 ++ [(Pair.of f.e.s f.l.s)] ++ P.drop g15).length co17] 29]) (by kernel_rfl) (by kernel_rfl) (by kernel_rfl) (by kernel_rfl) (by kernel_rfl) hW 3 (by rfl) (Nat.le_of_ble_eq_true (by kernel_rfl)) (by kernel_rfl) (by rfl) ?_); clear hA ac hW; intro w37 hW ac hA
              refine st_rd (v := Value.bool true) hA (by kernel_rfl) (by kernel_rfl) (by kernel_rfl) hW.cls (Rd.pure fun _ => by kernel_rfl) ?_; clear hA ac; intro ac hA
              refine wpList_nil ?_
              refine thenN ?_
              refine wp_ret ?_
              refine ret2 (v1 := Value.agg #[Value.int .i64 most, Value.slice Ar7_6 ((([] : List Flag) ++ L) ++ ([f] : List Flag)).length cr7_6, Value.slice Ao16 (P.take g15 ++ [(Pair.of f.e.s f.l.s)] ++ P.drop g15).length co17]) (v2 := Value.bool true) (by rfl) hA (Got.cell (b := b5) (i := 0) hA (by kernel_rfl) (by kernel_rfl) (hW.cel 3 rfl) (by kernel_rfl)) (Got.tmp hA (by kernel_rfl) (by kernel_rfl)) ?_
              clear hA
              exact ⟨(([] : List Flag) ++ L) ++ ([f] : List Flag), P.take g15 ++ [(Pair.of f.e.s f.l.s)] ++ P.drop g15, true, Ar7_6, cr7_6, Ao16, co17, by first | rfl | (simp; done), by unfold RT.Takes; rw [if_neg (of_decide_eq_false h12)]; exact ⟨_, hw14_hk, rfl, rfl, by rw [if_neg (by simp; omega)]; exact ⟨rfl, rfl⟩⟩, (own_cap ((hW).get 1 rfl)), (by first | assumption | omega | (simp; omega) | simp), (hW.outRow 1 rfl elt_Flag.len (fun _ h => h)), (hW.outSrc 0 rfl hsco17), hW.fr⟩))

set_option maxRecDepth 100000 in
theorem e_of27 (most : Int) (A_l : Option Addr) (c_l : Nat) (l : List Flag) (w : World) (hr_l : RowAt w A_l 10 enFlag l) (hc_l : l.length ≤ c_l) (hl : l.length ≤ 40) : Calls Try.prog 9 #[Value.int .i64 most, Value.slice A_l l.length c_l] w (fun e w' => ∃ m' : Int, ∃ L' : List Flag, ∃ P' : List Pair, ∃ bad : Int, ∃ (A_o1 : Option Addr) (c_o1 : Nat), ∃ (A_o2 : Option Addr) (c_o2 : Nat), e = .returned (Value.tuple #[Value.agg #[Value.int .i64 m', Value.slice A_o1 (L').length c_o1, Value.slice A_o2 (P').length c_o2], Value.int .i64 bad]) ∧ (OfRel most l m' L' P' bad) ∧ (L').length ≤ c_o1 ∧ (P').length ≤ c_o2 ∧ (roR A_o1 10 enFlag L').from_ [roR A_l 10 enFlag l] w w' ∧ (roR A_o2 4 enPair P').from_ [roR A_l 10 enFlag l] w w' ∧ Fr No w w') := by
  have _hu := hc_l; have _hv := hr_l; clear _hu _hv
  have _hu := hl; clear _hu
  refine enter_E 40 Try.func9 rfl rfl (by kernel_rfl) (L := [(0, Value.int .i64 most), (1, Value.slice A_l l.length c_l)]) (by kernel_rfl) ?_
  intro ac hA
  have hW := Ws.start w No
  have hW := hW.arg hr_l
  refine wp_seq ?_
  refine wp_region_lit ?_
  refine st hA (by kernel_rfl) (by kernel_rfl) (by kernel_rfl) (Runs.cells (fun b => Value.pointer (some ⟨b, 0, none⟩)) #[Value.int .i64 0, Value.slice none 0 0, Value.slice none 0 0] 29 (fun _ => by kernel_rfl) hW ?_); clear hA ac hW; intro b1 w2 hW hb1 hfw2 ac hA
  refine st_rd (v := Value.int .i64 0) hA (by kernel_rfl) (by kernel_rfl) (by kernel_rfl) hW.cls (Rd.pure fun _ => by kernel_rfl) ?_; clear hA ac; intro ac hA
  refine wpList_nil ?_
  refine thenN ?_
  refine wp_seq ?_
  refine wp_seq ?_
  refine wp_region_lit ?_
  refine st_rd (v := Value.int .i64 most) hA (by kernel_rfl) (by kernel_rfl) (by kernel_rfl) hW.cls (Rd.pure fun _ => by kernel_rfl) ?_; clear hA ac; intro ac hA
  refine st_rd (v := Value.bool (decide ((most : Int) < (0 : Int)))) hA (by kernel_rfl) (by kernel_rfl) (by kernel_rfl) hW.cls (Rd.pure fun _ => by kernel_rfl) ?_; clear hA ac; intro ac hA
  refine st_rd (v := Value.bool (decide ((most : Int) < (0 : Int)))) hA (by kernel_rfl) (by kernel_rfl) (by kernel_rfl) hW.cls (Rd.pure fun _ => by kernel_rfl) ?_; clear hA ac; intro ac hA
  rcases Bool.eq_false_or_eq_true (decide ((most : Int) < (0 : Int))) with h3 | h3
  · skip
    rw [h3] at hA
    have h3 := of_decide_eq_true h3
    first
    | (exfalso; clear hA hW; omega)
    | (
        refine st_skip hA (by kernel_rfl) (by kernel_rfl) ?_; clear hA ac; intro ac hA
        refine st_skip hA (by kernel_rfl) (by kernel_rfl) ?_; clear hA ac; intro ac hA
        refine st_rd (v := Value.bool true) hA (by kernel_rfl) (by kernel_rfl) (by kernel_rfl) hW.cls (Rd.pure fun _ => by kernel_rfl) ?_; clear hA ac; intro ac hA
        refine wpList_nil ?_
        refine thenN ?_
        refine wp_cond_true (hA.eval (by kernel_rfl)) ?_
        refine wp_seq ?_
        refine wp_region_lit ?_
        refine st_rd (v := Value.agg #[Value.int .i64 0, Value.slice none 0 0, Value.slice none 0 0]) hA (by kernel_rfl) (by kernel_rfl) (by kernel_rfl) hW.cls (Rd.pure fun _ => by kernel_rfl) ?_; clear hA ac; intro ac hA
        refine st hA (by kernel_rfl) (by kernel_rfl) (by kernel_rfl) (Runs.store (v := Value.agg #[Value.int .i64 0, Value.slice none 0 0, Value.slice none 0 0]) (b := b1) (j := 0) (n := 3) (cs' := #[Value.int .i64 0, Value.slice none 0 0, Value.slice none 0 0]) (H' := [Cel b1 #[Value.int .i64 0, Value.slice none 0 0, Value.slice none 0 0] 29]) (by kernel_rfl) (by kernel_rfl) (by kernel_rfl) (by kernel_rfl) (by kernel_rfl) hW 0 (by rfl) (Nat.le_of_ble_eq_true (by kernel_rfl)) (by kernel_rfl) (by rfl) ?_); clear hA ac hW; intro w4 hW ac hA
        refine st_rd (v := Value.int .i64 2) hA (by kernel_rfl) (by kernel_rfl) (by kernel_rfl) hW.cls (Rd.pure fun _ => by kernel_rfl) ?_; clear hA ac; intro ac hA
        refine wpList_nil ?_
        refine thenN ?_
        refine wp_ret ?_
        refine thenR ?_
        refine ret2 (v1 := Value.agg #[Value.int .i64 0, Value.slice none 0 0, Value.slice none 0 0]) (v2 := Value.int .i64 2) (by rfl) hA (Got.cell (b := b1) (i := 0) hA (by kernel_rfl) (by kernel_rfl) (hW.cel 0 rfl) (by kernel_rfl)) (Got.tmp hA (by kernel_rfl) (by kernel_rfl)) ?_
        clear hA
        exact ⟨0, ([] : List Flag), ([] : List Pair), 2, none, 0, none, 0, by first | rfl | (simp; done), by unfold OfRel; rw [if_neg (fun hh => by omega)]; exact ⟨rfl, rfl, rfl, rfl⟩, (by simp), (by simp), from_nil, from_nil, hW.fr⟩)
  · skip
    rw [h3] at hA
    have h3 := of_decide_eq_false h3
    first
    | (exfalso; clear hA hW; omega)
    | (
        refine st_rd (v := Value.int .i64 most) hA (by kernel_rfl) (by kernel_rfl) (by kernel_rfl) hW.cls (Rd.pure fun _ => by kernel_rfl) ?_; clear hA ac; intro ac hA
        refine st_rd (v := Value.bool (decide ((most : Int) > (65536 : Int)))) hA (by kernel_rfl) (by kernel_rfl) (by kernel_rfl) hW.cls (Rd.pure fun _ => by kernel_rfl) ?_; clear hA ac; intro ac hA
        refine st_rd (v := Value.bool (decide ((most : Int) > (65536 : Int)))) hA (by kernel_rfl) (by kernel_rfl) (by kernel_rfl) hW.cls (Rd.pure fun _ => by kernel_rfl) ?_; clear hA ac; intro ac hA
        refine wpList_nil ?_
        refine thenN ?_
        refine wp_cond_split (t := decide ((most : Int) > (65536 : Int))) (hA.eval (by kernel_rfl)) (fun h5 => ?_) (fun h5 => ?_)
        · skip
          have h5 := of_decide_eq_true h5
          first
          | (exfalso; clear hA hW; omega)
          | (
              refine wp_seq ?_
              refine wp_region_lit ?_
              refine st_rd (v := Value.agg #[Value.int .i64 0, Value.slice none 0 0, Value.slice none 0 0]) hA (by kernel_rfl) (by kernel_rfl) (by kernel_rfl) hW.cls (Rd.pure fun _ => by kernel_rfl) ?_; clear hA ac; intro ac hA
              refine st hA (by kernel_rfl) (by kernel_rfl) (by kernel_rfl) (Runs.store (v := Value.agg #[Value.int .i64 0, Value.slice none 0 0, Value.slice none 0 0]) (b := b1) (j := 0) (n := 3) (cs' := #[Value.int .i64 0, Value.slice none 0 0, Value.slice none 0 0]) (H' := [Cel b1 #[Value.int .i64 0, Value.slice none 0 0, Value.slice none 0 0] 29]) (by kernel_rfl) (by kernel_rfl) (by kernel_rfl) (by kernel_rfl) (by kernel_rfl) hW 0 (by rfl) (Nat.le_of_ble_eq_true (by kernel_rfl)) (by kernel_rfl) (by rfl) ?_); clear hA ac hW; intro w6 hW ac hA
              refine st_rd (v := Value.int .i64 2) hA (by kernel_rfl) (by kernel_rfl) (by kernel_rfl) hW.cls (Rd.pure fun _ => by kernel_rfl) ?_; clear hA ac; intro ac hA
              refine wpList_nil ?_
              refine thenN ?_
              refine wp_ret ?_
              refine thenR ?_
              refine ret2 (v1 := Value.agg #[Value.int .i64 0, Value.slice none 0 0, Value.slice none 0 0]) (v2 := Value.int .i64 2) (by rfl) hA (Got.cell (b := b1) (i := 0) hA (by kernel_rfl) (by kernel_rfl) (hW.cel 0 rfl) (by kernel_rfl)) (Got.tmp hA (by kernel_rfl) (by kernel_rfl)) ?_
              clear hA
              exact ⟨0, ([] : List Flag), ([] : List Pair), 2, none, 0, none, 0, by first | rfl | (simp; done), by unfold OfRel; rw [if_neg (fun hh => by omega)]; exact ⟨rfl, rfl, rfl, rfl⟩, (by simp), (by simp), from_nil, from_nil, hW.fr⟩)
        · skip
          have h5 := of_decide_eq_false h5
          first
          | (exfalso; clear hA hW; omega)
          | (
              refine wp_skip ?_
              refine thenN ?_
              refine wp_seq ?_
              refine wp_region_lit ?_
              refine st_rd (v := Value.int .i64 most) hA (by kernel_rfl) (by kernel_rfl) (by kernel_rfl) hW.cls (Rd.pure fun _ => by kernel_rfl) ?_; clear hA ac; intro ac hA
              refine st_rd (v := Value.agg #[Value.int .i64 most, Value.slice none 0 0, Value.slice none 0 0]) hA (by kernel_rfl) (by kernel_rfl) (by kernel_rfl) hW.cls (Rd.pure fun _ => by kernel_rfl) ?_; clear hA ac; intro ac hA
              refine st hA (by kernel_rfl) (by kernel_rfl) (by kernel_rfl) (Runs.cells (fun b => Value.pointer (some ⟨b, 0, none⟩)) #[Value.int .i64 0, Value.slice none 0 0, Value.slice none 0 0] 29 (fun _ => by kernel_rfl) hW ?_); clear hA ac hW; intro b7 w8 hW hb7 hfw8 ac hA
              refine st hA (by kernel_rfl) (by kernel_rfl) (by kernel_rfl) (Runs.store (v := Value.agg #[Value.int .i64 most, Value.slice none 0 0, Value.slice none 0 0]) (b := b7) (j := 0) (n := 3) (cs' := #[Value.int .i64 most, Value.slice none 0 0, Value.slice none 0 0]) (H' := [Cel b7 #[Value.int .i64 most, Value.slice none 0 0, Value.slice none 0 0] 29, Cel b1 #[Value.int .i64 0, Value.slice none 0 0, Value.slice none 0 0] 29]) (by kernel_rfl) (by kernel_rfl) (by kernel_rfl) (by kernel_rfl) (by kernel_rfl) hW 0 (by rfl) (Nat.le_of_ble_eq_true (by kernel_rfl)) (by kernel_rfl) (by rfl) ?_); clear hA ac hW; intro w9 hW ac hA
              refine wpList_nil ?_
              refine thenN ?_
              refine wp_seq ?_
              refine wp_seq ?_
              refine wp_region_lit ?_
              refine st_rd (v := Value.int .i64 0) hA (by kernel_rfl) (by kernel_rfl) (by kernel_rfl) hW.cls (Rd.pure fun _ => by kernel_rfl) ?_; clear hA ac; intro ac hA
              refine wpList_nil ?_
              refine thenN ?_
              refine wp_block ?_
              have hW := hW.addG (roR none 10 enFlag ([] : List Flag)) (.inl rfl) (by simp [roR]) (by simp [roR])
              have hW := hW.addG (roR none 4 enPair ([] : List Pair)) (.inl rfl) (by simp [roR]) (by simp [roR])
              refine wp_loop_m (fun m_ ac_ wl_ => ∃ k : Nat, ∃ Lk : List Flag, ∃ Pk : List Pair, ∃ A1 : Option Addr, ∃ c1 : Nat, ∃ A2 : Option Addr, ∃ c2 : Nat, m_ = l.length - k ∧ (k ≤ l.length) ∧ (∀ f ∈ l.take k, f.ok = true) ∧ (RTF most (l.take k) ⟨most, Lk, Pk⟩) ∧ (Lk.length ≤ k) ∧ (Pk.length ≤ k) ∧ (Lk.length ≤ c1) ∧ (Pk.length ≤ c2) ∧ (Res.src (roR A1 10 enFlag Lk) [roR A_l 10 enFlag l] w) ∧ (Res.src (roR A2 4 enPair Pk) [roR A_l 10 enFlag l] w) ∧ Fm 40 [] [(1, Value.slice A_l l.length c_l), (4, Value.pointer (some ⟨b1, 0, none⟩)), (6, Value.pointer (some ⟨b7, 0, none⟩)), (7, Value.int .i64 ((k : Nat) : Int))] ac_ ∧ Ws w No [Cel b7 #[Value.int .i64 most, Value.slice A1 Lk.length c1, Value.slice A2 Pk.length c2] 29, Cel b1 #[Value.int .i64 0, Value.slice none 0 0, Value.slice none 0 0] 29] [roR A1 10 enFlag Lk, roR A2 4 enPair Pk, roR A_l 10 enFlag l] wl_) _ ⟨0, [], [], none, 0, none, 0, rfl, by omega, by intro f hf; simp at hf, by rfl, by exact Nat.le_refl _, by exact Nat.le_refl _, by exact Nat.le_refl _, by exact Nat.le_refl _, by exact src_nil, by exact src_nil, hA.sub ⟨⟨by kernel_rfl, by kernel_rfl⟩, ⟨by kernel_rfl, by kernel_rfl⟩, ⟨by kernel_rfl, by kernel_rfl⟩, ⟨by kernel_rfl, by kernel_rfl⟩, trivial⟩, (hW.pick [0, 1] (by decide) rfl).pickG [1, 0, 2] rfl⟩ ?_
              clear hA ac hW; rintro m_ ac w10 ⟨k, Lk, Pk, A1, c1, A2, c2, rfl, hk, hok, hF, h1, h2, hcc1, hcc2, hsc1, hsc2, hA, hW⟩
              refine wp_seq ?_
              refine wp_seq ?_
              refine wp_region_lit ?_
              refine st_rd (v := Value.int .i64 ((k : Nat) : Int)) hA (by kernel_rfl) (by kernel_rfl) (by kernel_rfl) hW.cls (Rd.pure fun _ => by kernel_rfl) ?_; clear hA ac; intro ac hA
              refine st_rd (v := Value.slice A_l l.length c_l) hA (by kernel_rfl) (by kernel_rfl) (by kernel_rfl) hW.cls (Rd.pure fun _ => by kernel_rfl) ?_; clear hA ac; intro ac hA
              refine st_rd (v := Value.int .i64 ((l.length : Nat) : Int)) hA (by kernel_rfl) (by kernel_rfl) (by kernel_rfl) hW.cls (Rd.pure fun _ => by kernel_rfl) ?_; clear hA ac; intro ac hA
              refine st_rd (v := Value.bool (decide ((((k : Nat) : Int) : Int) < (((l.length : Nat) : Int) : Int)))) hA (by kernel_rfl) (by kernel_rfl) (by kernel_rfl) hW.cls (Rd.pure fun _ => by kernel_rfl) ?_; clear hA ac; intro ac hA
              refine wpList_nil ?_
              refine thenN ?_
              refine wp_cond_split (t := decide ((((k : Nat) : Int) : Int) < (((l.length : Nat) : Int) : Int))) (hA.eval (by kernel_rfl)) (fun h11 => ?_) (fun h11 => ?_)
              · skip
                have h11 := of_decide_eq_true h11
                first
                | (exfalso; clear hA hW; omega)
                | (
                    refine wp_skip ?_
                    refine thenN ?_
                    refine wp_seq ?_
                    refine wp_block ?_
                    refine wp_seq ?_
                    refine wp_seq ?_
                    refine wp_region_lit ?_
                    refine st_rd (v := Value.slice A_l l.length c_l) hA (by kernel_rfl) (by kernel_rfl) (by kernel_rfl) hW.cls (Rd.pure fun _ => by kernel_rfl) ?_; clear hA ac; intro ac hA
                    refine st_rd (v := Value.int .i64 ((k : Nat) : Int)) hA (by kernel_rfl) (by kernel_rfl) (by kernel_rfl) hW.cls (Rd.pure fun _ => by kernel_rfl) ?_; clear hA ac; intro ac hA
                    obtain ⟨y12, hy12⟩ : ∃ y, l[k]? = some y := ⟨_, List.getElem?_eq_getElem (by first | omega | (simp; done) | (simp; omega))⟩
                    obtain ⟨b13, o14, rfl, hbb13⟩ := row_some ((hW).getG 2 rfl) hy12
                    refine st_rd (v := Value.pointer (some ⟨b13, o14 + k * 10, none⟩)) hA (by kernel_rfl) (by kernel_rfl) (by kernel_rfl) hW.cls (Rd.indexAddr (e := 43) (sz := 10) (b := b13) (off := o14) (n := l.length) (c := c_l) (k := k) (by kernel_rfl) (by kernel_rfl) (by first | omega | (simp; done) | (simp; omega)) (fun _ => by kernel_rfl) (fun _ => by kernel_rfl)) ?_; clear hA ac; intro ac hA
                    refine st_rd (v := Value.agg #[Value.int .i64 y12.at_, Value.int .u32 y12.addr, Value.int .i64 y12.e.g, Value.int .i64 y12.e.s.f, Value.int .i64 y12.e.s.pc, Value.int .i64 y12.e.k, Value.int .i64 y12.l.g, Value.int .i64 y12.l.s.f, Value.int .i64 y12.l.s.pc, Value.int .i64 y12.l.k]) hA (by kernel_rfl) (by kernel_rfl) (by kernel_rfl) hW.cls (Rd.loadRow (b := b13) (i := o14 + k * 10) (xs := [Value.int .i64 y12.at_, Value.int .u32 y12.addr, Value.int .i64 y12.e.g, Value.int .i64 y12.e.s.f, Value.int .i64 y12.e.s.pc, Value.int .i64 y12.e.k, Value.int .i64 y12.l.g, Value.int .i64 y12.l.s.f, Value.int .i64 y12.l.s.pc, Value.int .i64 y12.l.k]) (by kernel_rfl) (fun _ hw => row_ld ((hw.1).getG 2 rfl) hy12 (Fr.refl No _) (fun h => h) 0 10 (by kernel_rfl)) (by kernel_rfl)) ?_; clear hA ac; intro ac hA
                    refine st hA (by kernel_rfl) (by kernel_rfl) (by kernel_rfl) (Runs.callN (v := Value.bool (Flag.ok y12)) (fun _ => by kernel_rfl) hW (e_right27 y12 w10) ?_); clear hA ac hW; intro w15 hW hfw15 ac hA
                    refine st_rd (v := Value.bool (!(Flag.ok y12))) hA (by kernel_rfl) (by kernel_rfl) (by kernel_rfl) hW.cls (Rd.pure fun _ => by kernel_rfl) ?_; clear hA ac; intro ac hA
                    refine wpList_nil ?_
                    refine thenN ?_
                    refine wp_cond_split (t := !(Flag.ok y12)) (hA.eval (by kernel_rfl)) (fun h16 => ?_) (fun h16 => ?_)
                    · skip
                      have h16 := not_t h16
                      first
                      | (exfalso; clear hA hW; omega)
                      | (
                          refine wp_seq ?_
                          refine wp_region_lit ?_
                          refine st_rd (v := Value.agg #[Value.int .i64 0, Value.slice none 0 0, Value.slice none 0 0]) hA (by kernel_rfl) (by kernel_rfl) (by kernel_rfl) hW.cls (Rd.pure fun _ => by kernel_rfl) ?_; clear hA ac; intro ac hA
                          refine st hA (by kernel_rfl) (by kernel_rfl) (by kernel_rfl) (Runs.store (v := Value.agg #[Value.int .i64 0, Value.slice none 0 0, Value.slice none 0 0]) (b := b1) (j := 0) (n := 3) (cs' := #[Value.int .i64 0, Value.slice none 0 0, Value.slice none 0 0]) (H' := [Cel b7 #[Value.int .i64 most, Value.slice A1 Lk.length c1, Value.slice A2 Pk.length c2] 29, Cel b1 #[Value.int .i64 0, Value.slice none 0 0, Value.slice none 0 0] 29]) (by kernel_rfl) (by kernel_rfl) (by kernel_rfl) (by kernel_rfl) (by kernel_rfl) hW 1 (by rfl) (Nat.le_of_ble_eq_true (by kernel_rfl)) (by kernel_rfl) (by rfl) ?_); clear hA ac hW; intro w17 hW ac hA
                          refine st_rd (v := Value.int .i64 2) hA (by kernel_rfl) (by kernel_rfl) (by kernel_rfl) hW.cls (Rd.pure fun _ => by kernel_rfl) ?_; clear hA ac; intro ac hA
                          refine wpList_nil ?_
                          refine thenN ?_
                          refine wp_ret ?_
                          refine thenR ?_
                          refine blkR ?_
                          refine thenR ?_
                          refine thenR ?_
                          refine blkR ?_
                          refine thenR ?_
                          refine ret2 (v1 := Value.agg #[Value.int .i64 0, Value.slice none 0 0, Value.slice none 0 0]) (v2 := Value.int .i64 2) (by rfl) hA (Got.cell (b := b1) (i := 0) hA (by kernel_rfl) (by kernel_rfl) (hW.cel 1 rfl) (by kernel_rfl)) (Got.tmp hA (by kernel_rfl) (by kernel_rfl)) ?_
                          clear hA
                          exact ⟨0, ([] : List Flag), ([] : List Pair), 2, none, 0, none, 0, by first | rfl | (simp; done), by unfold OfRel; rw [if_neg (fun hh => by rw [hh.2.2 y12 (List.mem_of_getElem? hy12)] at h16; cases h16)]; exact ⟨rfl, rfl, rfl, rfl⟩, (by simp), (by simp), from_nil, from_nil, hW.fr⟩)
                    · skip
                      have h16 := not_f h16
                      first
                      | (exfalso; clear hA hW; omega)
                      | (
                          refine wp_skip ?_
                          refine thenN ?_
                          refine wp_cut (fun ac_ wl_ => ∃ Ao1r9_5 : Option Addr, ∃ Ao2r9_5 : Option Addr, ∃ co1r9_5 : Nat, ∃ co2r9_5 : Nat, ∃ g0r9_5 : List Flag, ∃ g1r9_5 : List Pair, ∃ g2r9_5 : Bool, ((g0r9_5).length ≤ co1r9_5) ∧ ((g1r9_5).length ≤ co2r9_5) ∧ (RT.Takes ⟨(most), Lk, Pk⟩ y12 ⟨(most), g0r9_5, g1r9_5⟩ g2r9_5) ∧ (Res.src (roR Ao1r9_5 10 enFlag g0r9_5) [roR (some ⟨b13, o14, none⟩) 10 enFlag l] w) ∧ (Res.src (roR Ao2r9_5 4 enPair g1r9_5) [roR (some ⟨b13, o14, none⟩) 10 enFlag l] w) ∧ Fm 40 [] [(1, Value.slice (some ⟨b13, o14, none⟩) l.length c_l), (4, Value.pointer (some ⟨b1, 0, none⟩)), (6, Value.pointer (some ⟨b7, 0, none⟩)), (7, Value.int .i64 ((k : Nat) : Int)), (17, Value.int .i64 ((k : Nat) : Int)), (18, Value.slice (some ⟨b13, o14, none⟩) l.length c_l), (19, Value.int .i64 ((l.length : Nat) : Int)), (20, Value.bool (decide ((((k : Nat) : Int) : Int) < (((l.length : Nat) : Int) : Int)))), (23, Value.slice (some ⟨b13, o14, none⟩) l.length c_l), (24, Value.int .i64 ((k : Nat) : Int)), (25, Value.pointer (some ⟨b13, o14 + k * 10, none⟩)), (26, Value.agg #[Value.int .i64 y12.at_, Value.int .u32 y12.addr, Value.int .i64 y12.e.g, Value.int .i64 y12.e.s.f, Value.int .i64 y12.e.s.pc, Value.int .i64 y12.e.k, Value.int .i64 y12.l.g, Value.int .i64 y12.l.s.f, Value.int .i64 y12.l.s.pc, Value.int .i64 y12.l.k]), (27, Value.bool (Flag.ok y12)), (28, Value.bool (!(Flag.ok y12)))] ac_ ∧ Ws w No [Cel b7 #[Value.int .i64 (most), Value.slice Ao1r9_5 (g0r9_5).length co1r9_5, Value.slice Ao2r9_5 (g1r9_5).length co2r9_5] 29, Cel b1 #[Value.int .i64 0, Value.slice none 0 0, Value.slice none 0 0] 29] [roR Ao2r9_5 4 enPair g1r9_5, roR Ao1r9_5 10 enFlag g0r9_5, roR A1 10 enFlag Lk, roR A2 4 enPair Pk, roR (some ⟨b13, o14, none⟩) 10 enFlag l] wl_) ?_ ?_
                          · refine sr_region (m := 10) (C := Ws w No [Cel b7 #[Value.int .i64 most, Value.slice A1 Lk.length c1, Value.slice A2 Pk.length c2] 29, Cel b1 #[Value.int .i64 0, Value.slice none 0 0, Value.slice none 0 0] 29] [roR A1 10 enFlag Lk, roR A2 4 enPair Pk, roR (some ⟨b13, o14, none⟩) 10 enFlag l]) (fun i => [0, 4].contains i) (fun i => [0, 4].contains i) (fun i => [1, 2, 3, 6, 7, 8].contains i) (by kernel_rfl) (by kernel_rfl) (by kernel_rfl) (by kernel_rfl) hW ?_; clear hW; intro w18 hW hfw18 hR; have hC : Ws w No [Cel b7 #[Value.int .i64 most, Value.slice A1 Lk.length c1, Value.slice A2 Pk.length c2] 29, Cel b1 #[Value.int .i64 0, Value.slice none 0 0, Value.slice none 0 0] 29] [roR A1 10 enFlag Lk, roR A2 4 enPair Pk, roR (some ⟨b13, o14, none⟩) 10 enFlag l] w18 := hW.pick [0, 1] (by decide) rfl
                            refine sr_take (i := 0) (v := Value.agg #[Value.int .i64 most, Value.slice A1 Lk.length c1, Value.slice A2 Pk.length c2]) hR (by kernel_rfl) rfl (by kernel_rfl) (by kernel_rfl) (by kernel_rfl) (fun _ _ _ h => h.elim) hA (by kernel_rfl) (by kernel_rfl) (by kernel_rfl) hC (Rd.load (b := b7) (i := 0) (by kernel_rfl) (fun _ hw => (hw).cel 0 rfl) (by kernel_rfl)) ?_; clear hA ac; intro ac hA
                            refine sr_pure (i := 1) (v := Value.slice (some ⟨b13, o14, none⟩) l.length c_l) hR (by kernel_rfl) rfl (by kernel_rfl) (by kernel_rfl) (fun _ _ _ h => h.elim) hA (by kernel_rfl) (by kernel_rfl) (by kernel_rfl) (Rd.pure fun _ => by kernel_rfl) ?_; clear hA ac; intro ac hA
                            refine sr_pure (i := 2) (v := Value.int .i64 ((k : Nat) : Int)) hR (by kernel_rfl) rfl (by kernel_rfl) (by kernel_rfl) (fun _ _ _ h => h.elim) hA (by kernel_rfl) (by kernel_rfl) (by kernel_rfl) (Rd.pure fun _ => by kernel_rfl) ?_; clear hA ac; intro ac hA
                            refine sr_pure (i := 3) (v := Value.pointer (some ⟨b13, o14 + k * 10, none⟩)) hR (by kernel_rfl) rfl (by kernel_rfl) (by kernel_rfl) (fun _ _ _ h => h.elim) hA (by kernel_rfl) (by kernel_rfl) (by kernel_rfl) (Rd.indexAddr (e := 43) (sz := 10) (b := b13) (off := o14) (n := l.length) (c := c_l) (k := k) (by kernel_rfl) (by kernel_rfl) (by first | omega | (simp; done) | (simp; omega)) (fun _ => by kernel_rfl) (fun _ => by kernel_rfl)) ?_; clear hA ac; intro ac hA
                            refine sr_take (i := 4) (v := Value.agg #[Value.int .i64 y12.at_, Value.int .u32 y12.addr, Value.int .i64 y12.e.g, Value.int .i64 y12.e.s.f, Value.int .i64 y12.e.s.pc, Value.int .i64 y12.e.k, Value.int .i64 y12.l.g, Value.int .i64 y12.l.s.f, Value.int .i64 y12.l.s.pc, Value.int .i64 y12.l.k]) hR (by kernel_rfl) rfl (by kernel_rfl) (by kernel_rfl) (by kernel_rfl) (fun _ _ _ h => h.elim) hA (by kernel_rfl) (by kernel_rfl) (by kernel_rfl) hC (Rd.loadRow (b := b13) (i := o14 + k * 10) (xs := [Value.int .i64 y12.at_, Value.int .u32 y12.addr, Value.int .i64 y12.e.g, Value.int .i64 y12.e.s.f, Value.int .i64 y12.e.s.pc, Value.int .i64 y12.e.k, Value.int .i64 y12.l.g, Value.int .i64 y12.l.s.f, Value.int .i64 y12.l.s.pc, Value.int .i64 y12.l.k]) (by kernel_rfl) (fun _ hw => row_ld ((hw).getG 2 rfl) hy12 (Fr.refl No _) (fun h => h) 0 10 (by kernel_rfl)) (by kernel_rfl)) ?_; clear hA ac; intro ac hA
                            refine sr_one (i := 5) (by kernel_rfl) (sr_do rfl hA (by kernel_rfl) (by kernel_rfl) (by kernel_rfl) (Runs.call (fun _ => by kernel_rfl) (e_take27 (most) A1 c1 Lk A2 c2 Pk y12 w18 ((hW).getG 0 rfl) (by first | assumption | omega | (simp; omega) | simp) ((hW).getG 1 rfl) (by first | assumption | omega | (simp; omega) | simp) (by first | omega | (simp; done)) (by first | omega | (simp; done))) ?_))
                            rintro _ w19 ⟨g0r9_5, g1r9_5, g2r9_5, Ao1r9_5, co1r9_5, Ao2r9_5, co2r9_5, rfl, hr9_5_hT, hcco1r9_5, hcco2r9_5, hfco1r9_5, hfco2r9_5, hfw19⟩; refine ⟨_, rfl, ?_⟩; have hW0 := hW; have hW := hW0.call hfw19
                            have hW := hW0.addFromAt hW hfco1r9_5 (in_cons (in_at 0 rfl) (in_cons (in_at 1 rfl) in_nil))
                            have hsco1r9_5 : Res.src (roR Ao1r9_5 10 enFlag g0r9_5) [roR (some ⟨b13, o14, none⟩) 10 enFlag l] w := src_call hfco1r9_5 (srcs_cons hsc1 (srcs_cons hsc2 srcs_nil)) hW0.fr.size
                            have hW := hW0.addFromAt hW hfco2r9_5 (in_cons (in_at 0 rfl) (in_cons (in_at 1 rfl) in_nil))
                            have hsco2r9_5 : Res.src (roR Ao2r9_5 4 enPair g1r9_5) [roR (some ⟨b13, o14, none⟩) 10 enFlag l] w := src_call hfco2r9_5 (srcs_cons hsc1 (srcs_cons hsc2 srcs_nil)) hW0.fr.size
                            clear hW0 hA ac; intro ac hA
                            refine ⟨⟨fun h => absurd h (by decide), fun h => absurd h (by decide)⟩, ?_⟩
                            refine sr_pure (i := 6) (v := Value.tuple #[Value.agg #[Value.int .i64 (most), Value.slice Ao1r9_5 (g0r9_5).length co1r9_5, Value.slice Ao2r9_5 (g1r9_5).length co2r9_5], Value.bool g2r9_5]) hR (by kernel_rfl) rfl (by kernel_rfl) (by kernel_rfl) (fun _ _ _ h => h.elim) hA (by kernel_rfl) (by kernel_rfl) (by kernel_rfl) (Rd.pure fun _ => by kernel_rfl) ?_; clear hA ac; intro ac hA
                            refine sr_pure (i := 7) (v := Value.agg #[Value.int .i64 (most), Value.slice Ao1r9_5 (g0r9_5).length co1r9_5, Value.slice Ao2r9_5 (g1r9_5).length co2r9_5]) hR (by kernel_rfl) rfl (by kernel_rfl) (by kernel_rfl) (fun _ _ _ h => h.elim) hA (by kernel_rfl) (by kernel_rfl) (by kernel_rfl) (Rd.pure fun _ => by kernel_rfl) ?_; clear hA ac; intro ac hA
                            refine sr_pure (i := 8) (v := Value.bool g2r9_5) hR (by kernel_rfl) rfl (by kernel_rfl) (by kernel_rfl) (fun _ _ _ h => h.elim) hA (by kernel_rfl) (by kernel_rfl) (by kernel_rfl) (Rd.pure fun _ => by kernel_rfl) ?_; clear hA ac; intro ac hA
                            refine sr_one (i := 9) (by kernel_rfl) (sr_do rfl hA (by kernel_rfl) (by kernel_rfl) (by kernel_rfl) (Runs.store (v := Value.agg #[Value.int .i64 (most), Value.slice Ao1r9_5 (g0r9_5).length co1r9_5, Value.slice Ao2r9_5 (g1r9_5).length co2r9_5]) (b := b7) (j := 0) (n := 3) (cs' := #[Value.int .i64 (most), Value.slice Ao1r9_5 (g0r9_5).length co1r9_5, Value.slice Ao2r9_5 (g1r9_5).length co2r9_5]) (H' := [Cel b7 #[Value.int .i64 (most), Value.slice Ao1r9_5 (g0r9_5).length co1r9_5, Value.slice Ao2r9_5 (g1r9_5).length co2r9_5] 29, Cel b1 #[Value.int .i64 0, Value.slice none 0 0, Value.slice none 0 0] 29]) (by kernel_rfl) (by kernel_rfl) (by kernel_rfl) (by kernel_rfl) (by kernel_rfl) hW 0 (by rfl) (Nat.le_of_ble_eq_true (by kernel_rfl)) (by kernel_rfl) (by rfl) ?_)); clear hA ac hW; intro w20 hW ac hA
                            refine ⟨⟨fun h => absurd h (by decide), fun h => absurd h (by decide)⟩, ?_⟩
                            refine sr_done (by kernel_rfl) ?_ _
                            exact ⟨Ao1r9_5, Ao2r9_5, co1r9_5, co2r9_5, g0r9_5, g1r9_5, g2r9_5, hcco1r9_5, hcco2r9_5, hr9_5_hT, hsco1r9_5, hsco2r9_5, hA.sub ⟨⟨by kernel_rfl, by kernel_rfl⟩, ⟨by kernel_rfl, by kernel_rfl⟩, ⟨by kernel_rfl, by kernel_rfl⟩, ⟨by kernel_rfl, by kernel_rfl⟩, ⟨by kernel_rfl, by kernel_rfl⟩, ⟨by kernel_rfl, by kernel_rfl⟩, ⟨by kernel_rfl, by kernel_rfl⟩, ⟨by kernel_rfl, by kernel_rfl⟩, ⟨by kernel_rfl, by kernel_rfl⟩, ⟨by kernel_rfl, by kernel_rfl⟩, ⟨by kernel_rfl, by kernel_rfl⟩, ⟨by kernel_rfl, by kernel_rfl⟩, ⟨by kernel_rfl, by kernel_rfl⟩, ⟨by kernel_rfl, by kernel_rfl⟩, trivial⟩, (hW.pick [0, 1] (by decide) rfl).pickG [0, 1, 2, 3, 4] rfl⟩
                          clear hA ac hW; rintro ac w21 ⟨Ao1r9_5, Ao2r9_5, co1r9_5, co2r9_5, g0r9_5, g1r9_5, g2r9_5, hcco1r9_5, hcco2r9_5, hr9_5_hT, hsco1r9_5, hsco2r9_5, hA, hW⟩
                          refine blkN ?_
                          refine thenN ?_
                          refine wp_region_lit ?_
                          refine st_rd (v := Value.int .i64 ((k : Nat) : Int)) hA (by kernel_rfl) (by kernel_rfl) (by kernel_rfl) hW.cls (Rd.pure fun _ => by kernel_rfl) ?_; clear hA ac; intro ac hA
                          refine st_rd (v := Value.int .i64 ((k + 1 : Nat) : Int)) hA (by kernel_rfl) (by kernel_rfl) (by kernel_rfl) hW.cls (Rd.pureE (v0 := Value.int .i64 (IntKind.i64.wrap ((((k : Nat) : Int) : Int) + 1))) (fun _ => by kernel_rfl) (congrArg (Value.int .i64) ((w_i64 (x := (((k : Nat) : Int) : Int) + 1) (by omega) (by omega)).trans (by omega)))) ?_; clear hA ac; intro ac hA
                          refine st_rd (v := Value.int .i64 ((k + 1 : Nat) : Int)) hA (by kernel_rfl) (by kernel_rfl) (by kernel_rfl) hW.cls (Rd.pure fun _ => by kernel_rfl) ?_; clear hA ac; intro ac hA
                          refine wpList_nil ?_
                          refine thenN ?_
                          exact ⟨l.length - (k + 1), by omega, k + 1, g0r9_5, g1r9_5, Ao1r9_5, co1r9_5, Ao2r9_5, co2r9_5, rfl, by omega, by intro f hf; rw [take_snoc hy12] at hf; rcases List.mem_append.1 hf with h | h; exact hok f h; simp at h; subst h; exact h16, by rw [take_snoc hy12]; exact RTF_snoc hF hr9_5_hT, by have := (RT.Takes.len hr9_5_hT).1; simp at this; omega, by have := (RT.Takes.len hr9_5_hT).2; simp at this; omega, by exact hcco1r9_5, by exact hcco2r9_5, by exact hsco1r9_5, by exact hsco2r9_5, hA.sub ⟨⟨by kernel_rfl, by kernel_rfl⟩, ⟨by kernel_rfl, by kernel_rfl⟩, ⟨by kernel_rfl, by kernel_rfl⟩, ⟨by kernel_rfl, by kernel_rfl⟩, trivial⟩, (hW.pick [0, 1] (by decide) rfl).pickG [1, 0, 4] rfl⟩))
              · skip
                have h11 := of_decide_eq_false h11
                first
                | (exfalso; clear hA hW; omega)
                | (
                    refine wp_exit ?_
                    refine thenX ?_
                    refine thenX ?_
                    refine blkX ?_
                    refine thenN ?_
                    refine wp_seq ?_
                    refine wp_region_lit ?_
                    refine st_rd (v := Value.agg #[Value.int .i64 most, Value.slice A1 Lk.length c1, Value.slice A2 Pk.length c2]) hA (by kernel_rfl) (by kernel_rfl) (by kernel_rfl) hW.cls (Rd.load (b := b7) (i := 0) (by kernel_rfl) (fun _ hw => (hw.1).cel 0 rfl) (by kernel_rfl)) ?_; clear hA ac; intro ac hA
                    refine st hA (by kernel_rfl) (by kernel_rfl) (by kernel_rfl) (Runs.store (v := Value.agg #[Value.int .i64 most, Value.slice A1 Lk.length c1, Value.slice A2 Pk.length c2]) (b := b1) (j := 0) (n := 3) (cs' := #[Value.int .i64 most, Value.slice A1 Lk.length c1, Value.slice A2 Pk.length c2]) (H' := [Cel b7 #[Value.int .i64 most, Value.slice A1 Lk.length c1, Value.slice A2 Pk.length c2] 29, Cel b1 #[Value.int .i64 most, Value.slice A1 Lk.length c1, Value.slice A2 Pk.length c2] 29]) (by kernel_rfl) (by kernel_rfl) (by kernel_rfl) (by kernel_rfl) (by kernel_rfl) hW 1 (by rfl) (Nat.le_of_ble_eq_true (by kernel_rfl)) (by kernel_rfl) (by rfl) ?_); clear hA ac hW; intro w22 hW ac hA
                    refine st_rd (v := Value.int .i64 0) hA (by kernel_rfl) (by kernel_rfl) (by kernel_rfl) hW.cls (Rd.pure fun _ => by kernel_rfl) ?_; clear hA ac; intro ac hA
                    refine wpList_nil ?_
                    refine thenN ?_
                    refine wp_ret ?_
                    refine ret2 (v1 := Value.agg #[Value.int .i64 most, Value.slice A1 Lk.length c1, Value.slice A2 Pk.length c2]) (v2 := Value.int .i64 0) (by rfl) hA (Got.cell (b := b1) (i := 0) hA (by kernel_rfl) (by kernel_rfl) (hW.cel 1 rfl) (by kernel_rfl)) (Got.tmp hA (by kernel_rfl) (by kernel_rfl)) ?_
                    clear hA
                    exact ⟨most, Lk, Pk, 0, A1, c1, A2, c2, by first | rfl | (simp; done), by unfold OfRel; rw [List.take_of_length_le (by omega)] at hok hF; rw [if_pos ⟨by omega, by omega, hok⟩]; exact ⟨rfl, rfl, hF⟩, (by first | assumption | omega | (simp; omega) | simp), (by first | assumption | omega | (simp; omega) | simp), (hW.outSrc 0 rfl hsc1), (hW.outSrc 1 rfl hsc2), hW.fr⟩)))

end Go.Proofs.Ytgkhaoogfpnbbaa.L
