/- Contracts of package site: sets of pairs. -/
import Derived.Test.YtfkbjfbbigbacaaGreatDoorSiteC
namespace Go.Proofs.YtfkbjfbbigbacaaGreatDoor.L
open Go.RowKit

theorem fields_Pair : Tryz.prog.underlying 45 = some (.struct (Tryz.prog.fieldsOf 45)) := by kernel_rfl
theorem fields_Site : Tryz.prog.underlying 43 = some (.struct (Tryz.prog.fieldsOf 43)) := by kernel_rfl
theorem stood_Pair : Tryz.prog.stoodInHeld 45 = false := by kernel_rfl
theorem stood_Site : Tryz.prog.stoodInHeld 43 = false := by kernel_rfl

theorem site_eq (w : World) (d : Nat) (a b : Site) : (Op.equalIn (d + 2) 43 a.v b.v).run Tryz.prog w = .ok (decide (a = b)) w := by
  have u3 := Tryz.underlying3
  have a3 := Tryz.isAgg3
  have z3 := Tryz.sizeOf3
  obtain ⟨af, ap⟩ := a
  obtain ⟨bf, bp⟩ := b
  unfold Site.v
  rw [run_equalIn_agg w (d + 1) _ _ _ fields_Site stood_Site]
  simp only [Program.fieldsOf, Tryz.underlying43]
  go_simp
  by_cases h1 : af = bf <;> by_cases h2 : ap = bp <;> simp [h1, h2]

theorem pair_eq (w : World) (a b : Pair) : (Op.equal 45 a.v b.v).run Tryz.prog w = .ok (decide (a = b)) w := by
  have u3 := Tryz.underlying3
  have a3 := Tryz.isAgg3
  have z3 := Tryz.sizeOf3
  have as_ := Tryz.isAgg43
  have zs_ := Tryz.sizeOf43
  obtain ⟨⟨af, ap⟩, ⟨bf, bp⟩⟩ := a
  obtain ⟨⟨cf, cp⟩, ⟨df, dp⟩⟩ := b
  unfold Pair.v
  simp only [Op.equal, Op.maxDepth]
  rw [show (10000 : Nat) = 9999 + 1 from rfl, run_equalIn_agg w 9999 _ _ _ fields_Pair stood_Pair]
  simp only [Program.fieldsOf, Tryz.underlying45]
  go_simp
  by_cases h1 : af = cf <;> by_cases h2 : ap = cp <;> by_cases h3 : bf = df <;> by_cases h4 : bp = dp <;> simp [h1, h2, h3, h4]

theorem check_int (w : World) (em : Bool) (n : Nat) (a : Int) : (Instr.checkKey em (n + 1) 3 (.int .i64 a)).run Tryz.prog w = .ok () w :=
  MapKept.run_checkKey (d := .int .i64) Tryz.underlying3 (show MapKept.IsKey (.int .i64) (.int .i64 a) from rfl) em n

theorem check_site (w : World) (em : Bool) (n : Nat) (a : Site) : (Instr.checkKey em (n + 2) 43 a.v).run Tryz.prog w = .ok () w := by
  have a3 := Tryz.isAgg3
  have z3 := Tryz.sizeOf3
  obtain ⟨af, ap⟩ := a
  unfold Site.v Instr.checkKey
  simp only [Sem.run_bind, run_underlying Tryz.underlying43, Result.andThen, ← Array.forIn_toList]
  simp [go_sem, check_int, a3, z3]

theorem pair_check (w : World) (em : Bool) (a : Pair) : (Instr.checkKey em 10000 45 a.v).run Tryz.prog w = .ok () w := by
  have as_ := Tryz.isAgg43
  have zs_ := Tryz.sizeOf43
  have h1 := fun w em n => check_site w em n a.a
  have h2 := fun w em n => check_site w em n a.b
  obtain ⟨⟨af, ap⟩, ⟨bf, bp⟩⟩ := a
  rw [show (10000 : Nat) = 9999 + 1 from rfl]
  generalize hn : (9999 : Nat) = n
  obtain ⟨m, rfl⟩ : ∃ m, n = m + 2 := ⟨9997, by omega⟩
  clear hn
  unfold Pair.v Instr.checkKey
  simp only [Sem.run_bind, run_underlying Tryz.underlying45, Result.andThen, ← Array.forIn_toList]
  unfold Site.v at h1 h2
  simp only at h1 h2
  simp [go_sem, as_, zs_, h1, h2]

theorem pairKey : KeyE Tryz.prog 45 Pair.v :=
  KeyE.struct Tryz.underlying45 (fun {a b} h => by
    obtain ⟨⟨af, ap⟩, ⟨bf, bp⟩⟩ := a
    obtain ⟨⟨cf, cp⟩, ⟨df, dp⟩⟩ := b
    simp [Pair.v] at h
    obtain ⟨rfl, rfl, rfl, rfl⟩ := h
    rfl) pair_eq pair_check (fun a => by simp [Pair.v, Instr.sameBits])

/-! ### sets of pairs -/
/-- The memory of a Pairs: how often each pair came. -/
structure PX (w : World) (p b : Nat) (m : List (Pair × Int)) : Prop where
  cell : w.heap[p]? = some (.cells #[.map (some b)] 94 (0, 0))
  holds : mapAt w b Pair.v (fun a : Int => .int .i64 a) m
theorem PX.ne {w : World} {p b : Nat} {m : List (Pair × Int)} (h : PX w p b m) : p ≠ b := by
  obtain ⟨es, clock, hb, _⟩ := h.holds
  intro e
  have := h.cell
  rw [e, hb] at this
  cases this
theorem PX.fr {S : Nat → Prop} {w w' : World} {p b : Nat} {m : List (Pair × Int)} (h : PX w p b m) (f : Fr S w w') (hp : ¬ S p) (hb : ¬ S b) : PX w' p b m := ⟨f.at h.cell hp, h.holds.fr f hb⟩
theorem PX.lt {w : World} {p b : Nat} {m : List (Pair × Int)} (h : PX w p b m) : p < w.heap.size ∧ b < w.heap.size := ⟨lt_of_block h.cell, h.holds.lt⟩

theorem pnone_nil (w : World) : Calls Tryz.prog 46 #[.pointer none] w fun e w' => e = .returned (.bool true) ∧ w = w' := by
  go_enter Tryz.func46, Tryz.ntmps46
  go_wp2
  go_ret
  exact ⟨rfl, rfl⟩
theorem pnone_at (w : World) (p : Nat) (r : Option Nat) (h : w.cell? ⟨p, 0, none⟩ = some (.map r)) : Calls Tryz.prog 46 #[.pointer (some ⟨p, 0, none⟩)] w fun e w' => e = .returned (.bool r.isNone) ∧ w = w' := by
  have hq := fun w r => @run_eql_map_nil Tryz.prog w 92 45 3 r Tryz.underlying92
  go_enter Tryz.func46, Tryz.ntmps46
  go_wp2
  go_ret
  exact ⟨rfl, rfl⟩
theorem zeroInt7 (w : World) : (zeroValue 3).run Tryz.prog w = .ok (.int .i64 0) w := by kernel_rfl

/-- How often a pair came. -/
def came (m : List (Pair × Int)) (x : Pair) : Int := (look m x).getD 0

set_option maxHeartbeats 1000000 in
/-- Add, of a pair that may be. -/
theorem Add_any (w : World) (p b : Nat) (m : List (Pair × Int)) (h : PX w p b m) (x : Pair) (hx : x.ok = true) (h0 : 0 ≤ came m x) (hm : came m x < 9223372036854775807) :
    Calls Tryz.prog 67 #[.pointer (some ⟨p, 0, none⟩), x.v] w fun e w' => e = .returned (.tuple #[.bool (came m x == 0), .int .i64 0]) ∧ PX w' p b (put m x (came m x + 1)) ∧ Fr (· = b) w w' := by
  have hR := fun w => right_any x w
  rw [hx] at hR
  have hl0 := fun w' (hm' : mapAt w' b Pair.v (fun a : Int => .int .i64 a) m) => hm'.lookup pairKey Tryz.underlying92 (zeroInt7 w') x false
  have HP := Lib.hid h
  have hp := h.lt.1
  clear h
  obtain ⟨n, hn⟩ : ∃ n, n = came m x := ⟨_, rfl⟩
  have hlk : (((look m x).map (fun a : Int => Value.int .i64 a)).getD (.int .i64 0)) = .int .i64 n := by rw [hn]; unfold came; cases look m x <;> rfl
  simp only [Bool.false_eq_true, if_false, hlk] at hl0
  rw [← hn] at h0 hm ⊢
  have hE := fun w' (hm' : mapAt w' b Pair.v (fun a : Int => .int .i64 a) m) => hm'.entry pairKey Tryz.underlying92 (z := (0 : Int)) (zeroInt7 w') x
  have HN := Lib.hid hn
  clear hn hlk
  obtain ⟨⟨af, ap⟩, ⟨bf, bp⟩⟩ := x
  unfold Pair.v at *
  simp only at *
  have HR := Lib.hid hR
  have HL := Lib.hid hl0
  have HE := Lib.hid hE
  clear hR hl0 hE hx
  go_enter Tryz.func67, Tryz.ntmps67
  go_wp2_with fail
  refine (pnone_at _ p (some b) ((blk_cell (blk_alloc HP.out.cell _) 0).trans rfl)).mono ?_
  rintro e w1 ⟨rfl, rfl⟩
  go_wp2_with fail
  refine (HR.out _).mono ?_
  rintro e w1 ⟨rfl, hf⟩
  have hf' := ((Fr.refl No w).alloc _).to hf (fun _ _ s => s)
  have HX := Lib.hid (HP.out.fr hf' (fun s => s) (fun s => s))
  have HF := Lib.hid hf'
  obtain ⟨k0, -, l0⟩ := blk_all (hf.at (blk_new w _) (fun s => s))
  have c0 : w1.cell? ⟨p, 0, none⟩ = some (.map (some b)) := (blk_cell HX.out.cell 0).trans rfl
  clear hf hf'
  go_wp2_with fail
  have hm1 : mapAt w1.drew b Pair.v (fun a : Int => .int .i64 a) m := HX.out.holds.kept rfl
  have l1 := HL.out _ hm1
  obtain ⟨w2, st, he1, hm2, hf2, hs2, hst⟩ := HE.out _ hm1
  obtain ⟨w3, he2, hm3, hf3, hs3⟩ := hst (n + 1)
  have hbw : (w.heap.size = b) = False := by simp; have := HP.out.lt.2; omega
  have hpb : (p = b) = False := by simp [HX.out.ne]
  have c2 : w2.cell? ⟨p, 0, none⟩ = some (.map (some b)) := (blk_cell (hf2.at (w := w1.drew) HX.out.cell HX.out.ne) 0).trans rfl
  have k2 : ∀ i, w2.cell? ⟨w.heap.size, i, none⟩ = #[Value.int IntKind.i64 af, Value.int IntKind.i64 ap, Value.int IntKind.i64 bf, Value.int IntKind.i64 bp][i]? := fun i => (World.cell?_of_block (w := w1.drew) (hf2.block w.heap.size l0 (by rw [hbw]; exact fun s => s))).trans (k0 i)
  have l2 := hm2.lookup pairKey Tryz.underlying92 (zeroInt7 w2) ⟨⟨af, ap⟩, ⟨bf, bp⟩⟩ false
  have e2 : ((look (put m ⟨⟨af, ap⟩, ⟨bf, bp⟩⟩ ((look m ⟨⟨af, ap⟩, ⟨bf, bp⟩⟩).getD 0)) ⟨⟨af, ap⟩, ⟨bf, bp⟩⟩).map (fun a : Int => Value.int .i64 a)).getD (.int .i64 0) = .int .i64 n := by rw [look_put, if_pos rfl, HN.out]; rfl
  rw [e2] at l2
  have e3 : (look m ⟨⟨af, ap⟩, ⟨bf, bp⟩⟩).getD 0 = n := HN.out.symm
  rw [e3] at he1
  simp only [Bool.false_eq_true, if_false] at l2
  have HM3 := Lib.hid hm3
  have HF3 := Lib.hid hf3
  have c3 : w3.cell? ⟨p, 0, none⟩ = some (.map (some b)) := (blk_cell (hf3.at (w := w1.drew) HX.out.cell HX.out.ne) 0).trans rfl
  have k3 : ∀ i, w3.cell? ⟨w.heap.size, i, none⟩ = #[Value.int IntKind.i64 af, Value.int IntKind.i64 ap, Value.int IntKind.i64 bf, Value.int IntKind.i64 bp][i]? := fun i => (World.cell?_of_block (w := w1.drew) (hf3.block w.heap.size l0 (by rw [hbw]; exact fun s => s))).trans (k0 i)
  have l3 := (hm3.kept (w' := w3.drew) rfl).lookup pairKey Tryz.underlying92 (zeroInt7 w3.drew) ⟨⟨af, ap⟩, ⟨bf, bp⟩⟩ false
  have e4 : ((look (put m ⟨⟨af, ap⟩, ⟨bf, bp⟩⟩ (n + 1)) ⟨⟨af, ap⟩, ⟨bf, bp⟩⟩).map (fun a : Int => Value.int .i64 a)).getD (.int .i64 0) = .int .i64 (n + 1) := by rw [look_put, if_pos rfl]; rfl
  rw [e4] at l3
  simp only [Bool.false_eq_true, if_false] at l3
  have hfin : (n + 1 == 1) = (n == 0) := by
    rw [Bool.eq_iff_iff]; simp; omega
  have HD : Hid (PX w3.drew p b (put m ⟨⟨af, ap⟩, ⟨bf, bp⟩⟩ (n + 1)) ∧ Fr (· = b) w w3.drew) := Lib.hid ⟨⟨(hf3.at (w := w1.drew) HX.out.cell HX.out.ne), hm3.kept rfl⟩, (Fr.to (HF.out.mono (fun _ _ s => s.elim)).drew hf3 (fun _ _ s => s)).drew⟩
  clear e2 e3 e4 hst hm3 hf3 hm2 hf2 hbw hpb hm1 hs2 hs3 HE HL
  go_region
  go_wp2_with fail
  go_region
  go_wp2_with fail
  go_ret2
  exact ⟨rfl, HD.out.1, HD.out.2⟩

end Go.Proofs.YtfkbjfbbigbacaaGreatDoor.L
