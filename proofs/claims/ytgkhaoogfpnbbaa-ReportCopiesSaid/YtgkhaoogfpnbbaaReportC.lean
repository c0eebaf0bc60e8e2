/- Contracts of package report: a flag taken. -/
import Derived.Test.YtgkhaoogfpnbbaaReportB
import Derived.Deep.RegionHeld3
import Derived.Deep.RegionLawGrows
import Derived.BigRegion
namespace Go.Proofs.Ytgkhaoogfpnbbaa.L
open Go.RowKit

/-- What becomes of a table to which a flag comes that may be; whether it is a report. -/
def Tab.take (T : Tab) (f : Flag) : Tab × Bool :=
  if came T.m (Pair.of f.e.s f.l.s) = 0 then
    (if T.most ≤ T.l.length then ({ T with m := put T.m (Pair.of f.e.s f.l.s) (came T.m (Pair.of f.e.s f.l.s) + 1), dropped := T.dropped + 1 }, false)
    else ({ T with m := put T.m (Pair.of f.e.s f.l.s) (came T.m (Pair.of f.e.s f.l.s) + 1), l := T.l ++ [f] }, true))
  else ({ T with m := put T.m (Pair.of f.e.s f.l.s) (came T.m (Pair.of f.e.s f.l.s) + 1) }, false)

/-- append, not laid open by the walk: met by an equation that was laid ahead. -/
def appendK (ats : Array TypeId) (ty : TypeId) (args : Array Value) : Sem Value := Builtin.append_ ats ty args
theorem append_K (ats : Array TypeId) (ty : TypeId) (args : Array Value) : Builtin.append_ ats ty args = appendK ats ty args := rfl
attribute [local go_sem ↓] append_K

theorem own_base {w : World} {base base' : Nat} {e : TypeId} {size : Nat} {v : Value} {n : Nat} {xs : List Value} (h : w.ownsRow base e size v n xs) (hb : base' ≤ base) : w.ownsRow base' e size v n xs := by
  refine ⟨h.1, ?_⟩
  rcases h.2 with hh | ⟨g, cap, cur, rfl, hb', rest⟩
  · exact .inl hh
  · exact .inr ⟨g, cap, cur, rfl, Nat.le_trans hb hb', rest⟩
theorem flagCells_snoc (l : List Flag) (f : Flag) : flagCells (l ++ [f]) = flagCells l ++ f.cells.toList := by simp [flagCells]

theorem append_flag (w : World) (A : Option Addr) (n c : Nat) (hnc : n ≤ c) (olds : List Value) (hlo : olds.length = n * 10) (hA : A = none → n = 0 ∧ c = 0) (holds : ∀ a, A = some a → ∀ j u, olds[j]? = some u → w.cell? (a.add j) = some u) (hn : n < 1000000)
    (g : Nat) (f : Flag) (hg : w.heap[g]? = some (.cells f.cells 43 (0, 0))) :
    ∃ v' w', (appendK #[22, 22] 22 #[.slice A n n, .slice (some ⟨g, 0, none⟩) 1 1]).run Try.prog w = .ok v' w' ∧ w'.ownsRow w.heap.size 43 10 v' (n + 1) (olds ++ f.cells.toList) ∧ w.grownBy w' none := by
  obtain ⟨i0, hi, hz0, hz1, hz2⟩ := info_parts (P := Try.prog) (e := 43) (z := .agg #[.int .i64 0, .int .u32 0, .int .i64 0, .int .i64 0, .int .i64 0, .int .i64 0, .int .i64 0, .int .i64 0, .int .i64 0, .int .i64 0]) (size := 10) (bytes := 80) (by kernel_rfl)
  have hadd : ∀ j, (⟨g, 0, none⟩ : Addr).add j = ⟨g, j, none⟩ := fun j => by unfold Addr.add; split <;> simp_all
  have hnews : ∀ j u, f.cells.toList[j]? = some u → w.cell? ((⟨g, 0, none⟩ : Addr).add j) = some u := fun j u hj => by rw [hadd, blk_cell hg]; simpa using hj
  have h1 : ∀ u ∈ f.cells.toList, u.oneCell' = true := fun u hu => by
    simp [Flag.cells] at hu
    rcases hu with rfl | rfl | rfl | rfl | rfl | rfl | rfl | rfl | rfl | rfl <;> rfl
  cases A with
  | none =>
    obtain ⟨rfl, rfl⟩ := hA rfl
    obtain rfl : olds = [] := List.eq_nil_of_length_eq_zero (by simpa using hlo)
    obtain ⟨v', w', hrun, r1, r2, _⟩ := run_append_own (P := Try.prog) w w.heap.size 22 22 _ i0 _ 10 80 Try.underlying22 hi hz0 hz1 hz2 rfl (by decide) (.slice none 0 0) 0 [] (World.ownsRow_nil w _ _ _) ⟨g, 0, none⟩ 1 1 f.cells.toList (by rfl) hnews h1 (by decide) (by decide) (Nat.le_refl _)
    exact ⟨v', w', hrun, r1, r2⟩
  | some a =>
    exact run_append_arg_grows (P := Try.prog) w 22 22 _ i0 _ 10 80 Try.underlying22 hi hz0 hz1 hz2 rfl (by decide) a n n olds hlo (holds a rfl) ⟨g, 0, none⟩ 1 1 f.cells.toList (by rfl) hnews (by omega) (by simp only [maxLen]; omega) (by omega)

theorem Flag.sites {f : Flag} (h : f.ok = true) : f.e.s.ok = true ∧ f.l.s.ok = true := by
  unfold Flag.ok Acc.ok at h
  simp only [Bool.and_eq_true] at h
  exact ⟨h.1.1.2.1.1.2, h.1.1.2.2.1.2⟩
theorem Pair.of_ok {a b : Site} (ha : a.ok = true) (hb : b.ok = true) : (Pair.of a b).ok = true := by
  unfold Pair.of
  split
  · rename_i h
    unfold Pair.ok
    simp only [ha, hb, Bool.true_and, Bool.and_true, decide_eq_true_eq]
    have : b.cmp a = - a.cmp b := by
      unfold Site.cmp orI cmpI
      repeat' split
      all_goals omega
    omega
  · rename_i h
    unfold Pair.ok
    simp only [ha, hb, Bool.true_and, Bool.and_true, decide_eq_true_eq]
    omega

theorem Take_no (w : World) (base t p b : Nat) (v : Value) (T : Tab) (h : TX w base t p b v T) (f : Flag) (hf : f.ok = false) :
    Calls Try.prog 14 #[.pointer (some ⟨t, 0, none⟩), f.v] w fun e w' => e = .returned (.tuple #[.bool false, .int .i64 2]) ∧ Fr No w w' := by
  have HC := Lib.hid (fun w => fcheck_any f w)
  rw [hf] at HC
  have HN := Lib.hid (fun w h => tnone_at w t (some ⟨p, 0, none⟩) h)
  have HX := Lib.hid h
  clear h hf
  obtain ⟨at_, addr, ⟨g, ⟨sf, sp⟩, k⟩, ⟨g', ⟨sf', sp'⟩, k'⟩⟩ := f
  unfold Flag.v Flag.cells at *
  simp only at *
  go_enter Try.func14, Try.ntmps14
  go_wp2_with fail
  refine (HN.out _ ((blk_cell (blk_alloc HX.out.cell _) 0).trans rfl)).mono ?_
  rintro e w1 ⟨rfl, rfl⟩
  go_wp2_with fail
  refine (HC.out _).mono ?_
  rintro e w1 ⟨rfl, hf⟩
  have : argErr false = 2 := rfl
  rw [this]
  go_wp2_with fail
  go_ret2
  exact ⟨rfl, ((Fr.refl No w).alloc _).to hf (fun _ _ s => s)⟩

/-- How Take ends, of a flag that may be. -/
def TakeEnd (w : World) (base t p b : Nat) (v : Value) (R : Tab × Bool) (e : Ending) (w' : World) : Prop :=
  ∃ v', e = .returned (.tuple #[.bool R.2, .int .i64 0]) ∧ TX w' base t p b v' R.1 ∧ (∀ k, v'.ownBlock = some k → v.ownBlock = some k ∨ w.heap.size ≤ k) ∧ Fr (fun k => k = t ∨ k = b) w w'

set_option maxRecDepth 100000 in
set_option maxHeartbeats 1000000 in
theorem Take_yes (w : World) (base t p b : Nat) (v : Value) (T : Tab) (h : TX w base t p b v T) (f : Flag) (hf : f.ok = true) (hbase : base ≤ w.heap.size)
    (h0 : 0 ≤ came T.m (Pair.of f.e.s f.l.s)) (hm : came T.m (Pair.of f.e.s f.l.s) < 9223372036854775807) (hd0 : 0 ≤ T.dropped) (hd : T.dropped < 9223372036854775807) (hl : T.l.length < 1000000) :
    Calls Try.prog 14 #[.pointer (some ⟨t, 0, none⟩), f.v] w (TakeEnd w base t p b v (T.take f)) := by
  have HC := Lib.hid (fun w => fcheck_any f w)
  rw [hf] at HC
  have HO := Lib.hid (fun w => Of_any f.e.s f.l.s w)
  have hpo := Pair.of_ok (Flag.sites hf).1 (Flag.sites hf).2
  rw [show (Pair.of f.e.s f.l.s).told = Pair.of f.e.s f.l.s from by unfold Pair.told; rw [if_pos hpo], hpo] at HO
  have HN := Lib.hid (fun w h => tnone_at w t (some ⟨p, 0, none⟩) h)
  have HX := Lib.hid h
  have HT : Hid (T.take f = if came T.m (Pair.of f.e.s f.l.s) = 0 then
    (if T.most ≤ T.l.length then ({ T with m := put T.m (Pair.of f.e.s f.l.s) (came T.m (Pair.of f.e.s f.l.s) + 1), dropped := T.dropped + 1 }, false)
    else ({ T with m := put T.m (Pair.of f.e.s f.l.s) (came T.m (Pair.of f.e.s f.l.s) + 1), l := T.l ++ [f] }, true))
  else ({ T with m := put T.m (Pair.of f.e.s f.l.s) (came T.m (Pair.of f.e.s f.l.s) + 1) }, false)) := Lib.hid rfl
  generalize T.take f = R at HT ⊢
  generalize Pair.of f.e.s f.l.s = x at *
  have HA := Lib.hid (fun w' h' => Add_any w' p b T.m h' x hpo h0 hm)
  have HH := Lib.hid (And.intro h0 hm)
  have HF : Hid (∃ F, F = f) := Lib.hid ⟨f, rfl⟩
  have HB := Lib.hid hbase
  clear h hf hpo h0 hm hbase
  obtain ⟨n, hn⟩ : ∃ n, n = came T.m x := ⟨_, rfl⟩
  rw [← hn] at HA HT HH
  clear hn
  have hk : ∀ w : World, (w.alloc (.cells f.cells 43)).heap[w.heap.size]? = some (.cells f.cells 43 (0, 0)) := fun w => blk_new w _
  have HK := Lib.hid hk
  clear hk
  unfold OfEnd at HO
  obtain ⟨⟨af, ap⟩, ⟨bf, bp⟩⟩ := x
  unfold Pair.v Flag.v Site.v at *
  simp only at *
  have hFC : f.cells = #[.int .i64 f.at_, .int .u32 f.addr, .int .i64 f.e.g, .int .i64 f.e.s.f, .int .i64 f.e.s.pc, .int .i64 f.e.k, .int .i64 f.l.g, .int .i64 f.l.s.f, .int .i64 f.l.s.pc, .int .i64 f.l.k] := rfl
  rw [hFC] at HC HK ⊢
  clear hFC
  obtain ⟨A, c, hv, hA0, hnc, hA1, hA2⟩ := own_form HX.out.own
  have HA0 := Lib.hid hA0
  have HA1 := Lib.hid hA1
  have HA2 := Lib.hid hA2
  clear hA0 hA1 hA2
  subst hv
  obtain ⟨N, hN⟩ : ∃ N, N = T.l.length := ⟨_, rfl⟩
  go_enter Try.func14, Try.ntmps14
  go_wp2_with fail
  refine (HN.out _ ((blk_cell (blk_alloc HX.out.cell _) 0).trans rfl)).mono ?_
  rintro e w1 ⟨rfl, rfl⟩
  go_wp2_with fail
  refine (HC.out _).mono ?_
  rintro e w1 ⟨rfl, hf⟩
  have : argErr true = 0 := rfl
  rw [this]
  have HX1 := Lib.hid (HX.out.no (((Fr.refl No w).alloc _).to hf (fun _ _ s => s)))
  have HF1 := Lib.hid ((((Fr.refl No w).alloc _).to hf (fun _ _ s => s)))
  have HK1 := Lib.hid (hf.at (HK.out w) (fun s => s))
  obtain ⟨k0, f0, l0⟩ := blk_all HK1.out
  clear hf this HN HC
  go_wp2_with fail
  refine (HO.out _).mono ?_
  rintro e w2 ⟨rfl, hf⟩
  have HX2 := Lib.hid (HX1.out.no hf)
  have HF2 := Lib.hid (HF1.out.to hf (fun _ _ s => s))
  have HK2 := Lib.hid (hf.at HK1.out (fun s => s))
  have hs2 := hf.size
  have l2 : w.heap.size < w2.heap.size := by omega
  clear hf k0 f0
  go_wp2_with fail
  refine wp_at (fun W => TX W base t p b (.slice A T.l.length c) T ∧ W.heap[w.heap.size]? = some (.cells #[.int .i64 f.at_, .int .u32 f.addr, .int .i64 f.e.g, .int .i64 f.e.s.f, .int .i64 f.e.s.pc, .int .i64 f.e.k, .int .i64 f.l.g, .int .i64 f.l.s.f, .int .i64 f.l.s.pc, .int .i64 f.l.k] 43 (0, 0)) ∧ W.heap[w2.heap.size]? = some (.cells #[.int .i64 af, .int .i64 ap, .int .i64 bf, .int .i64 bp] 54 (0, 0)) ∧ Fr No w W) ⟨HX2.out.no ((Fr.refl No w2).alloc _), blk_alloc HK2.out _, blk_new _ _, HF2.out.alloc _⟩ ?_
  rintro W ⟨hX3, hK3, hP3, hF3⟩
  clear HX2 HK2 HF2 HX1 HK1 HF1
  obtain ⟨k3, f3, l3⟩ := blk_all hX3.cell
  obtain ⟨k4, f4, l4⟩ := blk_all hP3
  have HX3 := Lib.hid hX3
  have HK3 := Lib.hid hK3
  have HF3 := Lib.hid hF3
  clear hX3 hK3 hP3 hF3
  have hPX : PX W.drew p b T.m := ⟨HX3.out.px.cell, HX3.out.px.holds.kept rfl⟩
  have HPX := Lib.hid hPX
  clear hPX
  go_region_with (go_at_call 31; refine (HA.out _ HPX.out).mono ?_; rintro e w4 ⟨rfl, hm4, hf4⟩; have HM4 := Lib.hid hm4; have HF4 := Lib.hid hf4; clear hm4 hf4)
  all_goals
    have hdw : Fr No W W.drew := (Fr.refl No W).drew
    have hX4 : TX w4 base t p b (.slice A T.l.length c) { T with m := put T.m ⟨⟨af, ap⟩, ⟨bf, bp⟩⟩ (n + 1) } :=
      ⟨(hdw.trans HF4.out (T := (· = b)) (fun _ _ s => s.elim) (fun _ _ s => s)).at HX3.out.cell HX3.out.tb, HM4.out, own_fr (own_fr HX3.out.own hdw (fun _ _ s => s)) HF4.out (fun k hk e => (HX3.out.vt hk).2.2 e)⟩
    have hF4 : Fr (fun k => k = t ∨ k = b) w w4 := (HF3.out.drew.trans HF4.out (fun _ _ s => s.elim) (fun _ _ s => .inr s))
    have hK4 := HF4.out.at (w := W.drew) HK3.out (fun e => by
      obtain ⟨es, clock, hb, _⟩ := HX3.out.px.holds
      have h1 := HK3.out
      rw [e, hb] at h1
      cases h1)
    have HX4 := Lib.hid hX4
    have HF4' := Lib.hid hF4
    have HK4 := Lib.hid hK4
    clear hX4 hF4 hK4 HM4 HF4 HPX
    cases hz : (n == 0)
    · go_wp2_with fail
      go_ret2
      have hR := HT.out
      rw [if_neg (by simpa using hz)] at hR
      subst hR
      exact ⟨_, rfl, HX4.out, fun k hk => .inl hk, HF4'.out⟩
    · go_wp2_with fail
      obtain ⟨k5, f5, l5⟩ := blk_all HX4.out.cell
      by_cases hge : T.most ≤ (T.l.length : Int)
      · go_quiet (fail)
        go_wp2_with fail
        go_ret2
        have hR := HT.out
        rw [if_pos (by simpa using hz), if_pos hge] at hR
        subst hR
        have hs : Fr (· = t) w4 ((w4.drewN nq).setCell ⟨t, 2, none⟩ (.int .i64 (T.dropped + 1))) := Fr.setCell (S := (· = t)) (p := ⟨t, 2, none⟩) ((Fr.refl _ w4).drewN nq) (.inl rfl) _
        exact ⟨_, rfl, ⟨blk_set (w := w4.drewN nq) HX4.out.cell 2 _, HX4.out.px.fr hs (fun e => HX4.out.tp e.symm) (fun e => HX4.out.tb e.symm), own_fr HX4.out.own hs (fun k hk => (HX4.out.vt hk).1)⟩, fun k hk => .inl hk, HF4'.out.to hs (fun _ _ s => .inl s)⟩
      · have hd' : decide (T.most ≤ (T.l.length : Int)) = false := by simpa using hge
        go_quiet (fail)
        go_wp2_with fail
        refine wp_at (fun W' => TX W' base t p b (.slice A T.l.length c) { T with m := put T.m ⟨⟨af, ap⟩, ⟨bf, bp⟩⟩ (n + 1) } ∧ W'.heap[w.heap.size]? = some (.cells #[.int .i64 f.at_, .int .u32 f.addr, .int .i64 f.e.g, .int .i64 f.e.s.f, .int .i64 f.e.s.pc, .int .i64 f.e.k, .int .i64 f.l.g, .int .i64 f.l.s.f, .int .i64 f.l.s.pc, .int .i64 f.l.k] 43 (0, 0)) ∧ Fr (fun k => k = t ∨ k = b) w W') ⟨HX4.out.no ((Fr.refl No w4).drewN nq), HK4.out, HF4'.out.drewN nq⟩ ?_
        rintro W' ⟨hX5, hK5, hF5⟩
        have HX5 := Lib.hid hX5
        have HF5 := Lib.hid hF5
        have ht5 : t < W'.heap.size := lt_of_block hX5.cell
        obtain ⟨v', w6, hrun, hown6, hgr6⟩ := append_flag (W'.alloc (.cells f.cells 43)).drew A T.l.length c hnc (flagCells T.l) (len_flagCells _) HA0.out (fun a ha j u hj => by
          obtain ⟨A', c', e1, -, -, -, hc⟩ := own_form (own_fr hX5.own (((Fr.refl No W').alloc (.cells f.cells 43)).drew) (fun _ _ s => s))
          cases e1
          exact hc a ha j u hj) hl W'.heap.size f (blk_new W' _)
        obtain ⟨A', c', rfl, -, -, -, -⟩ := own_form hown6
        obtain ⟨k6, f6, l6⟩ := blk_all ((World.grownBy.block hgr6 t (by simp; omega) (by simp)).trans (blk_alloc hX5.cell _))
        obtain ⟨k7, f7, l7⟩ := blk_all hX5.cell
        obtain ⟨k8, f8, l8⟩ := blk_all hK5
        obtain ⟨k9, f9, l9⟩ := blk_all ((World.grownBy.block hgr6 w.heap.size (by simp; omega) (by simp)).trans (blk_alloc hK5 _))
        have hHF5 := HF5.out.size
        have hfr6 : Fr No W' w6 := Fr.of_grown (((Fr.refl No W').alloc _).drew) hgr6 (fun k h => by cases h)
        have hs6 := hfr6.size
        have hHF := HF5.out.size
        have HFI : Hid (∃ v'', TX (w6.setCell ⟨t, 3, none⟩ (.slice A' (T.l.length + 1) c')) base t p b v'' { T with m := put T.m ⟨⟨af, ap⟩, ⟨bf, bp⟩⟩ (n + 1), l := T.l ++ [f] } ∧ (∀ k, v''.ownBlock = some k → (Value.slice A T.l.length c).ownBlock = some k ∨ w.heap.size ≤ k) ∧ Fr (fun k => k = t ∨ k = b) w (w6.setCell ⟨t, 3, none⟩ (.slice A' (T.l.length + 1) c'))) := Lib.hid (by
          have hset : Fr (· = t) w6 (w6.setCell ⟨t, 3, none⟩ (.slice A' (T.l.length + 1) c')) := Fr.setCell (S := (· = t)) (p := ⟨t, 3, none⟩) (Fr.refl _ w6) (.inl rfl) _
          have hc6 := hfr6.at hX5.cell (fun s => s)
          have hb6 : base ≤ W'.heap.size := Nat.le_trans HB.out hHF
          refine ⟨.slice A' (T.l.length + 1) c', ⟨blk_set hc6 3 _, (hX5.px.fr hfr6 (fun s => s) (fun s => s)).fr hset (fun e => hX5.tp e.symm) (fun e => hX5.tb e.symm), ?_⟩, fun k hk => .inr (by have := (own_block hown6 hk).1; simp at this; omega), (HF5.out.no hfr6).to hset (fun _ _ s => .inl s)⟩
          have ho := own_base (base' := base) hown6 (by simp; omega)
          refine own_fr (by simpa [flagCells_snoc] using ho) hset (fun k hk e => ?_)
          obtain ⟨-, cur, hcur⟩ := own_block ho hk
          rw [e, hc6] at hcur
          cases hcur)
        have HO6 := Lib.hid hown6
        have HG6 := Lib.hid hgr6
        clear hX5 hK5 hF5 hown6 hgr6 k3 f3 k4 f4 k5 f5 HX4 HK4 HF4' HX3 HK3 HF3 HX HA HO hs2 l2 l3 l4 l5 l0
        unfold Flag.cells at hrun
        cases A
        all_goals
          go_region
          go_wp2_with fail
          go_ret2
          have hR := HT.out
          rw [if_pos (by simpa using hz), if_neg (show ¬ T.most ≤ (T.l.length : Int) by omega)] at hR
          subst hR
          obtain ⟨v'', h1, h2, h3⟩ := HFI.out
          exact ⟨v'', rfl, h1, h2, h3⟩
end Go.Proofs.Ytgkhaoogfpnbbaa.L
