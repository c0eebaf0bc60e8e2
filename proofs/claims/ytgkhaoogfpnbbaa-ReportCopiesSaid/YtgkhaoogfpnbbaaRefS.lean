/- Contracts of the document's answers: flags that are the same. -/
import Derived.Test.YtgkhaoogfpnbbaaRefR
namespace Go.Proofs.Ytgkhaoogfpnbbaa.L
open Go.RowKit

theorem fields_Acc : Try.prog.underlying 41 = some (.struct (Try.prog.fieldsOf 41)) := by kernel_rfl
theorem fields_Flag : Try.prog.underlying 43 = some (.struct (Try.prog.fieldsOf 43)) := by kernel_rfl
theorem stood_Acc : Try.prog.stoodInHeld 41 = false := by kernel_rfl
theorem stood_Flag : Try.prog.stoodInHeld 43 = false := by kernel_rfl

theorem acc_eq (w : World) (d : Nat) (a b : Acc) : (Op.equalIn (d + 3) 41 a.v b.v).run Try.prog w = .ok (decide (a = b)) w := by
  have u3 := Try.underlying3
  have a3 := Try.isAgg3
  have z3 := Try.sizeOf3
  have u4 := Try.underlying39
  have a4 := Try.isAgg39
  have z4 := Try.sizeOf39
  have as_ := Try.isAgg38
  have zs_ := Try.sizeOf38
  have hs := fun w => site_eq w d a.s b.s
  obtain ⟨ag, ⟨af, ap⟩, ak⟩ := a
  obtain ⟨bg, ⟨bf, bp⟩, bk⟩ := b
  unfold Acc.v
  unfold Site.v at hs
  simp only at hs ⊢
  rw [run_equalIn_agg w (d + 2) _ _ _ fields_Acc stood_Acc]
  simp only [Program.fieldsOf, Try.underlying41]
  go_simp
  by_cases h1 : ag = bg <;> by_cases h2 : af = bf <;> by_cases h3 : ap = bp <;> by_cases h4 : ak = bk <;> simp [h1, h2, h3, h4]

theorem ite_four {α : Type} (p1 p2 p3 p4 : Prop) [Decidable p1] [Decidable p2] [Decidable p3] [Decidable p4] (f : Bool → α) :
    (if p1 then if p2 then if p3 then f false else if p4 then f false else f true else f false else f false) = f (decide p1 && (decide p2 && (!decide p3 && !decide p4))) := by
  by_cases h1 : p1 <;> by_cases h2 : p2 <;> by_cases h3 : p3 <;> by_cases h4 : p4 <;> simp [h1, h2, h3, h4]

theorem flag_eq (w : World) (a b : Flag) : (Op.equal 43 a.v b.v).run Try.prog w = .ok (decide (a = b)) w := by
  have u3 := Try.underlying3
  have a3 := Try.isAgg3
  have z3 := Try.sizeOf3
  have u4 := Try.underlying36
  have a4 := Try.isAgg36
  have z4 := Try.sizeOf36
  have as_ := Try.isAgg41
  have zs_ := Try.sizeOf41
  have h1 := fun w => acc_eq w 9996 a.e b.e
  have h2 := fun w => acc_eq w 9996 a.l b.l
  obtain ⟨aat, aad, ⟨ag, ⟨af, ap⟩, ak⟩, ⟨ag', ⟨af', ap'⟩, ak'⟩⟩ := a
  obtain ⟨bat, bad, ⟨bg, ⟨bf, bp⟩, bk⟩, ⟨bg', ⟨bf', bp'⟩, bk'⟩⟩ := b
  unfold Flag.v Flag.cells
  unfold Acc.v at h1 h2
  simp only at h1 h2 ⊢
  simp only [Op.equal, Op.maxDepth]
  rw [show (10000 : Nat) = 9999 + 1 from rfl, run_equalIn_agg w 9999 _ _ _ fields_Flag stood_Flag]
  simp only [Program.fieldsOf, Try.underlying43]
  go_simp
  have e1 : ∀ p1 p2 p3 p4 : Prop, [Decidable p1] → [Decidable p2] → [Decidable p3] → [Decidable p4] → (decide p1 && (decide p2 && decide p3 && decide p4)) = !decide (p1 → p2 → p3 → ¬ p4) := by
    intro p1 p2 p3 p4 _ _ _ _
    by_cases h1 : p1 <;> by_cases h2 : p2 <;> by_cases h3 : p3 <;> by_cases h4 : p4 <;> simp [h1, h2, h3, h4]
  simp only [e1]
  exact ite_four _ _ _ _ (fun b => Result.ok b w)

theorem same_flag (x y : Flag) : decide (x = y) = true ↔ x = y := by simp

/-- Rows of flags that are owned, as rows that may be read. -/
theorem own_row {w : World} {base : Nat} {v : Value} {l : List Flag} (h : w.ownsRow base 43 10 v l.length (flagCells l)) :
    ∃ A c, v = .slice A l.length c ∧ l.length ≤ c ∧ RowAt w A 10 enFlag l := by
  obtain ⟨A, c, rfl, h1, h2, h3, h4⟩ := own_form h
  refine ⟨A, c, rfl, h2, ?_⟩
  cases A with
  | none => exact .inl (List.eq_nil_of_length_eq_zero (h1 rfl).1)
  | some a =>
    obtain ⟨g, rfl, hb, hg, -⟩ := h3 a rfl
    refine .inr ⟨g, 0, rfl, hg, fun i x hi j u hj => ?_⟩
    have := h4 _ rfl (i * 10 + j) u (by
      have hj10 : j < 10 := by
        have := (List.getElem?_eq_some_iff.1 hj).1
        simpa [enFlag, Flag.cells] using this
      clear h h1 h2 h3 h4 hb hg
      induction l generalizing i with
      | nil => cases hi
      | cons y l ih =>
        show (y.cells.toList ++ flagCells l)[i * 10 + j]? = some u
        cases i with
        | zero =>
          cases hi
          rw [List.getElem?_append_left (by simp [Flag.cells]; omega)]
          simpa [enFlag] using hj
        | succ i =>
          rw [List.getElem?_append_right (by simp [Flag.cells]; omega)]
          have hi' : l[i]? = some x := by simpa using hi
          rw [show (i + 1) * 10 + j - y.cells.toList.length = i * 10 + j from by simp [Flag.cells]; omega]
          exact ih i hi')
    rwa [addr_add] at this

set_option maxRecDepth 100000 in
set_option maxHeartbeats 1000000 in
theorem Same_any (w : World) (A B : Option Addr) (n c m d : Nat) (l r : List Flag) (hl : l.length = n) (hr : r.length = m) (hA : RowAt w A 10 enFlag l) (hB : RowAt w B 10 enFlag r) (hc : n ≤ 1000) :
    Calls Try.prog 10 #[.slice A n c, .slice B m d] w fun e w' => e = .returned (.bool (decide (l = r))) ∧ Fr No w w' := by
  have HL := Lib.hid hl
  have HR := Lib.hid hr
  have HA := Lib.hid hA
  have HB := Lib.hid hB
  clear hl hr hA hB
  by_cases hnm : n = m
  · subst hnm
    go_enter Try.func10, Try.ntmps10
    go_wp2_with fail
    go_loopw [5] (fun i wr => ∃ k : Nat, k ≤ n ∧ i = .int .i64 k ∧ Hid (l.take k = r.take k) ∧ Hid (Fr No w wr)) (fun i _ => n - (intOf i).toNat)
    case atStart => exact ⟨0, Nat.zero_le _, rfl, Lib.hid rfl, Lib.hid (Fr.refl _ _)⟩
    case round =>
      obtain ⟨k, hk, rfl, HE, HF⟩ := hrel
      by_cases hlt : k < n
      · obtain ⟨x, hx⟩ : ∃ x, l[k]? = some x := ⟨_, List.getElem?_eq_getElem (by rw [HL.out]; exact hlt)⟩
        obtain ⟨y, hy⟩ : ∃ x, r[k]? = some x := ⟨_, List.getElem?_eq_getElem (by rw [HR.out]; exact hlt)⟩
        have HTL := Lib.hid (take_snoc hx)
        have HTR := Lib.hid (take_snoc hy)
        have HXY := Lib.hid (And.intro hx hy)
        rcases HA.out.fr HF.out.below with e0 | ⟨b0, off, rfl, hb0, hcell⟩
        · subst e0; cases hx
        rcases HB.out.fr HF.out.below with e0 | ⟨b1, off1, rfl, hb1, hcell1⟩
        · subst e0; cases hy
        obtain ⟨c0, c1, c2, c3, c4, c5, c6, c7, c8, c9⟩ := flag_cells hcell hx
        obtain ⟨d0, d1, d2, d3, d4, d5, d6, d7, d8, d9⟩ := flag_cells hcell1 hy
        have hq : ∀ w, (Op.equalIn 10000 43 x.v y.v).run Try.prog w = .ok (decide (x = y)) w := fun w => flag_eq w x y
        unfold Flag.v Flag.cells at hq
        have hk0 : (0 : Int) ≤ (k : Int) := by omega
        have hk1 : (k : Int) < (n : Int) := by omega
        clear hx hy hcell hcell1
        cases hxy : decide (x = y)
        · rw [hxy] at hq
          go_wp2_with fail
          go_quiet (fail)
          go_wp2_with fail
          go_ret
          refine ⟨?_, HF.out.drewN _⟩
          have : decide (l = r) = false := by
            simp only [decide_eq_false_iff_not] at hxy ⊢
            intro e
            have h1 := HXY.out.1
            rw [e, HXY.out.2] at h1
            cases h1
            exact hxy rfl
          rw [this]
          rfl
        · rw [hxy] at hq
          go_wp2_with fail
          go_quiet (fail)
          go_wp2_with fail
          go_roundw
          case rel => exact ⟨k + 1, by omega, by go_num, Lib.hid (by rw [HTL.out, HTR.out, HE.out, (same_flag x y).1 hxy]), Lib.hid (HF.out.drewN _)⟩
          case measure => simp [intOf]; omega
      · have : k = n := by omega
        subst this
        go_wp2_with fail
        go_ret
        have h1 : l.take k = l := by rw [← HL.out]; exact List.take_length
        have h2 : r.take k = r := by rw [← HR.out]; exact List.take_length
        exact ⟨by rw [← h1, ← h2, HE.out]; simp, HF.out⟩
  · go_enter Try.func10, Try.ntmps10
    go_wp2_with fail
    go_ret
    have : decide (l = r) = false := by
      simp only [decide_eq_false_iff_not]
      intro e
      subst e
      exact hnm (HL.out.symm.trans HR.out)
    exact ⟨by rw [this]; rfl, Fr.refl _ _⟩
end Go.Proofs.Ytgkhaoogfpnbbaa.L
