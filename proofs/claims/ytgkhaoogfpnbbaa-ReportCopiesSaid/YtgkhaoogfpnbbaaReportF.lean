/- Contracts of package report: Of, whole. -/
import Derived.Test.YtgkhaoogfpnbbaaReportE
namespace Go.Proofs.Ytgkhaoogfpnbbaa.L
open Go.RowKit

theorem TX.base {w : World} {base base' t p b : Nat} {v : Value} {T : Tab} (h : TX w base t p b v T) (hb : base' ≤ base) : TX w base' t p b v T := ⟨h.cell, h.px, own_base h.own hb⟩

/-- How Of ends. -/
def OfREnd (w : World) (most : Int) (l : List Flag) (e : Ending) (w' : World) : Prop :=
  ∃ vo, e = .returned (.tuple #[vo, .int .i64 (if fine l = true then (Tab.runs ⟨most, 0, [], []⟩ l).dropped else 0), .int .i64 (argErr (fine l))]) ∧
    w'.ownsRow w.heap.size 43 10 vo (if fine l = true then keptOf ⟨most, 0, [], []⟩ l else []).length (flagCells (if fine l = true then keptOf ⟨most, 0, [], []⟩ l else [])) ∧ Fr No w w'

set_option maxHeartbeats 1000000 in
theorem OfR_no (w : World) (most : Int) (h : ¬ (0 ≤ most ∧ most ≤ 65536)) (A : Option Addr) (len cap : Nat) :
    Calls Try.prog 8 #[.int .i64 most, .slice A len cap] w fun e w' => e = .returned (.tuple #[.slice none 0 0, .int .i64 0, .int .i64 2]) ∧ Fr No w w' := by
  have HN := Lib.hid (fun w => tNew_no most w h)
  clear h
  go_enter Try.func8, Try.ntmps8
  go_wp2_with fail
  refine (HN.out _).mono ?_
  rintro e w1 ⟨rfl, hf⟩
  have hb := hf.at (blk_new w _) (fun s => s)
  obtain ⟨k1, f1, l1⟩ := blk_all hb
  have HF := Lib.hid (((Fr.refl No w).alloc _).to hf (fun _ _ s => s))
  have hs := hf.size
  clear hf
  go_wp2_with fail
  go_region
  all_goals
    go_wp2_with fail
    have hc := (blk_cell (blk_alloc (blk_set (blk_set hb 0 (.int .i64 2)) 0 (.int .i64 2)) (.cells #[.pointer none] 44)) 0).trans rfl
    refine bodyPost_ret (v := .tuple #[.slice none 0 0, .int .i64 0, .int .i64 2]) (by simp [results, Try.results8, go_sem, hc]) rfl ⟨rfl, ?_⟩
    exact (((HF.out.setCell (.inr (Nat.le_refl _)) _).setCell (.inr (Nat.le_refl _)) _).alloc _).drew

set_option maxRecDepth 100000 in
set_option maxHeartbeats 1000000 in
theorem OfR_yes (w : World) (most : Int) (h : 0 ≤ most ∧ most ≤ 65536) (A : Option Addr) (len cap : Nat) (l : List Flag) (hl : l.length = len) (hlen : len ≤ 500) (hr : RowAt w A 10 enFlag l) :
    Calls Try.prog 8 #[.int .i64 most, .slice A len cap] w (OfREnd w most l) := by
  have HN := Lib.hid (fun w => tNew_yes most w h)
  have HR := Lib.hid hr
  have HL := Lib.hid hl
  clear h hr hl
  have HE : Hid (∀ vo d g e w', e = .returned (.tuple #[vo, d, .int .i64 (argErr g)]) → g = fine l → d = .int .i64 (if fine l = true then (Tab.runs ⟨most, 0, [], []⟩ l).dropped else 0) → w'.ownsRow w.heap.size 43 10 vo (if fine l = true then keptOf ⟨most, 0, [], []⟩ l else []).length (flagCells (if fine l = true then keptOf ⟨most, 0, [], []⟩ l else [])) → Fr No w w' → OfREnd w most l e w') := Lib.hid (fun vo d g e w' h1 h2 h3 h4 h5 => ⟨vo, by rw [h1, h2, h3], h4, h5⟩)
  generalize OfREnd w most l = R at HE ⊢
  go_enter Try.func8, Try.ntmps8
  go_wp2_with fail
  refine (HN.out _).mono ?_
  rintro e w1 ⟨t, p, b, rfl, ht, hp, hb, hx, hf⟩
  have hb0 := hf.at (blk_new w _) (fun s => s)
  obtain ⟨k1, f1, l1⟩ := blk_all hb0
  have HF1 := Lib.hid (((Fr.refl No w).alloc _).to hf (fun _ _ s => s))
  have HX1 := Lib.hid (hx.base (base' := w.heap.size) (by simp))
  have HB0 := Lib.hid hb0
  have hs := hf.size
  simp at ht hp hb hs
  clear hf hx hb0
  go_wp2_with fail
  have hF2 : Fr (· = w.heap.size) w1 ((w1.setCell ⟨w.heap.size, 0, none⟩ (.int .i64 0)).alloc (.cells #[.pointer (some ⟨t, 0, none⟩)] 44)) := (Fr.setCell (S := (· = w.heap.size)) (p := ⟨w.heap.size, 0, none⟩) (Fr.refl _ w1) (.inl rfl) _).alloc _
  have hOX : OX ((w1.setCell ⟨w.heap.size, 0, none⟩ (.int .i64 0)).alloc (.cells #[.pointer (some ⟨t, 0, none⟩)] 44)) w.heap.size w1.heap.size w.heap.size t p b (.slice none 0 0) ⟨most, 0, [], []⟩ true :=
    ⟨by simpa using blk_new (w1.setCell ⟨w.heap.size, 0, none⟩ (.int .i64 0)) (.cells #[.pointer (some ⟨t, 0, none⟩)] 44), blk_alloc (blk_set HB0.out 0 _) _, HX1.out.fr hF2 (by omega) (by omega) (by omega) (fun k hk => by simp [Value.ownBlock] at hk)⟩
  have hF3 : Fr No w ((w1.setCell ⟨w.heap.size, 0, none⟩ (.int .i64 0)).alloc (.cells #[.pointer (some ⟨t, 0, none⟩)] 44)) := HF1.out.trans hF2 (fun _ _ s => s) (fun i hi s => by omega)
  refine (sifted_any w _ w1.heap.size w.heap.size t p b (.slice none 0 0) _ true hOX hF3 (by omega) (by omega) (Nat.le_refl _) A len cap l HL.out hlen HR.out (Tab.Fine.start most)).mono ?_
  rintro e w3 ⟨vo, v', rfl, ho, hx3, hf3⟩
  have HF3 : Hid (Fr No w w3) := Lib.hid (hF3.trans hf3 (fun _ _ s => s) (fun i hi s => by rcases s with s | s | s <;> omega))
  have HO3 : Hid (w3.ownsRow w.heap.size 43 10 vo (keptOf ⟨most, 0, [], []⟩ l).length (flagCells (keptOf ⟨most, 0, [], []⟩ l))) := Lib.hid (own_base ho hF3.size)
  have hoff := fun k hk => hx3.off ho (k := k) hk
  obtain ⟨k4, f4, l4⟩ := blk_all hx3.tcell
  obtain ⟨k5, f5, l5⟩ := blk_all hx3.tx.cell
  have HOFF := Lib.hid hoff
  clear hF2 hOX hF3 ho hf3 hoff k1 f1
  cases hg : fine l
  · have hec := hx3.ecell
    rw [hg, show argErr (true && false) = 2 from rfl] at hec
    obtain ⟨k6, f6, l6⟩ := blk_all hec
    clear hx3
    go_wp2_with fail
    go_region
    all_goals
      go_wp2_with fail
      have hc := (blk_cell (blk_set hec 0 (.int .i64 2)) 0).trans rfl
      refine bodyPost_ret (v := .tuple #[.slice none 0 0, .int .i64 0, .int .i64 2]) (by simp [results, Try.results8, go_sem, hc]) rfl (HE.out (.slice none 0 0) _ false _ _ rfl hg.symm (by rw [hg]; rfl) ?_ ?_)
      · rw [hg]; exact World.ownsRow_nil _ _ _ _
      · exact (HF3.out.setCell (.inr (Nat.le_refl _)) _).drew
  · have hec := hx3.ecell
    rw [hg, show argErr (true && true) = 0 from rfl] at hec
    obtain ⟨k6, f6, l6⟩ := blk_all hec
    clear hx3
    go_wp2_with fail
    go_region
    all_goals
      go_wp2_with fail
      have hc := (blk_cell (blk_set hec 0 (.int .i64 0)) 0).trans rfl
      refine bodyPost_ret (v := .tuple #[vo, .int .i64 (Tab.runs ⟨most, 0, [], []⟩ l).dropped, .int .i64 0]) (by simp [results, Try.results8, go_sem, hc]) rfl (HE.out vo _ true _ _ rfl hg.symm (by rw [hg]; rfl) ?_ ?_)
      · rw [hg]
        exact own_fr HO3.out (S := (· = w.heap.size)) (Fr.drew (Fr.setCell (S := (· = w.heap.size)) (p := ⟨w.heap.size, 0, none⟩) (Fr.refl _ w3) (.inl rfl) _)) (fun k hk => (HOFF.out k hk).2.2.2.2)
      · exact (HF3.out.setCell (.inr (Nat.le_refl _)) _).drew
end Go.Proofs.Ytgkhaoogfpnbbaa.L
