/- ReportHolds: the walk. -/
import Derived.Test.YtgkhaoogfpnbbaaHolds27
import Derived.Deep.CutRange
namespace Go.Proofs.Ytgkhaoogfpnbbaa.L
open Go.RowKit
attribute [local go_sem ↓] append_K

theorem site_eq' (w : World) (a b : Site) : (Op.equalIn 10000 38 a.v b.v).run Try.prog w = .ok (decide (a = b)) w := site_eq w 9998 a b

theorem rh_works (most : Int) (A : Option Addr) (len cap : Nat) (w : World) (h : 40 < len ∨ most < 0 ∨ 65536 < most) :
    Calls Try.prog 4 #[.int .i64 most, .slice A len cap] w fun e w' => e = .returned (.bool true) ∧ Fr No w w' := by
  have HW := Lib.hid works27_any
  by_cases h1 : 40 < len
  · have hd : decide ((40 : Int) < (len : Int)) = true := by simpa using (by omega : (40 : Int) < (len : Int))
    go_enter Try.func4, Try.ntmps4
    go_wp2_with (go_at_call 7; refine (HW.out _).mono ?_; rintro e w1 ⟨rfl, hf⟩)
    go_ret
    exact ⟨rfl, hf⟩
  · by_cases h2 : most < 0
    · go_enter Try.func4, Try.ntmps4
      go_wp2_with (go_at_call 7; refine (HW.out _).mono ?_; rintro e w1 ⟨rfl, hf⟩)
      go_ret
      exact ⟨rfl, hf⟩
    · have h3 : 65536 < most := by omega
      go_enter Try.func4, Try.ntmps4
      go_wp2_with (go_at_call 7; refine (HW.out _).mono ?_; rintro e w1 ⟨rfl, hf⟩)
      go_ret
      exact ⟨rfl, hf⟩

/-- A site in a box. -/
def SiteAt (w : World) (p : Nat) (s : Site) : Prop := w.heap[p]? = some (.cells #[.int .i64 s.f, .int .i64 s.pc] 38 (0, 0))
theorem blk_new2 (w : World) (a b : Obj) : ((w.alloc a).alloc b).heap[w.heap.size + 1]? = some b := by simpa using blk_new (w.alloc a) b
theorem sites_two (w : World) (s t : Site) : SiteAt ((w.alloc (.cells #[.int .i64 s.f, .int .i64 s.pc] 38)).alloc (.cells #[.int .i64 t.f, .int .i64 t.pc] 38)).drew w.heap.size s ∧ SiteAt ((w.alloc (.cells #[.int .i64 s.f, .int .i64 s.pc] 38)).alloc (.cells #[.int .i64 t.f, .int .i64 t.pc] 38)).drew (w.heap.size + 1) t ∧ Fr No w ((w.alloc (.cells #[.int .i64 s.f, .int .i64 s.pc] 38)).alloc (.cells #[.int .i64 t.f, .int .i64 t.pc] 38)).drew :=
  ⟨blk_alloc (blk_new w _) _, blk_new2 w _ _, (((Fr.refl No w).alloc _).alloc _).drew⟩

theorem Same_self (w : World) (A B : Option Addr) (n c d : Nat) (l : List Flag) (hl : l.length = n) (hA : RowAt w A 10 enFlag l) (hB : RowAt w B 10 enFlag l) (hc : n ≤ 1000) :
    Calls Try.prog 10 #[.slice A n c, .slice B n d] w fun e w' => e = .returned (.bool true) ∧ Fr No w w' :=
  (Same_any w A B n c n d l l hl hl hA hB hc).mono fun e w' ⟨h1, h2⟩ => ⟨by rw [h1]; simp, h2⟩

theorem RowAt.take {w : World} {A : Option Addr} {sz : Nat} {α : Type} {en : α → List Value} {l : List α} (h : RowAt w A sz en l) (n : Nat) : RowAt w A sz en (l.take n) := by
  rcases h with rfl | ⟨b, off, hA, hb, hc⟩
  · exact .inl (by simp)
  · refine .inr ⟨b, off, hA, hb, fun i x hi => hc i x ?_⟩
    rw [List.getElem?_take] at hi
    split at hi
    · exact hi
    · cases hi

theorem RowAt.noFr {w w' : World} {A : Option Addr} {sz : Nat} {α : Type} {en : α → List Value} {l : List α} (h : RowAt w A sz en l) (hf : Fr No w w') : RowAt w' A sz en l := h.fr hf.below

set_option maxRecDepth 100000 in
set_option maxHeartbeats 2000000 in
theorem rh_main (most : Nat) (A : Option Addr) (len cap : Nat) (l : List Flag) (w : World) (h1 : most ≤ 65536) (h2 : len ≤ 40) (hl : l.length = len) (hr : RowAt w A 10 enFlag l) :
    Calls Try.prog 4 #[.int .i64 most, .slice A len cap] w fun e w' => e = .returned (.bool true) ∧ Fr No w w' := by
  have HW := Lib.hid works27_any
  have HL := Lib.hid hl
  have HR := Lib.hid hr
  have HQ := Lib.hid (fun f w => right27_any f w)
  clear hl hr
  go_enter Try.func4, Try.ntmps4
  go_wp2_with fail
  go_loopw [5, 6, 7] (fun a d i wr => ∃ k : Nat, k ≤ len ∧ i = .int .i64 k ∧ Hid (wr.ownsRow w.heap.size 43 10 a (fdOf (l.take k)).F.length (flagCells (fdOf (l.take k)).F)) ∧ Hid (wr.ownsRow w.heap.size 43 10 d (fdOf (l.take k)).D.length (flagCells (fdOf (l.take k)).D)) ∧ Hid (∀ j, a.ownBlock = some j → d.ownBlock ≠ some j) ∧ Hid (Fr No w wr)) (fun a d i _ => len - (intOf i).toNat)
  case atStart =>
    exact ⟨0, Nat.zero_le _, rfl, Lib.hid (World.ownsRow_nil _ _ _ _), Lib.hid (World.ownsRow_nil _ _ _ _), Lib.hid (fun j hj => by simp [Value.ownBlock] at hj), Lib.hid (Fr.refl _ _)⟩
  case round =>
    obtain ⟨k, hk, rfl, HO1, HO2, HV, HF⟩ := hrel
    by_cases hlt : k < len
    · obtain ⟨x, hx⟩ : ∃ x, l[k]? = some x := ⟨_, List.getElem?_eq_getElem (by rw [HL.out]; exact hlt)⟩
      have HTK := Lib.hid (take_snoc hx)
      rcases HR.out with e0 | ⟨b0, off, rfl, hb0, hcell⟩
      · subst e0; cases hx
      have HC : Hid (∀ w', Fr No w w' → w'.cell? ⟨b0, off + k * 10, none⟩ = some (.int .i64 x.at_) ∧ w'.cell? ⟨b0, off + k * 10 + 1, none⟩ = some (.int .u32 x.addr) ∧ w'.cell? ⟨b0, off + k * 10 + 2, none⟩ = some (.int .i64 x.e.g) ∧ w'.cell? ⟨b0, off + k * 10 + 3, none⟩ = some (.int .i64 x.e.s.f) ∧ w'.cell? ⟨b0, off + k * 10 + 4, none⟩ = some (.int .i64 x.e.s.pc) ∧ w'.cell? ⟨b0, off + k * 10 + 5, none⟩ = some (.int .i64 x.e.k) ∧
          w'.cell? ⟨b0, off + k * 10 + 6, none⟩ = some (.int .i64 x.l.g) ∧ w'.cell? ⟨b0, off + k * 10 + 7, none⟩ = some (.int .i64 x.l.s.f) ∧ w'.cell? ⟨b0, off + k * 10 + 8, none⟩ = some (.int .i64 x.l.s.pc) ∧ w'.cell? ⟨b0, off + k * 10 + 9, none⟩ = some (.int .i64 x.l.k)) := Lib.hid (fun w' hf => flag_cells (l := l) (fun i y hi j v hj => (hf.below.cell (p := ⟨b0, _, none⟩) hb0).trans (hcell i y hi j v hj)) hx)
      have hQ := fun w => right27_any x w
      unfold Flag.v Flag.cells at hQ
      have HQx := Lib.hid hQ
      obtain ⟨c0, c1, c2, c3, c4, c5, c6, c7, c8, c9⟩ := HC.out wr HF.out
      have hk0 : (0 : Int) ≤ (k : Int) := by omega
      have hk1 : (k : Int) < (len : Int) := by omega
      clear hx hcell hQ HQ
      go_wp2_with fail
      refine (HQx.out _).mono ?_
      rintro e w2 ⟨rfl, hf2⟩
      have HF2 := Lib.hid hf2
      clear hf2 c0 c1 c2 c3 c4 c5 c6 c7 c8 c9
      cases hok : x.ok
      · go_wp2_with fail
        go_roundw
        case rel =>
          refine ⟨k + 1, by omega, by go_num, Lib.hid ?_, Lib.hid ?_, HV, Lib.hid (HF.out.no HF2.out)⟩
          · rw [HTK.out, fdOf_snoc, fd_step_no _ _ hok]; exact own_fr HO1.out HF2.out (fun _ _ s => s)
          · rw [HTK.out, fdOf_snoc, fd_step_no _ _ hok]; exact own_fr HO2.out HF2.out (fun _ _ s => s)
        case measure => simp [intOf]; omega
      · obtain ⟨A1, cp1, hv1, hcp1, hrow1⟩ := own_row (own_fr HO1.out HF2.out (fun _ _ s => s))
        subst hv1
        have HROW := Lib.hid hrow1
        have hFl := (fd_len (l.take k)).1
        simp at hFl
        obtain ⟨F, hFe⟩ : ∃ F, F = (fdOf (l.take k)).F := ⟨_, rfl⟩
        obtain ⟨n, hn⟩ : ∃ n, n = (fdOf (l.take k)).F.length := ⟨_, rfl⟩
        rw [← hFe] at hn HROW
        rw [← hFe] at hFl
        rw [← hFe] at HO1
        rw [hFe] at hn
        rw [← hn] at HV
        rw [show F.length = n from by rw [hn, hFe]] at HO1
        rw [← hn]
        have HN := Lib.hid hn
        have HFE := Lib.hid hFe
        have hn40 : n ≤ 40 := by rw [hn, ← hFe]; omega
        clear hrow1 hn hFe
        go_wp2_with fail
        go_loopw [8, 9] (fun s i ws => ∃ j : Nat, j ≤ n ∧ i = .int .i64 j ∧ s = .bool (seenIn (F.take j) x) ∧ Hid (Fr No w2 ws)) (fun s i _ => n - (intOf i).toNat)
        case atStart => exact ⟨0, Nat.zero_le _, rfl, by simp [seenIn], Lib.hid (Fr.refl _ _)⟩
        case round =>
          obtain ⟨j, hj, rfl, rfl, HS⟩ := hrel
          by_cases hjn : j < n
          · obtain ⟨g, hg⟩ : ∃ g, F[j]? = some g := ⟨_, List.getElem?_eq_getElem (by rw [HFE.out, ← HN.out]; exact hjn)⟩
            have HTG := Lib.hid (take_snoc hg)
            rcases HROW.out.noFr HS.out with e0 | ⟨b1, off1, rfl, hb1, hcell1⟩
            · subst e0; cases hg
            obtain ⟨d0, d1, d2, d3, d4, d5, d6, d7, d8, d9⟩ := flag_cells hcell1 hg
            obtain ⟨c0, c1, c2, c3, c4, c5, c6, c7, c8, c9⟩ := HC.out wr ((HF.out.no HF2.out).no HS.out)
            have hj0 : (0 : Int) ≤ (j : Int) := by omega
            have hj1 : (j : Int) < (n : Int) := by omega
            have hb0' : b0 < wr.heap.size := by
              have := HF.out.size
              have := HF2.out.size
              have := HS.out.size
              omega
            have HQ1 : Hid (∀ w, (Op.equalIn 10000 38 (.agg #[.int .i64 g.e.s.f, .int .i64 g.e.s.pc]) (.agg #[.int .i64 x.e.s.f, .int .i64 x.e.s.pc])).run Try.prog w = .ok (decide (g.e.s = x.e.s)) w) := Lib.hid (fun w => site_eq' w g.e.s x.e.s)
            have HQ2 : Hid (∀ w, (Op.equalIn 10000 38 (.agg #[.int .i64 g.l.s.f, .int .i64 g.l.s.pc]) (.agg #[.int .i64 x.l.s.f, .int .i64 x.l.s.pc])).run Try.prog w = .ok (decide (g.l.s = x.l.s)) w) := Lib.hid (fun w => site_eq' w g.l.s x.l.s)
            have HQ3 : Hid (∀ w, (Op.equalIn 10000 38 (.agg #[.int .i64 g.e.s.f, .int .i64 g.e.s.pc]) (.agg #[.int .i64 x.l.s.f, .int .i64 x.l.s.pc])).run Try.prog w = .ok (decide (g.e.s = x.l.s)) w) := Lib.hid (fun w => site_eq' w g.e.s x.l.s)
            have HQ4 : Hid (∀ w, (Op.equalIn 10000 38 (.agg #[.int .i64 g.l.s.f, .int .i64 g.l.s.pc]) (.agg #[.int .i64 x.e.s.f, .int .i64 x.e.s.pc])).run Try.prog w = .ok (decide (g.l.s = x.e.s)) w) := Lib.hid (fun w => site_eq' w g.l.s x.e.s)
            obtain ⟨s, hs⟩ : ∃ s, s = seenIn (F.take j) x := ⟨_, rfl⟩
            have HE : Hid (seenIn (F.take (j + 1)) x = (s || ((decide (g.e.s = x.e.s) && decide (g.l.s = x.l.s)) || (decide (g.e.s = x.l.s) && decide (g.l.s = x.e.s))))) := Lib.hid (by rw [HTG.out, seenIn_snoc, hs]; rfl)
            rw [← hs]
            clear hs
            generalize decide (g.e.s = x.e.s) = b1_ at *
            generalize decide (g.l.s = x.l.s) = b2_ at *
            generalize decide (g.e.s = x.l.s) = b3_ at *
            generalize decide (g.l.s = x.e.s) = b4_ at *
            have HFIN : Hid (∀ (q : Bool) (i : Value) ws, q = (s || ((b1_ && b2_) || (b3_ && b4_))) → i = .int .i64 ((j : Int) + 1) → Fr No wr ws → ∃ j : Nat, j ≤ n ∧ i = .int .i64 j ∧ Value.bool q = .bool (seenIn (F.take j) x) ∧ Hid (Fr No w2 ws)) := Lib.hid (fun q i ws h1 h2 h3 => ⟨j + 1, by omega, by rw [h2]; rfl, by rw [HE.out, h1], Lib.hid (HS.out.to h3 (fun _ _ s => s))⟩)
            clear d0 d1 d2 d5 d6 d9 c0 c1 c2 c5 c6 c9 hg hcell1 HE HTG
            go_upto_region 12 with fail
            go_cut [10, 11] from 41 to 91 (fun s10 s11 wx => ∃ p q : Nat, s10 = .pointer (some ⟨p, 0, none⟩) ∧ s11 = .pointer (some ⟨q, 0, none⟩) ∧ Hid (SiteAt wx p g.e.s) ∧ Hid (SiteAt wx q g.l.s) ∧ Hid (Fr No wr wx))
            case first =>
              have h1 := sites_two wr g.e.s g.l.s
              have h2 := sites_two wr g.l.s g.e.s
              have H1 := Lib.hid h1
              have H2 := Lib.hid h2
              clear h1 h2
              go_region
              all_goals
                go_wp2_with fail
                go_meet
                first
                  | exact ⟨_, _, rfl, rfl, Lib.hid H1.out.1, Lib.hid H1.out.2.1, Lib.hid H1.out.2.2⟩
                  | exact ⟨_, _, rfl, rfl, Lib.hid H2.out.2.1, Lib.hid H2.out.1, Lib.hid H2.out.2.2⟩
            case rest =>
              obtain ⟨p, q, rfl, rfl, HP, HQ, HFX⟩ := hcut
              obtain ⟨kp, fp, lp⟩ := blk_all HP.out
              obtain ⟨kq, fq, lq⟩ := blk_all HQ.out
              obtain ⟨c0, c1, c2, c3, c4, c5, c6, c7, c8, c9⟩ := HC.out wc (((HF.out.no HF2.out).no HS.out).no HFX.out)
              have hb0c : b0 < wc.heap.size := by have := HFX.out.size; omega
              have hb0d : b0 < wc.heap.size + 1 := by omega
              clear c0 c1 c2 c5 c6 c9 d3 d4 d7 d8 hb0'
              go_upto_region 13 with fail
              go_cut [12, 13] from 41 to 91 (fun s12 s13 wx => ∃ p' q' : Nat, s12 = .pointer (some ⟨p', 0, none⟩) ∧ s13 = .pointer (some ⟨q', 0, none⟩) ∧ Hid (SiteAt wx p' x.e.s) ∧ Hid (SiteAt wx q' x.l.s) ∧ Hid (Fr No wc wx))
              case first =>
                have h1 := sites_two wc x.e.s x.l.s
                have h2 := sites_two wc x.l.s x.e.s
                have H1 := Lib.hid h1
                have H2 := Lib.hid h2
                clear h1 h2
                go_region
                all_goals
                  go_wp2_with fail
                  go_meet
                  first
                    | exact ⟨_, _, rfl, rfl, Lib.hid H1.out.1, Lib.hid H1.out.2.1, Lib.hid H1.out.2.2⟩
                    | exact ⟨_, _, rfl, rfl, Lib.hid H2.out.2.1, Lib.hid H2.out.1, Lib.hid H2.out.2.2⟩
              case rest =>
                rename_i wd
                obtain ⟨p', q', rfl, rfl, HP', HQ', HFX'⟩ := hcut
                have HFY := Lib.hid (HFX.out.to HFX'.out (fun _ _ s => s))
                obtain ⟨ep, gp, mp⟩ := blk_all (HFX'.out.at HP.out (fun s => s))
                obtain ⟨eq, gq, mq⟩ := blk_all (HFX'.out.at HQ.out (fun s => s))
                obtain ⟨ep', gp', mp'⟩ := blk_all HP'.out
                obtain ⟨eq', gq', mq'⟩ := blk_all HQ'.out
                clear kp fp lp kq fq lq c3 c4 c7 c8 hb0c hb0d
                have hq1 := HQ1.out
                have hq2 := HQ2.out
                have hq3 := HQ3.out
                have hq4 := HQ4.out
                clear HQ1 HQ2 HQ3 HQ4 HP HQ HP' HQ'
                cases s
                · cases b1_
                  · cases b3_
                    · go_wp2_with fail
                      go_roundw
                      case rel => exact HFIN.out _ _ _ (by simp) (by go_num) HFY.out
                      case measure => simp [intOf]; omega
                    · cases b4_
                      · go_wp2_with fail
                        go_roundw
                        case rel => exact HFIN.out _ _ _ (by simp) (by go_num) HFY.out
                        case measure => simp [intOf]; omega
                      · go_wp2_with fail
                        go_roundw
                        case rel => exact HFIN.out _ _ _ (by simp) (by go_num) HFY.out
                        case measure => simp [intOf]; omega
                  · cases b2_
                    · cases b3_
                      · go_wp2_with fail
                        go_roundw
                        case rel => exact HFIN.out _ _ _ (by simp) (by go_num) HFY.out
                        case measure => simp [intOf]; omega
                      · cases b4_
                        · go_wp2_with fail
                          go_roundw
                          case rel => exact HFIN.out _ _ _ (by simp) (by go_num) HFY.out
                          case measure => simp [intOf]; omega
                        · go_wp2_with fail
                          go_roundw
                          case rel => exact HFIN.out _ _ _ (by simp) (by go_num) HFY.out
                          case measure => simp [intOf]; omega
                    · go_wp2_with fail
                      go_roundw
                      case rel => exact HFIN.out _ _ _ (by simp) (by go_num) HFY.out
                      case measure => simp [intOf]; omega
                · go_wp2_with fail
                  go_roundw
                  case rel => exact HFIN.out _ _ _ (by simp) (by go_num) HFY.out
                  case measure => simp [intOf]; omega
          · have : j = n := by omega
            subst this
            rw [show F.take j = F from by rw [HN.out, ← HFE.out]; exact List.take_length]
            have hFS : Fr No w wr := (HF.out.no HF2.out).no HS.out
            have hD : wr.ownsRow w.heap.size 43 10 u6 (fdOf (l.take k)).D.length (flagCells (fdOf (l.take k)).D) := own_fr HO2.out (HF2.out.no HS.out) (fun _ _ s => s)
            have hFo := own_fr HO1.out (HF2.out.no HS.out) (fun _ _ s => s)
            obtain ⟨c0, c1, c2, c3, c4, c5, c6, c7, c8, c9⟩ := HC.out wr hFS
            have hDl := (fd_len (l.take k)).2
            simp at hDl
            have hse : Hid ((fdOf (l.take (k + 1))).F = F ++ [x] ∧ (fdOf (l.take (k + 1))).D = if seenIn F x = true then (fdOf (l.take k)).D else (fdOf (l.take k)).D ++ [x]) := Lib.hid (by
              rw [HTK.out, fdOf_snoc]
              unfold FD.step
              rw [if_pos hok, ← HFE.out]
              exact ⟨rfl, rfl⟩)
            have hFn : F.length = j := by rw [HN.out, ← HFE.out]
            cases hsn : seenIn F x
            · obtain ⟨v3, w3, hrun3, r1, r2, r4⟩ := append_flag_own (wr.alloc (.cells x.cells 43)) w.heap.size (by have := hFS.size; simp; omega) u6 _ _ (hD.alloc _) (by omega) wr.heap.size x (blk_new _ _)
              have hFG : Fr (fun j => u6.ownBlock = some j) wr w3 := Fr.of_grown ((Fr.refl _ wr).alloc _) r2 (fun j h => .inl h)
              have hW3 : Fr No w w3 := hFS.trans hFG (fun _ _ s => s) (fun i hi s => by have := (own_block hD s).1; omega)
              have hF3 := own_fr hFo hFG (fun j hj => HV.out j hj)
              obtain ⟨e0, e1, e2, e3, e4, e5, e6, e7, e8, e9⟩ := HC.out w3 hW3
              obtain ⟨v4, w4, hrun4, q1, q2, q4⟩ := append_flag_own (w3.alloc (.cells x.cells 43)) w.heap.size (by have := hW3.size; simp; omega) (.slice A1 j cp1) j (flagCells F) (hF3.alloc _) (by omega) w3.heap.size x (blk_new _ _)
              have hFG4 : Fr (fun i => (Value.slice A1 j cp1).ownBlock = some i) w3 w4 := Fr.of_grown ((Fr.refl _ w3).alloc _) q2 (fun j h => .inl h)
              have hW4 : Fr No w w4 := hW3.trans hFG4 (fun _ _ s => s) (fun i hi s => by have := (own_block hF3 s).1; omega)
              have hv3 : ∀ i, v3.ownBlock = some i → (Value.slice A1 j cp1).ownBlock ≠ some i := fun i hi e => by
                rcases r4 with r4 | r4
                · rw [r4] at hi; exact HV.out i e hi
                · rw [r4] at hi
                  have := (World.ownsRow.lt hFo i e).2
                  simp at hi
                  omega
              have hr4 := own_fr r1 hFG4 (fun i hi e => hv3 i hi e)
              have hv4 : ∀ i, v4.ownBlock = some i → v3.ownBlock ≠ some i := fun i hi e => by
                rcases q4 with q4 | q4
                · rw [q4] at hi; exact hv3 i e hi
                · rw [q4] at hi
                  have := (World.ownsRow.lt r1 i e).2
                  simp at hi
                  omega
              have HEND := Lib.hid (And.intro q1 (And.intro hr4 (And.intro hv4 hW4)))
              clear q1 q2 q4 hr4 hv4 hW4 hv3 hFG4 hF3 hW3 hFG r1 r2 r4 hD hFo hFS
              unfold Flag.cells at hrun3 hrun4
              go_wp2_with fail
              go_roundw
              case rel =>
                refine ⟨k + 1, by omega, by go_num, Lib.hid ?_, Lib.hid ?_, Lib.hid HEND.out.2.2.1, Lib.hid HEND.out.2.2.2⟩
                · rw [hse.out.1, List.length_append, hFn, flagCells_snoc]; exact HEND.out.1
                · rw [hse.out.2, hsn, if_neg (by simp), List.length_append, flagCells_snoc]; exact HEND.out.2.1
              case measure => simp [intOf]; omega
            · obtain ⟨v4, w4, hrun4, q1, q2, q4⟩ := append_flag_own (wr.alloc (.cells x.cells 43)) w.heap.size (by have := hFS.size; simp; omega) (.slice A1 j cp1) j (flagCells F) (hFo.alloc _) (by omega) wr.heap.size x (blk_new _ _)
              have hFG4 : Fr (fun i => (Value.slice A1 j cp1).ownBlock = some i) wr w4 := Fr.of_grown ((Fr.refl _ wr).alloc _) q2 (fun j h => .inl h)
              have hW4 : Fr No w w4 := hFS.trans hFG4 (fun _ _ s => s) (fun i hi s => by have := (own_block hFo s).1; omega)
              have hr4 := own_fr hD hFG4 (fun i hi e => HV.out i e hi)
              have hv4 : ∀ i, v4.ownBlock = some i → u6.ownBlock ≠ some i := fun i hi e => by
                rcases q4 with q4 | q4
                · rw [q4] at hi; exact HV.out i hi e
                · rw [q4] at hi
                  have := (World.ownsRow.lt hD i e).2
                  simp at hi
                  omega
              have HEND := Lib.hid (And.intro q1 (And.intro hr4 (And.intro hv4 hW4)))
              clear q1 q2 q4 hr4 hv4 hW4 hFG4 hD hFo hFS
              unfold Flag.cells at hrun4
              go_wp2_with fail
              go_roundw
              case rel =>
                refine ⟨k + 1, by omega, by go_num, Lib.hid ?_, Lib.hid ?_, Lib.hid HEND.out.2.2.1, Lib.hid HEND.out.2.2.2⟩
                · rw [hse.out.1, List.length_append, hFn, flagCells_snoc]; exact HEND.out.1
                · rw [hse.out.2, hsn, if_pos rfl]; exact HEND.out.2.1
              case measure => simp [intOf]; omega
    · have : k = len := by omega
      subst this
      rw [show l.take k = l from by rw [← HL.out]; exact List.take_length] at HO1 HO2
      have hF0 : Hid (fine (fdOf l).F = true) := Lib.hid (fd_fine l)
      have hlF := (fd_len l).1
      have hlD := (fd_len l).2
      rw [HL.out] at hlF hlD
      obtain ⟨A1, cp1, rfl, hcp1, hrow1⟩ := own_row HO1.out
      obtain ⟨A2, cp2, rfl, hcp2, hrow2⟩ := own_row HO2.out
      have hOf := OfR_yes wr (most : Int) ⟨by omega, by omega⟩ A1 _ cp1 (fdOf l).F rfl (by omega) hrow1
      obtain ⟨hk1, hk2⟩ := holds27 most l
      unfold OfREnd at hOf
      rw [if_pos hF0.out, if_pos hF0.out, hF0.out, hk1] at hOf
      obtain ⟨d, hd⟩ : ∃ d, d = (Tab.runs ⟨most, 0, [], []⟩ (fdOf l).F).dropped := ⟨_, rfl⟩
      rw [← hd] at hOf hk2
      obtain ⟨D, hD⟩ : ∃ D, D = (fdOf l).D := ⟨_, rfl⟩
      rw [← hD] at hOf hk2 hlD hcp2 hrow2 HO2
      rw [← hD]
      have HOF := Lib.hid hOf
      have HRO := Lib.hid hrow2
      obtain ⟨nF, hnF⟩ : ∃ n, n = (fdOf l).F.length := ⟨_, rfl⟩
      rw [← hnF] at HOF
      rw [← hnF]
      obtain ⟨nD, hnD⟩ : ∃ n, n = D.length := ⟨_, rfl⟩
      rw [← hnD] at hcp2 hlD hk2
      rw [← hnD]
      have HND := Lib.hid hnD
      clear hOf hrow1 hrow2 hk1 hd hD hnF HO1 HO2 hF0 HV hnD hcp1 hlF
      have hnum := Lib.hid (fun n w => num27_any n w)
      by_cases hm : most ≤ nD
      · have ht : (D.take most).length = most := by rw [List.length_take, ← HND.out]; omega
        rw [ht] at HOF hk2
        obtain rfl : d = (nD : Int) - (most : Int) := by omega
        have hT := Lib.hid ht
        clear ht hk2
        go_wp2_with fail
        refine (HOF.out).mono ?_
        rintro e w2 ⟨vo, rfl, ho, hf2⟩
        obtain ⟨A3, cp3, rfl, hcp3, hrow3⟩ := own_row (l := D.take most) (by rw [hT.out]; exact ho)
        rw [hT.out]
        have HSM := Lib.hid (Same_self w2 A3 A2 most cp3 cp2 (D.take most) hT.out hrow3 ((HRO.out.noFr hf2).take most) (by omega))
        have HF2 := Lib.hid (HF.out.no hf2)
        clear ho hrow3 hf2 HOF HRO
        go_wp2_with fail
        refine (hnum.out _ _).mono ?_
        rintro e w3 ⟨rfl, rfl⟩
        go_wp2_with fail
        refine HSM.out.mono ?_
        rintro e w4 ⟨rfl, hf4⟩
        have HF4 := Lib.hid (HF2.out.no hf4)
        clear hf4
        go_wp2_with fail
        refine (HW.out _).mono ?_
        rintro e w5 ⟨rfl, hf5⟩
        go_wp2_with fail
        go_ret
        exact ⟨rfl, HF4.out.no hf5⟩
      · have ht : D.take most = D := List.take_of_length_le (by rw [← HND.out]; omega)
        rw [ht, ← HND.out] at hk2
        rw [ht, ← HND.out] at HOF
        obtain rfl : d = 0 := by omega
        clear ht hk2
        go_wp2_with fail
        refine (HOF.out).mono ?_
        rintro e w2 ⟨vo, rfl, ho, hf2⟩
        obtain ⟨A3, cp3, rfl, hcp3, hrow3⟩ := own_row (l := D) (by rw [← HND.out]; exact ho)
        rw [← HND.out]
        have HSM := Lib.hid (Same_self w2 A3 A2 nD cp3 cp2 D HND.out.symm hrow3 (HRO.out.noFr hf2) (by omega))
        have HF2 := Lib.hid (HF.out.no hf2)
        clear ho hrow3 hf2 HOF HRO
        go_wp2_with fail
        refine (hnum.out _ _).mono ?_
        rintro e w3 ⟨rfl, rfl⟩
        go_wp2_with fail
        refine HSM.out.mono ?_
        rintro e w4 ⟨rfl, hf4⟩
        have HF4 := Lib.hid (HF2.out.no hf4)
        clear hf4
        go_wp2_with fail
        refine (HW.out _).mono ?_
        rintro e w5 ⟨rfl, hf5⟩
        go_wp2_with fail
        go_ret
        exact ⟨rfl, HF4.out.no hf5⟩

/-- A flag out of its cells. -/
def deFlag : List Value → Flag
  | [.int _ a, .int _ b, .int _ c, .int _ d, .int _ e, .int _ f, .int _ g, .int _ h, .int _ i, .int _ j] => ⟨a, b, ⟨c, ⟨d, e⟩, f⟩, ⟨g, ⟨h, i⟩, j⟩⟩
  | _ => ⟨0, 0, ⟨0, ⟨0, 0⟩, 0⟩, ⟨0, ⟨0, 0⟩, 0⟩⟩
def wfFlag (_ : Flag) : Prop := True
theorem deFlag_ok (cs : List Value) (h : cksOk [.int .i64, .int .u32, .int .i64, .int .i64, .int .i64, .int .i64, .int .i64, .int .i64, .int .i64, .int .i64] cs) : enFlag (deFlag cs) = cs ∧ wfFlag (deFlag cs) := by
  have hl := cksOk_length h
  match cs, hl, h with
  | [c0, c1, c2, c3, c4, c5, c6, c7, c8, c9], _, ⟨⟨_, h0, _⟩, ⟨_, h1, _⟩, ⟨_, h2, _⟩, ⟨_, h3, _⟩, ⟨_, h4, _⟩, ⟨_, h5, _⟩, ⟨_, h6, _⟩, ⟨_, h7, _⟩, ⟨_, h8, _⟩, ⟨_, h9, _⟩, _⟩ =>
    subst h0 h1 h2 h3 h4 h5 h6 h7 h8 h9
    exact ⟨rfl, trivial⟩

theorem rh_walk (most : Int) (A : Option Addr) (len cap : Nat) (l : List Flag) (w : World) (_ : (Lit.int .i64 most).wf = true) (hl : l.length = len) (_ : len ≤ cap) (_ : cap ≤ maxLen) (_ : ∀ x ∈ l, wfFlag x) (hr : RowAt w A 10 enFlag l) :
    Calls Try.prog 4 #[.int .i64 most, .slice A len cap] w fun e w' => e = .returned (.bool true) ∧ Fr No w w' := by
  by_cases h : 40 < len ∨ most < 0 ∨ 65536 < most
  · exact rh_works most A len cap w h
  · obtain ⟨m, rfl⟩ : ∃ m : Nat, most = m := ⟨most.toNat, by omega⟩
    exact rh_main m A len cap l w (by omega) (by omega) hl hr
end Go.Proofs.Ytgkhaoogfpnbbaa.L
