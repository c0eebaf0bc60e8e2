/- Contracts of package site: pairs, and sets of them. -/
import Derived.Test.YtfkbjfbbigbacaaGreatDoorSiteB
namespace Go.Proofs.YtfkbjfbbigbacaaGreatDoor.L
open Go.RowKit

def Pair.zero : Pair := ⟨⟨0, 0⟩, ⟨0, 0⟩⟩
/-- The pair of two: the first one first. -/
def Pair.of (a b : Site) : Pair := if 0 < a.cmp b then ⟨b, a⟩ else ⟨a, b⟩
/-- What Of tells. -/
def Pair.told (p : Pair) : Pair := if p.ok then p else Pair.zero

/-- The end of Of: a pair p in its box, the result's box. -/
def OfEnd (t : Pair) (n : Int) (w : World) (e : Ending) (w' : World) : Prop := e = .returned (.tuple #[t.v, .int .i64 n]) ∧ Fr No w w'

set_option maxHeartbeats 1000000 in
theorem Of_any (a b : Site) (w : World) : Calls Tryz.prog 90 #[a.v, b.v] w (OfEnd (Pair.of a b).told (argErr (Pair.of a b).ok) w) := by
  have hC := fun w => Order_any a b w
  have hR := fun w => right_any (Pair.of a b) w
  have hD : ∀ w, Calls Tryz.prog 116 #[(Pair.of a b).v, .bool (Pair.of a b).ok, .int .i64 2] w fun e w' => e = .returned (.tuple #[(Pair.of a b).told.v, .int .i64 (argErr (Pair.of a b).ok)]) ∧ Fr No w w' := by
    intro w
    refine (read_pair (Pair.of a b) (Pair.of a b).ok 2 w).mono ?_
    rintro e w' ⟨rfl, hf⟩
    refine ⟨?_, hf⟩
    unfold Pair.told
    cases (Pair.of a b).ok <;> rfl
  have hP : ∀ c d : Site, Pair.of a b = ⟨c, d⟩ → (Pair.of a b).v = .agg #[.int .i64 c.f, .int .i64 c.pc, .int .i64 d.f, .int .i64 d.pc] := fun c d h => by rw [h]; rfl
  obtain ⟨tv, htv⟩ : ∃ tv : Pair, tv = (Pair.of a b).told := ⟨_, rfl⟩
  rw [← htv] at hD ⊢
  clear htv
  obtain ⟨c, hc⟩ : ∃ c, c = a.cmp b := ⟨_, rfl⟩
  rw [← hc] at hC
  have hO : Pair.of a b = if 0 < c then ⟨b, a⟩ else ⟨a, b⟩ := by unfold Pair.of; rw [hc]
  clear hc
  generalize (Pair.of a b).ok = r at hR hD ⊢
  generalize Pair.of a b = q at hR hD hP hO
  generalize argErr r = n at hD ⊢
  obtain ⟨⟨tf, tp⟩, ⟨uf, up⟩⟩ := tv
  have E : ∀ e w', (e = .returned (.tuple #[.agg #[.int .i64 tf, .int .i64 tp, .int .i64 uf, .int .i64 up], .int .i64 n]) ∧ Fr No w w') → OfEnd ⟨⟨tf, tp⟩, ⟨uf, up⟩⟩ n w e w' := fun e w' h => h
  generalize OfEnd ⟨⟨tf, tp⟩, ⟨uf, up⟩⟩ n w = R at E ⊢
  have HE := Lib.hid E
  clear E
  by_cases h : 0 < c
  · rw [if_pos h] at hO
    rw [hP _ _ hO] at hR hD
    clear hP hO
    obtain ⟨af, ap⟩ := a
    obtain ⟨bf, bp⟩ := b
    unfold Pair.v Site.v at *
    simp only at *
    have HC := Lib.hid hC
    have HR := Lib.hid hR
    have HD := Lib.hid hD
    clear hC hR hD
    go_enter Tryz.func90, Tryz.ntmps90
    go_wp2_with fail
    refine (HC.out _).mono ?_
    rintro e w1 ⟨rfl, hf⟩
    have bk2 := hf.at (blk_new ((w.alloc (.cells #[.int .i64 af, .int .i64 ap] 43)).alloc (.cells #[.int .i64 bf, .int .i64 bp] 43)) _) (fun s => s)
    simp only [World.size_alloc] at bk2
    have BK2 := Lib.hid bk2
    obtain ⟨k0, f0, l0⟩ := blk_all (hf.at (blk_alloc (blk_alloc (blk_new w _) _) _) (fun s => s))
    obtain ⟨k1, f1, l1⟩ := blk_all (hf.at (blk_alloc (blk_new (w.alloc _) _) _) (fun s => s))
    simp only [World.size_alloc] at k1 f1 l1
    have HF1 := Lib.hid ((((((Fr.refl No w).alloc _).alloc _).alloc _)).to hf (fun _ _ s => s))
    clear hf bk2
    go_wp2_with fail
    refine wp_at (fun W => W.heap[w1.heap.size]? = some (.cells #[.int .i64 bf, .int .i64 bp, .int .i64 af, .int .i64 ap] 45 (0, 0)) ∧ W.heap[w.heap.size + 1 + 1]? = some (.cells #[.int .i64 0, .int .i64 0, .int .i64 0, .int .i64 0] 45 (0, 0)) ∧ Fr No w W) ?_ ?_
    · refine ⟨by simpa using blk_new ((((w1.setCell _ _).setCell _ _).setCell _ _).setCell _ _) _, ?_, ?_⟩
      · exact blk_alloc (blk_set_other (blk_set_other (blk_set_other (blk_set_other BK2.out (by simp; omega) _) (by simp; omega) _) (by simp) _) (by simp) _) _
      · exact ((((HF1.out.setCell (.inr (by simp)) _).setCell (.inr (by simp)) _).setCell (.inr (by simp)) _).setCell (.inr (by simp)) _).alloc _
    · clear k0 k1 f0 f1 l0 l1 HF1 BK2
      rintro W ⟨b1, b2, hF⟩
      obtain ⟨r1, -⟩ := Fr.rules (S := No) b1 (fun s => s)
      obtain ⟨r2, q2⟩ := Fr.rules (S := No) b2 (fun s => s)
      have HF := Lib.hid hF
      clear hF b1 b2
      have h0 := Fr.refl No W
      have h1 := (Fr.refl No W).drew
      go_region_with (first | (go_at_call 103; refine (HR.out _).mono ?_; rintro e w2 ⟨rfl, hf2⟩; have h2 := Fr.no (by assumption) hf2; clear hf2) | (go_at_call 116; refine (HD.out _).mono ?_; rintro e w3 ⟨rfl, hf3⟩; have h3 := Fr.no (by assumption) hf3; clear hf3))
      all_goals
        go_wp2_with fail
        refine bodyPost_ret (v := .tuple #[.agg #[.int .i64 tf, .int .i64 tp, .int .i64 uf, .int .i64 up], .int .i64 n]) (by simp [results, Tryz.results90, go_sem, h3, r2]) rfl (HE.out _ _ ⟨rfl, ?_⟩)
        exact ((((HF.out.no h3).setCell (.inr (by simp; omega)) _).setCell (.inr (by simp; omega)) _).setCell (.inr (by simp; omega)) _).setCell (.inr (by simp; omega)) _
  · rw [if_neg h] at hO
    rw [hP _ _ hO] at hR hD
    clear hP hO
    obtain ⟨af, ap⟩ := a
    obtain ⟨bf, bp⟩ := b
    unfold Pair.v Site.v at *
    simp only at *
    have HC := Lib.hid hC
    have HR := Lib.hid hR
    have HD := Lib.hid hD
    clear hC hR hD
    go_enter Tryz.func90, Tryz.ntmps90
    go_wp2_with fail
    refine (HC.out _).mono ?_
    rintro e w1 ⟨rfl, hf⟩
    have bk2 := hf.at (blk_new ((w.alloc (.cells #[.int .i64 af, .int .i64 ap] 43)).alloc (.cells #[.int .i64 bf, .int .i64 bp] 43)) _) (fun s => s)
    simp only [World.size_alloc] at bk2
    have BK2 := Lib.hid bk2
    obtain ⟨k0, f0, l0⟩ := blk_all (hf.at (blk_alloc (blk_alloc (blk_new w _) _) _) (fun s => s))
    obtain ⟨k1, f1, l1⟩ := blk_all (hf.at (blk_alloc (blk_new (w.alloc _) _) _) (fun s => s))
    simp only [World.size_alloc] at k1 f1 l1
    have HF1 := Lib.hid ((((((Fr.refl No w).alloc _).alloc _).alloc _)).to hf (fun _ _ s => s))
    clear hf bk2
    go_wp2_with fail
    refine wp_at (fun W => W.heap[w1.heap.size]? = some (.cells #[.int .i64 af, .int .i64 ap, .int .i64 bf, .int .i64 bp] 45 (0, 0)) ∧ W.heap[w.heap.size + 1 + 1]? = some (.cells #[.int .i64 0, .int .i64 0, .int .i64 0, .int .i64 0] 45 (0, 0)) ∧ Fr No w W) ?_ ?_
    · exact ⟨blk_new _ _, blk_alloc BK2.out _, HF1.out.alloc _⟩
    · clear k0 k1 f0 f1 l0 l1 HF1 BK2
      rintro W ⟨b1, b2, hF⟩
      obtain ⟨r1, -⟩ := Fr.rules (S := No) b1 (fun s => s)
      obtain ⟨r2, q2⟩ := Fr.rules (S := No) b2 (fun s => s)
      have HF := Lib.hid hF
      clear hF b1 b2
      have h0 := Fr.refl No W
      have h1 := (Fr.refl No W).drew
      go_region_with (first | (go_at_call 103; refine (HR.out _).mono ?_; rintro e w2 ⟨rfl, hf2⟩; have h2 := Fr.no (by assumption) hf2; clear hf2) | (go_at_call 116; refine (HD.out _).mono ?_; rintro e w3 ⟨rfl, hf3⟩; have h3 := Fr.no (by assumption) hf3; clear hf3))
      all_goals
        go_wp2_with fail
        refine bodyPost_ret (v := .tuple #[.agg #[.int .i64 tf, .int .i64 tp, .int .i64 uf, .int .i64 up], .int .i64 n]) (by simp [results, Tryz.results90, go_sem, h3, r2]) rfl (HE.out _ _ ⟨rfl, ?_⟩)
        exact ((((HF.out.no h3).setCell (.inr (by simp; omega)) _).setCell (.inr (by simp; omega)) _).setCell (.inr (by simp; omega)) _).setCell (.inr (by simp; omega)) _
end Go.Proofs.YtfkbjfbbigbacaaGreatDoor.L
