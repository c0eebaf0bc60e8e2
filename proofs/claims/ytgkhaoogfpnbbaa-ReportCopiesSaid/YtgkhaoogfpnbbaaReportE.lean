/- Contracts of package report: Of. -/
import Derived.Test.YtgkhaoogfpnbbaaReportD
namespace Go.Proofs.Ytgkhaoogfpnbbaa.L
open Go.RowKit
attribute [local go_sem ↓] append_K

theorem append_flag_own (w : World) (base : Nat) (hb : base ≤ w.heap.size) (v : Value) (n : Nat) (xs : List Value) (hown : w.ownsRow base 43 10 v n xs) (hn : n < 1000000)
    (g : Nat) (f : Flag) (hg : w.heap[g]? = some (.cells f.cells 43 (0, 0))) :
    ∃ v' w', (appendK #[22, 22] 22 #[v, .slice (some ⟨g, 0, none⟩) 1 1]).run Try.prog w = .ok v' w' ∧ w'.ownsRow base 43 10 v' (n + 1) (xs ++ f.cells.toList) ∧ w.grownBy w' v.ownBlock ∧
      (v'.ownBlock = v.ownBlock ∨ v'.ownBlock = some w.heap.size) := by
  obtain ⟨i0, hi, hz0, hz1, hz2⟩ := info_parts (P := Try.prog) (e := 43) (z := .agg #[.int .i64 0, .int .u32 0, .int .i64 0, .int .i64 0, .int .i64 0, .int .i64 0, .int .i64 0, .int .i64 0, .int .i64 0, .int .i64 0]) (size := 10) (bytes := 80) (by kernel_rfl)
  have hadd : ∀ j, (⟨g, 0, none⟩ : Addr).add j = ⟨g, j, none⟩ := fun j => by unfold Addr.add; split <;> simp_all
  have hnews : ∀ j u, f.cells.toList[j]? = some u → w.cell? ((⟨g, 0, none⟩ : Addr).add j) = some u := fun j u hj => by rw [hadd, blk_cell hg]; simpa using hj
  have h1 : ∀ u ∈ f.cells.toList, u.oneCell' = true := fun u hu => by
    simp [Flag.cells] at hu
    rcases hu with rfl | rfl | rfl | rfl | rfl | rfl | rfl | rfl | rfl | rfl <;> rfl
  obtain ⟨v', w', hrun, r1, r2, _, r4⟩ := run_append_own_at (P := Try.prog) w base 22 22 _ i0 _ 10 80 Try.underlying22 hi hz0 hz1 hz2 rfl (by decide) v n xs hown ⟨g, 0, none⟩ 1 1 f.cells.toList (by rfl) hnews h1 (by simp only [maxLen]; omega) (by omega) hb
  exact ⟨v', w', hrun, r1, r2, r4⟩

def Tab.runs (T : Tab) : List Flag → Tab
  | [] => T
  | f :: l => (T.come f).runs l
def fine (l : List Flag) : Bool := l.all Flag.ok
def keptOf (T : Tab) : List Flag → List Flag
  | [] => []
  | f :: l => if T.kept f = true then f :: keptOf (T.come f) l else keptOf (T.come f) l
theorem runs_snoc (T : Tab) (l : List Flag) (f : Flag) : T.runs (l ++ [f]) = (T.runs l).come f := by
  induction l generalizing T with
  | nil => rfl
  | cons x l ih => exact ih _
theorem keptOf_snoc (T : Tab) (l : List Flag) (f : Flag) : keptOf T (l ++ [f]) = keptOf T l ++ (if (T.runs l).kept f = true then [f] else []) := by
  induction l generalizing T with
  | nil => cases h : T.kept f <;> simp [keptOf, Tab.runs, h]
  | cons x l ih =>
    show keptOf T (x :: (l ++ [f])) = _
    unfold keptOf
    rw [ih]
    show _ = _ ++ (if ((T.come x).runs l).kept f = true then [f] else [])
    split <;> simp
theorem come_l (T : Tab) (f : Flag) : (T.come f).l = T.l ++ (if T.kept f = true then [f] else []) := by
  unfold Tab.come Tab.kept Tab.take
  cases f.ok
  · simp
  · by_cases h1 : came T.m (Pair.of f.e.s f.l.s) = 0
    · by_cases h2 : T.most ≤ T.l.length <;> simp [h1, h2]
    · simp [h1]
theorem runs_l (T : Tab) (l : List Flag) : (T.runs l).l = T.l ++ keptOf T l := by
  induction l generalizing T with
  | nil => simp [Tab.runs, keptOf]
  | cons x l ih =>
    show ((T.come x).runs l).l = _
    rw [ih, come_l]
    show _ = _ ++ (if T.kept x = true then x :: keptOf (T.come x) l else keptOf (T.come x) l)
    split <;> simp
theorem Tab.Fine.runs {T : Tab} {n : Nat} (h : T.Fine n) (l : List Flag) : (T.runs l).Fine (n + l.length) := by
  induction l generalizing T n with
  | nil => exact h
  | cons x l ih =>
    have := ih (h.come x)
    rw [show n + (x :: l).length = n + 1 + l.length from by simp; omega]
    exact this
theorem Tab.Fine.start (most : Int) : Tab.Fine ⟨most, 0, [], []⟩ 0 := ⟨fun _ => by simp [L.came, look], fun _ => by simp [L.came, look], Int.le_refl _, Int.le_refl _, Nat.le_refl _⟩

/-- A flag as it lies in a row. -/
def enFlag (f : Flag) : List Value := f.cells.toList

theorem flag_cells {w : World} {b off k : Nat} {l : List Flag} {x : Flag} (h : ∀ (i : Nat) (x : Flag), l[i]? = some x → ∀ (j : Nat) (v : Value), (enFlag x)[j]? = some v → w.cell? ⟨b, off + (i * 10 + j), none⟩ = some v) (hx : l[k]? = some x) :
    w.cell? ⟨b, off + k * 10, none⟩ = some (.int .i64 x.at_) ∧ w.cell? ⟨b, off + k * 10 + 1, none⟩ = some (.int .u32 x.addr) ∧ w.cell? ⟨b, off + k * 10 + 2, none⟩ = some (.int .i64 x.e.g) ∧ w.cell? ⟨b, off + k * 10 + 3, none⟩ = some (.int .i64 x.e.s.f) ∧ w.cell? ⟨b, off + k * 10 + 4, none⟩ = some (.int .i64 x.e.s.pc) ∧ w.cell? ⟨b, off + k * 10 + 5, none⟩ = some (.int .i64 x.e.k) ∧
      w.cell? ⟨b, off + k * 10 + 6, none⟩ = some (.int .i64 x.l.g) ∧ w.cell? ⟨b, off + k * 10 + 7, none⟩ = some (.int .i64 x.l.s.f) ∧ w.cell? ⟨b, off + k * 10 + 8, none⟩ = some (.int .i64 x.l.s.pc) ∧ w.cell? ⟨b, off + k * 10 + 9, none⟩ = some (.int .i64 x.l.k) :=
  ⟨h k x hx 0 _ rfl, h k x hx 1 _ rfl, h k x hx 2 _ rfl, h k x hx 3 _ rfl, h k x hx 4 _ rfl, h k x hx 5 _ rfl, h k x hx 6 _ rfl, h k x hx 7 _ rfl, h k x hx 8 _ rfl, h k x hx 9 _ rfl⟩

section
variable {w : World} {base tb eb t p b : Nat} {v : Value} {T : Tab} {g : Bool}
theorem OX.off (h : OX w base tb eb t p b v T g) {base' : Nat} {vo : Value} {n : Nat} {xs : List Value} (ho : w.ownsRow base' 43 10 vo n xs) {k : Nat} (hk : vo.ownBlock = some k) : k ≠ t ∧ k ≠ p ∧ k ≠ b ∧ k ≠ tb ∧ k ≠ eb := by
  obtain ⟨-, cur, h0⟩ := own_block ho hk
  have h1 := h.tcell
  have h2 := h.ecell
  have h3 := h.tx.cell
  have h4 := h.tx.px.cell
  obtain ⟨es, clock, h5, _⟩ := h.tx.px.holds
  refine ⟨fun e => ?_, fun e => ?_, fun e => ?_, fun e => ?_, fun e => ?_⟩
  · rw [← e, h0] at h3; cases h3
  · rw [← e, h0] at h4; cases h4
  · rw [← e, h0] at h5; cases h5
  · rw [← e, h0] at h1; cases h1
  · rw [← e, h0] at h2; cases h2
end

theorem take_snoc {α : Type} {l : List α} {k : Nat} {x : α} (h : l[k]? = some x) : l.take (k + 1) = l.take k ++ [x] := by rw [List.take_add_one, h]; rfl
theorem fine_snoc (l : List Flag) (x : Flag) : fine (l ++ [x]) = (fine l && x.ok) := by simp [fine]
theorem flagCells_len (T : Tab) (l : List Flag) : (keptOf T l).length ≤ l.length := by
  induction l generalizing T with
  | nil => exact Nat.le_refl _
  | cons x l ih =>
    have := ih (T.come x)
    unfold keptOf
    split
    · simp; omega
    · simp; omega

set_option maxRecDepth 100000 in
set_option maxHeartbeats 1000000 in
theorem sifted_any (W0 w : World) (tb eb t p b : Nat) (v : Value) (T : Tab) (g : Bool) (h : OX w W0.heap.size tb eb t p b v T g) (h0 : Fr No W0 w) (ht : W0.heap.size ≤ t) (hb : W0.heap.size ≤ b) (he : W0.heap.size ≤ eb)
    (A : Option Addr) (len cap : Nat) (l : List Flag) (hl : l.length = len) (hlen : len ≤ 500) (hr : RowAt W0 A 10 enFlag l) (hT : T.Fine 0) :
    Calls Try.prog 24 #[.slice A len cap, .func (.func 25) #[] #[.pointer (some ⟨tb, 0, none⟩), .pointer (some ⟨eb, 0, none⟩)]] w fun e w' =>
      ∃ vo v', e = .returned vo ∧ w'.ownsRow w.heap.size 43 10 vo (keptOf T l).length (flagCells (keptOf T l)) ∧ OX w' W0.heap.size tb eb t p b v' (T.runs l) (g && fine l) ∧ Fr (fun k => k = t ∨ k = b ∨ k = eb) w w' := by
  have HL := Lib.hid hl
  have HR := Lib.hid hr
  have HX := Lib.hid h
  have H0 := Lib.hid h0
  have HT := Lib.hid hT
  have HS := Lib.hid (And.intro ht (And.intro hb he))
  clear h hl hr h0 hT ht hb he
  go_enter Try.func24, Try.ntmps24
  go_wp2_with fail
  go_loopw [4, 9] (fun o i wr => ∃ (k : Nat) (v' : Value), k ≤ len ∧ i = .int .i64 k ∧ Hid (OX wr W0.heap.size tb eb t p b v' (T.runs (l.take k)) (g && fine (l.take k))) ∧ Hid (wr.ownsRow w.heap.size 43 10 o (keptOf T (l.take k)).length (flagCells (keptOf T (l.take k)))) ∧ Hid (∀ j, v'.ownBlock = some j → o.ownBlock ≠ some j) ∧ Hid (Fr (fun k => k = t ∨ k = b ∨ k = eb) w wr)) (fun o i _ => len - (intOf i).toNat)
  case atStart =>
    exact ⟨0, v, Nat.zero_le _, rfl, Lib.hid (by simpa [Tab.runs, fine] using HX.out), Lib.hid (World.ownsRow_nil _ _ _ _), Lib.hid (fun j _ => by simp [Value.ownBlock]), Lib.hid (Fr.refl _ _)⟩
  case round =>
    obtain ⟨k, v1, hk, rfl, HX1, HO1, HV1, HF1⟩ := hrel
    clear HX
    by_cases hlt : k < len
    · obtain ⟨x, hx⟩ : ∃ x, l[k]? = some x := ⟨_, List.getElem?_eq_getElem (by rw [HL.out]; exact hlt)⟩
      have HTK := Lib.hid (take_snoc hx)
      have hW : Fr No W0 wr := H0.out.trans HF1.out (T := No) (fun _ _ s => s) (fun i hi s => by obtain ⟨a1, a2, a3⟩ := HS.out; rcases s with rfl | rfl | rfl <;> omega)
      rcases HR.out.fr hW.below with e0 | ⟨b0, off, rfl, hb0, hcell⟩
      · subst e0; cases hx
      obtain ⟨c0, c1, c2, c3, c4, c5, c6, c7, c8, c9⟩ := flag_cells hcell hx
      have HC : Hid (∀ w', OX w' W0.heap.size tb eb t p b v1 (T.runs (l.take k)) (g && fine (l.take k)) → W0.heap.size ≤ w'.heap.size → Calls Try.prog 25 #[x.v, .pointer (some ⟨tb, 0, none⟩), .pointer (some ⟨eb, 0, none⟩)] w' (CloEnd w' W0.heap.size tb eb t p b v1 (T.runs (l.take k)) (g && fine (l.take k)) x)) :=
        Lib.hid (fun w' h' hs => clo_any w' _ tb eb t p b v1 _ _ h' x (0 + (l.take k).length) (HT.out.runs _) (by simp; omega) hs)
      have hK : ∀ w : World, (w.alloc (.cells x.cells 43)).heap[w.heap.size]? = some (.cells x.cells 43 (0, 0)) := fun w => blk_new w _
      have HK := Lib.hid hK
      have HWs := Lib.hid hW.size
      clear hx hcell hW hK
      unfold Flag.v Flag.cells at HC
      go_wp2_with fail
      refine (HC.out _ (HX1.out.no ((Fr.refl No wr).alloc _)) (by have := HWs.out; simp; omega)).mono ?_
      rintro e w2 ⟨v2, rfl, hx2, hv2, hf2⟩
      have HX2 := Lib.hid hx2
      have hf2' : Fr (fun k => k = t ∨ k = b ∨ k = eb) wr w2 := Fr.trans ((Fr.refl No wr).alloc _) hf2 (fun _ _ s => s.elim) (fun _ _ s => s)
      have hO2 : w2.ownsRow w.heap.size 43 10 u4 (keptOf T (l.take k)).length (flagCells (keptOf T (l.take k))) := own_fr HO1.out hf2' (fun j hj s => by
        obtain ⟨n1, n2, n3, n4, n5⟩ := HX1.out.off HO1.out hj
        rcases s with s | s | s
        · exact n1 s
        · exact n3 s
        · exact n5 s)
      have HV2 : Hid (∀ j, v2.ownBlock = some j → u4.ownBlock ≠ some j) := Lib.hid (fun j hj e => by
        rcases hv2 j hj with h1 | h1
        · exact HV1.out j h1 e
        · have := (World.ownsRow.lt HO1.out j e).2
          simp at h1
          omega)
      have HK2 := Lib.hid (hf2.at (HK.out wr) (fun s => by
        have h1 := HX1.out.tx.cell
        have h2 := HX1.out.tx.px.lt.2
        have h3 := HX1.out.ecell
        have := lt_of_block h1
        have := lt_of_block h3
        rcases s with s | s | s <;> omega))
      have HO2 := Lib.hid hO2
      have HF2 := Lib.hid hf2'
      have hs2 := hf2'.size
      have hs3 := HF1.out.size
      obtain ⟨k2, f2, l2⟩ := blk_all HK2.out
      obtain ⟨v3, w3, hrun, r1, r2, r4⟩ := append_flag_own (w2.alloc (.cells x.cells 43)) w.heap.size (by simp; omega) u4 _ _ (hO2.alloc _) (by have := flagCells_len T (l.take k); simp at this; omega) w2.heap.size x (blk_new _ _)
      have hFG : Fr (fun j => u4.ownBlock = some j) w2 w3 := Fr.of_grown ((Fr.refl _ w2).alloc _) r2 (fun j h => .inl h)
      have HE : Hid (OX w3 W0.heap.size tb eb t p b v2 ((T.runs (l.take k)).come x) (g && fine (l.take k) && x.ok) ∧ (∀ j, v2.ownBlock = some j → v3.ownBlock ≠ some j) ∧ Fr (fun k => k = t ∨ k = b ∨ k = eb) w w3) := Lib.hid (by
        refine ⟨hx2.fr hFG (fun e => (hx2.off hO2 e).1 rfl) (fun e => (hx2.off hO2 e).2.1 rfl) (fun e => (hx2.off hO2 e).2.2.1 rfl) HV2.out (fun e => (hx2.off hO2 e).2.2.2.1 rfl) (fun e => (hx2.off hO2 e).2.2.2.2 rfl), fun j hj e => ?_, (HF1.out.to hf2' (fun _ _ s => s)).trans hFG (fun _ _ s => s) (fun i hi s => by have := (own_block hO2 s).1; omega)⟩
        rcases r4 with r4 | r4
        · rw [r4] at e; exact HV2.out j hj e
        · rw [r4] at e
          have := (World.ownsRow.lt hx2.tx.own j hj).2
          simp at e
          omega)
      have HR1 := Lib.hid r1
      clear hx2 hf2 hf2' hv2 hO2 r1 r2 r4 hFG c0 c1 c2 c3 c4 c5 c6 c7 c8 c9 HC HK HK2
      unfold Flag.cells at hrun k2
      cases hkp : (T.runs (l.take k)).kept x
      · go_wp2_with fail
        go_roundw
        case rel =>
          refine ⟨k + 1, v2, by omega, by go_num, Lib.hid ?_, Lib.hid ?_, HV2, Lib.hid (HF1.out.to HF2.out (fun _ _ s => s))⟩
          · rw [HTK.out, runs_snoc, fine_snoc, ← Bool.and_assoc]; exact HX2.out
          · rw [HTK.out, keptOf_snoc, hkp]; simpa using HO2.out
        case measure => simp [intOf]; omega
      · go_wp2_with fail
        go_roundw
        case rel =>
          refine ⟨k + 1, v2, by omega, by go_num, Lib.hid ?_, Lib.hid ?_, Lib.hid HE.out.2.1, Lib.hid HE.out.2.2⟩
          · rw [HTK.out, runs_snoc, fine_snoc, ← Bool.and_assoc]; exact HE.out.1
          · rw [HTK.out, keptOf_snoc, hkp]
            have := HR1.out
            simpa [flagCells_snoc] using this
        case measure => simp [intOf]; omega
    · have : k = len := by omega
      subst this
      go_wp2_with fail
      go_ret
      rw [show l.take k = l from by rw [← HL.out]; exact List.take_length] at HX1 HO1
      exact ⟨u4, v1, rfl, HO1.out, HX1.out, HF1.out⟩
end Go.Proofs.Ytgkhaoogfpnbbaa.L
