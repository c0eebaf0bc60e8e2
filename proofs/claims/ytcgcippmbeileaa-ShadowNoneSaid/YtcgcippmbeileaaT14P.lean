/- Contracts, walked by program over the engine's laws. -/
import Derived.Test.YtcgcippmbeileaaProg
import Derived.Test.YtcgcippmbeileaaT13
namespace Go.Proofs.Ytcgcippmbeileaa.L
open Go.RowKit

def deAct22 : List Value → Act22
  | [.int _ a0, .int _ a1, .int _ a2, .int _ a3, .int _ a4, .int _ a5, .int _ a6, .int _ a7] => ⟨a0, ⟨a1, ⟨a2, a3⟩, a4, ⟨a5, a6⟩, a7⟩⟩
  | _ => ⟨0, ⟨0, ⟨0, 0⟩, 0, ⟨0, 0⟩, 0⟩⟩
def wfAct22 (x : Act22) : Prop := (Lit.int .u32 x.addr).wf = true ∧ (Lit.int .u64 x.x.wr).wf = true ∧ (Lit.int .i64 x.x.ws.f).wf = true ∧ (Lit.int .i64 x.x.ws.pc).wf = true ∧ (Lit.int .u64 x.x.rd).wf = true ∧ (Lit.int .i64 x.x.rs.f).wf = true ∧ (Lit.int .i64 x.x.rs.pc).wf = true ∧ (Lit.int .i64 x.x.vec).wf = true ∧ True
theorem deAct22_ok (cs : List Value) (h : cksOk [.int .u32, .int .u64, .int .i64, .int .i64, .int .u64, .int .i64, .int .i64, .int .i64] cs) : enAct22 (deAct22 cs) = cs ∧ wfAct22 (deAct22 cs) := by
  have hl := cksOk_length h
  match cs, hl, h with
  | [c0, c1, c2, c3, c4, c5, c6, c7], _, ⟨⟨_, h0, w0⟩, ⟨_, h1, w1⟩, ⟨_, h2, w2⟩, ⟨_, h3, w3⟩, ⟨_, h4, w4⟩, ⟨_, h5, w5⟩, ⟨_, h6, w6⟩, ⟨_, h7, w7⟩, _⟩ =>
    subst h0 h1 h2 h3 h4 h5 h6 h7
    exact ⟨rfl, w0, w1, w2, w3, w4, w5, w6, w7, trivial⟩
theorem flatAct22 {v : Value} (h : cksOk [.int .u32, .int .u64, .int .i64, .int .i64, .int .u64, .int .i64, .int .i64, .int .i64] v.cells.toList) : ∃ x : Act22, v = x.v ∧ wfAct22 x := by
  have hl := cksOk_length h
  cases v with
  | agg a => exact ⟨deAct22 a.toList, by have := (deAct22_ok _ h).1; have h2 := congrArg List.toArray this; exact congrArg Value.agg (h2.symm), (deAct22_ok _ h).2⟩
  | _ => simp [Value.cells] at hl
theorem wf_act22 {x : Act22} (h : wfAct22 x) : (0 ≤ x.addr ∧ x.addr ≤ 4294967295) ∧ (0 ≤ x.x.wr ∧ x.x.wr ≤ 18446744073709551615) ∧ (0 ≤ x.x.rd ∧ x.x.rd ≤ 18446744073709551615) := by
  obtain ⟨h1, h2, -, -, h3, -⟩ := h
  simp [Lit.wf, IntKind.min, IntKind.max] at h1 h2 h3
  simp only [IntKind.bits, IntKind.signed] at h1 h2 h3
  simp at h1 h2 h3
  omega
/-- What the acts lay that may be. -/
def layA (L : List Cell22) (c : Act22) : List Cell22 := if Shade.ok c.x = true then layL L c.addr c.x else L
def lays (l : List Act22) : List Cell22 := l.foldl layA []
theorem lays_snoc {l : List Act22} {k : Nat} {y : Act22} (h : l[k]? = some y) : lays (l.take (k + 1)) = layA (lays (l.take k)) y := by unfold lays; rw [tk_snoc h, List.foldl_append]; rfl
theorem layA_rise {L : List Cell22} {c : Act22} (h : Rise22 L) : Rise22 (layA L c) := by
  unfold layA; split
  · exact layL_rise h
  · exact h
theorem lays_rise : ∀ (l : List Act22) {L : List Cell22}, Rise22 L → Rise22 (l.foldl layA L)
  | [], _, h => h
  | _ :: l, _, h => lays_rise l (layA_rise h)
theorem rise_lays (l : List Act22) : Rise22 (lays l) := lays_rise l .nil
theorem lays_from : ∀ (l : List Act22) {L : List Cell22} {c : Cell22}, Rise22 L → c ∈ l.foldl layA L → c ∈ L ∨ ∃ y ∈ l, y.addr = c.addr ∧ Shade.ok y.x = true
  | [], _, _, _, h => .inl h
  | z :: l, L, c, hr, h => by
    rcases lays_from l (layA_rise hr) h with h | ⟨y, hy, h⟩
    · unfold layA at h
      split at h
      · rename_i e
        rcases (layL_mem hr).1 h with ⟨-, h⟩ | rfl
        · exact .inl h
        · exact .inr ⟨z, .head _, rfl, e⟩
      · exact .inl h
    · exact .inr ⟨y, .tail _ hy, h⟩
theorem Rel22.act {k : Nat} {L : List Cell22} {V V' : VT22} {a : Int} {x was : Shade} (r : Rel22 k L V) (h : if Shade.ok x = true then (LayR V a x V' ∧ was = atS V a) else (V' = V ∧ was = zSh)) (ha : 0 ≤ a ∧ a ≤ 4294967295) : Rel22 (k + 1) (layA L ⟨a, x⟩) V' := by
  unfold layA
  by_cases e : Shade.ok x = true
  · rw [if_pos e] at h ⊢; exact r.lay h.1 ha
  · rw [if_neg e] at h ⊢; rw [h.1]; exact r.mono
theorem atL_act {L : List Cell22} {z : Act22} {a : Int} (h : Rise22 L) : atL (layA L z) a = if z.addr = a ∧ Shade.ok z.x = true then z.x else atL L a := by
  unfold layA
  by_cases e : Shade.ok z.x = true
  · rw [if_pos e, atL_lay h]
    by_cases q : z.addr = a
    · rw [if_pos q.symm, if_pos ⟨q, e⟩]
    · rw [if_neg (fun h => q h.symm), if_neg (fun h => q h.1)]
  · rw [if_neg e, if_neg (fun h => e h.2)]
def FInv (l : List Act22) (n : Int) (kk : Nat) (fd : Bool) : Prop := fd = true ↔ ∃ y ∈ l.take kk, y.addr / 4096 = n ∧ Shade.ok y.x = true
section
variable {l : List Act22} {n : Int} {kk : Nat} {fd : Bool} {y : Act22}
theorem fi_0 : FInv l n 0 false := by unfold FInv; simp
theorem fi_t (h : FInv l n kk fd) (e : fd = true) : FInv l n (kk + 1) true := by
  obtain ⟨y, hy, h2⟩ := h.1 e
  exact ⟨fun _ => ⟨y, List.mem_of_mem_take (i := kk) (by rw [List.take_take]; rw [Nat.min_eq_left (by omega)]; exact hy), h2⟩, fun _ => rfl⟩
theorem fi_n (h : FInv l n kk fd) (e : fd = false) (hy : l[kk]? = some y) (hn : ¬ y.addr / 4096 = n) : FInv l n (kk + 1) false := by
  refine ⟨fun q => (by cases q), fun ⟨z, hz, h2⟩ => ?_⟩
  rw [tk_snoc hy] at hz
  rcases List.mem_append.1 hz with hz | hz
  · have := h.2 ⟨z, hz, h2⟩; rw [e] at this; cases this
  · simp only [List.mem_singleton] at hz; subst hz; exact absurd h2.1 hn
theorem fi_y (h : FInv l n kk fd) (e : fd = false) (hy : l[kk]? = some y) (hn : y.addr / 4096 = n) : FInv l n (kk + 1) (Shade.ok y.x) := by
  refine ⟨fun q => ⟨y, by rw [tk_snoc hy]; simp, hn, q⟩, fun ⟨z, hz, h2⟩ => ?_⟩
  rw [tk_snoc hy] at hz
  rcases List.mem_append.1 hz with hz | hz
  · have := h.2 ⟨z, hz, h2⟩; rw [e] at this; cases this
  · simp only [List.mem_singleton] at hz; subst hz; exact h2.2
end
theorem pw_lt {l : List Int} {i j : Nat} {x y : Int} (h : l.Pairwise fun x y => x < y) (hx : l[i]? = some x) (hy : l[j]? = some y) (hij : i < j) : x < y := by
  obtain ⟨hi, rfl⟩ := List.getElem?_eq_some_iff.1 hx
  obtain ⟨hj, rfl⟩ := List.getElem?_eq_some_iff.1 hy
  exact List.pairwise_iff_getElem.1 h i j hi hj hij
def TInv (ks : List Int) (n : Int) (j : Nat) (th : Bool) : Prop := th = true ↔ n ∈ ks.take j
theorem ti_0 {ks : List Int} {n : Int} : TInv ks n 0 false := by unfold TInv; simp
theorem ti_t {ks : List Int} {n : Int} {j : Nat} {th : Bool} {z : Int} (h : TInv ks n j th) (hz : ks[j]? = some z) (e : th = true) : TInv ks n (j + 1) true := ⟨fun _ => by rw [tk_snoc hz]; exact List.mem_append.2 (.inl (h.1 e)), fun _ => rfl⟩
theorem ti_n {ks : List Int} {n : Int} {j : Nat} {th : Bool} {z : Int} (h : TInv ks n j th) (hz : ks[j]? = some z) (e : th = false) : TInv ks n (j + 1) (z == n) := by
  unfold TInv at h ⊢
  rw [tk_snoc hz, List.mem_append, ← h, e]
  constructor
  · intro q; exact .inr (by rw [eq_of_beq q]; simp)
  · rintro (q | q)
    · cases q
    · simp only [List.mem_singleton] at q; subst q; simp
theorem act_keep {L : List Cell22} {z : Act22} {a : Int} (hr : Rise22 L) (h : ∃ c ∈ L, c.addr = a) : ∃ c ∈ layA L z, c.addr = a := by
  obtain ⟨c, hc, e⟩ := h
  unfold layA; split
  · by_cases q : c.addr = z.addr
    · exact ⟨⟨z.addr, z.x⟩, (layL_mem hr).2 (.inr rfl), by rw [← e, q]⟩
    · exact ⟨c, (layL_mem hr).2 (.inl ⟨q, hc⟩), e⟩
  · exact ⟨c, hc, e⟩
theorem acts_keep : ∀ (l : List Act22) {L : List Cell22} {a : Int}, Rise22 L → (∃ c ∈ L, c.addr = a) → ∃ c ∈ l.foldl layA L, c.addr = a
  | [], _, _, _, h => h
  | _ :: l, _, _, hr, h => acts_keep l (layA_rise hr) (act_keep hr h)
theorem act_in {l : List Act22} {i : Nat} {y : Act22} (hy : l[i]? = some y) (ho : Shade.ok y.x = true) : ∃ c ∈ lays l, c.addr / 4096 = y.addr / 4096 := by
  have e : lays l = (l.drop (i + 1)).foldl layA (lays (l.take (i + 1))) := by unfold lays; rw [← List.foldl_append, List.take_append_drop]
  rw [e, lays_snoc hy]
  have hr : Rise22 (lays (l.take i)) := lays_rise _ .nil
  obtain ⟨c, hc, q⟩ := acts_keep (l.drop (i + 1)) (L := layA (lays (l.take i)) y) (layA_rise hr) (a := y.addr) (by unfold layA; rw [if_pos ho]; exact ⟨⟨y.addr, y.x⟩, (layL_mem hr).2 (.inr rfl), rfl⟩)
  exact ⟨c, hc, by rw [q]⟩

end Go.Proofs.Ytcgcippmbeileaa.L
