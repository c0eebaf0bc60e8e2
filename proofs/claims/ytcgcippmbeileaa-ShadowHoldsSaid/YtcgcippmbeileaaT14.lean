/- Contracts, walked by program over the engine's laws. -/
import Derived.Test.YtcgcippmbeileaaProg
import Derived.Test.YtcgcippmbeileaaT13
namespace Go.Proofs.Ytcgcippmbeileaa.L
open Go.RowKit

def deAct22 : List Value → Act22
  | [.int _ a0, .int _ a1, .int _ a2, .int _ a3, .int _ a4, .int _ a5, .int _ a6, .int _ a7] => ⟨a0, ⟨a1, ⟨a2, a3⟩, a4, ⟨a5, a6⟩, a7⟩⟩
  | _ => ⟨0, ⟨0, ⟨0, 0⟩, 0, ⟨0, 0⟩, 0⟩⟩
def wfAct22 (x : Act22) : Prop := (Lit.int .u32 x.addr).wf = true ∧ (Lit.int .u64 x.x.wr).wf = true ∧ (Lit.int .i64 x.x.ws.f).wf = true ∧ (Lit.int .i64 x.x.ws.pc).wf = true ∧ (Lit.int .u64 x.x.rd).wf = true ∧ (Lit.int .i64 x.x.rs.f).wf = true ∧ (Lit.int .i64 x.x.rs.pc).wf = true ∧ (Lit.int .i64 x.x.vec).wf = true ∧ True
theorem deAct22_ok (cs : List Value) (h : cksOk [.int .u32, .int .u64, .int .i64, .int .i64, .int .u64, .int .i64, .int .i64, .int .i64] cs) : enAct22 (deAct22 cs) = cs ∧ wfAct22 (deAct22 cs) := by
  have hl := cksOk_length h
  match cs, hl, h with
  | [c0, c1, c2, c3, c4, c5, c6, c7], _, ⟨⟨_, h0, w0⟩, ⟨_, h1, w1⟩, ⟨_, h2, w2⟩, ⟨_, h3, w3⟩, ⟨_, h4, w4⟩, ⟨_, h5, w5⟩, ⟨_, h6, w6⟩, ⟨_, h7, w7⟩, _⟩ =>
    subst h0 h1 h2 h3 h4 h5 h6 h7
    exact ⟨rfl, w0, w1, w2, w3, w4, w5, w6, w7, trivial⟩
theorem flatAct22 {v : Value} (h : cksOk [.int .u32, .int .u64, .int .i64, .int .i64, .int .u64, .int .i64, .int .i64, .int .i64] v.cells.toList) : ∃ x : Act22, v = x.v ∧ wfAct22 x := by
  have hl := cksOk_length h
  cases v with
  | agg a => exact ⟨deAct22 a.toList, by have := (deAct22_ok _ h).1; have h2 := congrArg List.toArray this; exact congrArg Value.agg (h2.symm), (deAct22_ok _ h).2⟩
  | _ => simp [Value.cells] at hl
theorem wf_act22 {x : Act22} (h : wfAct22 x) : (0 ≤ x.addr ∧ x.addr ≤ 4294967295) ∧ (0 ≤ x.x.wr ∧ x.x.wr ≤ 18446744073709551615) ∧ (0 ≤ x.x.rd ∧ x.x.rd ≤ 18446744073709551615) := by
  obtain ⟨h1, h2, -, -, h3, -⟩ := h
  simp [Lit.wf, IntKind.min, IntKind.max] at h1 h2 h3
  simp only [IntKind.bits, IntKind.signed] at h1 h2 h3
  simp at h1 h2 h3
  omega
/-- What the acts lay that may be. -/
def layA (L : List Cell22) (c : Act22) : List Cell22 := if Shade.ok c.x = true then layL L c.addr c.x else L
def lays (l : List Act22) : List Cell22 := l.foldl layA []
theorem lays_snoc {l : List Act22} {k : Nat} {y : Act22} (h : l[k]? = some y) : lays (l.take (k + 1)) = layA (lays (l.take k)) y := by unfold lays; rw [tk_snoc h, List.foldl_append]; rfl
theorem layA_rise {L : List Cell22} {c : Act22} (h : Rise22 L) : Rise22 (layA L c) := by
  unfold layA; split
  · exact layL_rise h
  · exact h
theorem lays_rise : ∀ (l : List Act22) {L : List Cell22}, Rise22 L → Rise22 (l.foldl layA L)
  | [], _, h => h
  | _ :: l, _, h => lays_rise l (layA_rise h)
theorem rise_lays (l : List Act22) : Rise22 (lays l) := lays_rise l .nil
theorem lays_from : ∀ (l : List Act22) {L : List Cell22} {c : Cell22}, Rise22 L → c ∈ l.foldl layA L → c ∈ L ∨ ∃ y ∈ l, y.addr = c.addr ∧ Shade.ok y.x = true
  | [], _, _, _, h => .inl h
  | z :: l, L, c, hr, h => by
    rcases lays_from l (layA_rise hr) h with h | ⟨y, hy, h⟩
    · unfold layA at h
      split at h
      · rename_i e
        rcases (layL_mem hr).1 h with ⟨-, h⟩ | rfl
        · exact .inl h
        · exact .inr ⟨z, .head _, rfl, e⟩
      · exact .inl h
    · exact .inr ⟨y, .tail _ hy, h⟩
theorem Rel22.act {k : Nat} {L : List Cell22} {V V' : VT22} {a : Int} {x was : Shade} (r : Rel22 k L V) (h : if Shade.ok x = true then (LayR V a x V' ∧ was = atS V a) else (V' = V ∧ was = zSh)) (ha : 0 ≤ a ∧ a ≤ 4294967295) : Rel22 (k + 1) (layA L ⟨a, x⟩) V' := by
  unfold layA
  by_cases e : Shade.ok x = true
  · rw [if_pos e] at h ⊢; exact r.lay h.1 ha
  · rw [if_neg e] at h ⊢; rw [h.1]; exact r.mono
theorem atL_act {L : List Cell22} {z : Act22} {a : Int} (h : Rise22 L) : atL (layA L z) a = if z.addr = a ∧ Shade.ok z.x = true then z.x else atL L a := by
  unfold layA
  by_cases e : Shade.ok z.x = true
  · rw [if_pos e, atL_lay h]
    by_cases q : z.addr = a
    · rw [if_pos q.symm, if_pos ⟨q, e⟩]
    · rw [if_neg (fun h => q h.symm), if_neg (fun h => q h.1)]
  · rw [if_neg e, if_neg (fun h => e h.2)]
def FInv (l : List Act22) (n : Int) (kk : Nat) (fd : Bool) : Prop := fd = true ↔ ∃ y ∈ l.take kk, y.addr / 4096 = n ∧ Shade.ok y.x = true
section
variable {l : List Act22} {n : Int} {kk : Nat} {fd : Bool} {y : Act22}
theorem fi_0 : FInv l n 0 false := by unfold FInv; simp
theorem fi_t (h : FInv l n kk fd) (e : fd = true) : FInv l n (kk + 1) true := by
  obtain ⟨y, hy, h2⟩ := h.1 e
  exact ⟨fun _ => ⟨y, List.mem_of_mem_take (i := kk) (by rw [List.take_take]; rw [Nat.min_eq_left (by omega)]; exact hy), h2⟩, fun _ => rfl⟩
theorem fi_n (h : FInv l n kk fd) (e : fd = false) (hy : l[kk]? = some y) (hn : ¬ y.addr / 4096 = n) : FInv l n (kk + 1) false := by
  refine ⟨fun q => (by cases q), fun ⟨z, hz, h2⟩ => ?_⟩
  rw [tk_snoc hy] at hz
  rcases List.mem_append.1 hz with hz | hz
  · have := h.2 ⟨z, hz, h2⟩; rw [e] at this; cases this
  · simp only [List.mem_singleton] at hz; subst hz; exact absurd h2.1 hn
theorem fi_y (h : FInv l n kk fd) (e : fd = false) (hy : l[kk]? = some y) (hn : y.addr / 4096 = n) : FInv l n (kk + 1) (Shade.ok y.x) := by
  refine ⟨fun q => ⟨y, by rw [tk_snoc hy]; simp, hn, q⟩, fun ⟨z, hz, h2⟩ => ?_⟩
  rw [tk_snoc hy] at hz
  rcases List.mem_append.1 hz with hz | hz
  · have := h.2 ⟨z, hz, h2⟩; rw [e] at this; cases this
  · simp only [List.mem_singleton] at hz; subst hz; exact h2.2
end
theorem pw_lt {l : List Int} {i j : Nat} {x y : Int} (h : l.Pairwise fun x y => x < y) (hx : l[i]? = some x) (hy : l[j]? = some y) (hij : i < j) : x < y := by
  obtain ⟨hi, rfl⟩ := List.getElem?_eq_some_iff.1 hx
  obtain ⟨hj, rfl⟩ := List.getElem?_eq_some_iff.1 hy
  exact List.pairwise_iff_getElem.1 h i j hi hj hij
def TInv (ks : List Int) (n : Int) (j : Nat) (th : Bool) : Prop := th = true ↔ n ∈ ks.take j
theorem ti_0 {ks : List Int} {n : Int} : TInv ks n 0 false := by unfold TInv; simp
theorem ti_t {ks : List Int} {n : Int} {j : Nat} {th : Bool} {z : Int} (h : TInv ks n j th) (hz : ks[j]? = some z) (e : th = true) : TInv ks n (j + 1) true := ⟨fun _ => by rw [tk_snoc hz]; exact List.mem_append.2 (.inl (h.1 e)), fun _ => rfl⟩
theorem ti_n {ks : List Int} {n : Int} {j : Nat} {th : Bool} {z : Int} (h : TInv ks n j th) (hz : ks[j]? = some z) (e : th = false) : TInv ks n (j + 1) (z == n) := by
  unfold TInv at h ⊢
  rw [tk_snoc hz, List.mem_append, ← h, e]
  constructor
  · intro q; exact .inr (by rw [eq_of_beq q]; simp)
  · rintro (q | q)
    · cases q
    · simp only [List.mem_singleton] at q; subst q; simp
theorem act_keep {L : List Cell22} {z : Act22} {a : Int} (hr : Rise22 L) (h : ∃ c ∈ L, c.addr = a) : ∃ c ∈ layA L z, c.addr = a := by
  obtain ⟨c, hc, e⟩ := h
  unfold layA; split
  · by_cases q : c.addr = z.addr
    · exact ⟨⟨z.addr, z.x⟩, (layL_mem hr).2 (.inr rfl), by rw [← e, q]⟩
    · exact ⟨c, (layL_mem hr).2 (.inl ⟨q, hc⟩), e⟩
  · exact ⟨c, hc, e⟩
theorem acts_keep : ∀ (l : List Act22) {L : List Cell22} {a : Int}, Rise22 L → (∃ c ∈ L, c.addr = a) → ∃ c ∈ l.foldl layA L, c.addr = a
  | [], _, _, _, h => h
  | _ :: l, _, _, hr, h => acts_keep l (layA_rise hr) (act_keep hr h)
theorem act_in {l : List Act22} {i : Nat} {y : Act22} (hy : l[i]? = some y) (ho : Shade.ok y.x = true) : ∃ c ∈ lays l, c.addr / 4096 = y.addr / 4096 := by
  have e : lays l = (l.drop (i + 1)).foldl layA (lays (l.take (i + 1))) := by unfold lays; rw [← List.foldl_append, List.take_append_drop]
  rw [e, lays_snoc hy]
  have hr : Rise22 (lays (l.take i)) := lays_rise _ .nil
  obtain ⟨c, hc, q⟩ := acts_keep (l.drop (i + 1)) (L := layA (lays (l.take i)) y) (layA_rise hr) (a := y.addr) (by unfold layA; rw [if_pos ho]; exact ⟨⟨y.addr, y.x⟩, (layL_mem hr).2 (.inr rfl), rfl⟩)
  exact ⟨c, hc, by rw [q]⟩
set_option maxRecDepth 100000 in
theorem e_holds22 (A_l : Option Addr) (c_l : Nat) (l : List Act22) (w : World) (hr_l : RowAt w A_l 8 enAct22 l) (hc_l : l.length ≤ c_l) (hwf : ∀ x ∈ l, (0 ≤ x.addr ∧ x.addr ≤ 4294967295) ∧ ((0 ≤ x.x.wr ∧ x.x.wr ≤ 18446744073709551615) ∧ (0 ≤ x.x.rd ∧ x.x.rd ≤ 18446744073709551615))) : Calls Try.prog 3 #[Value.slice A_l l.length c_l] w (fun e w' => e = .returned (Value.bool true) ∧ Fr No w w') := by
 have _hu := hc_l; have _hv := hr_l; clear _hu _hv
 have _hu := hwf; clear _hu
 refine enter_E 175 Try.func3 rfl rfl (by kernel_rfl) (L := [(0, Value.slice A_l l.length c_l)]) (by kernel_rfl) ?_
 intro ac hA
 have hW := Ws.start w No
 have hW := hW.arg hr_l
 refine wp_seq ?_
 refine wp_region_lit ?_
 refine st_rd (v := Value.bool false) hA (by kernel_rfl) (by kernel_rfl) (by kernel_rfl) hW.cls (Rd.pure fun _ => by kernel_rfl) ?_; clear hA ac; intro ac hA
 refine wpList_nil ?_
 refine thenN ?_
 refine wp_seq ?_
 refine wp_seq ?_
 refine wp_region_lit ?_
 refine st_rd (v := Value.slice A_l l.length c_l) hA (by kernel_rfl) (by kernel_rfl) (by kernel_rfl) hW.cls (Rd.pure fun _ => by kernel_rfl) ?_; clear hA ac; intro ac hA
 refine st_rd (v := Value.int .i64 ((l.length : Nat) : Int)) hA (by kernel_rfl) (by kernel_rfl) (by kernel_rfl) hW.cls (Rd.pure fun _ => by kernel_rfl) ?_; clear hA ac; intro ac hA
 refine st_rd (v := Value.bool (decide ((((l.length : Nat) : Int) : Int) > (25 : Int)))) hA (by kernel_rfl) (by kernel_rfl) (by kernel_rfl) hW.cls (Rd.pure fun _ => by kernel_rfl) ?_; clear hA ac; intro ac hA
 refine wpList_nil ?_
 refine thenN ?_
 refine wp_cond_split (t := decide ((((l.length : Nat) : Int) : Int) > (25 : Int))) (hA.eval (by kernel_rfl)) (fun h1 => ?_) (fun h1 => ?_)
 · skip
   have h1 := of_decide_eq_true h1
   first
   | (exfalso; clear hA hW; omega)
   | (
     refine wp_seq ?_
     refine wp_region_lit ?_
     refine st hA (by kernel_rfl) (by kernel_rfl) (by kernel_rfl) (Runs.callN (v := Value.bool true) (fun _ => by kernel_rfl) hW (e_works22 w) ?_); clear hA ac hW; intro w2 hW hfw2 ac hA
     refine st_rd (v := Value.bool true) hA (by kernel_rfl) (by kernel_rfl) (by kernel_rfl) hW.cls (Rd.pure fun _ => by kernel_rfl) ?_; clear hA ac; intro ac hA
     refine wpList_nil ?_
     refine thenN ?_
     refine wp_ret ?_
     refine thenR ?_
     refine ret1 (v := Value.bool true) (by rfl) hA (Got.tmp hA (by kernel_rfl) (by kernel_rfl)) ?_
     clear hA
     exact ⟨retv (by rfl), hW.fr⟩)
 · skip
   have h1 := of_decide_eq_false h1
   first
   | (exfalso; clear hA hW; omega)
   | (
     refine wp_skip ?_
     refine thenN ?_
     refine wp_seq ?_
     refine wp_region_lit ?_
     refine st hA (by kernel_rfl) (by kernel_rfl) (by kernel_rfl) (Runs.call (fun _ => by kernel_rfl) (e_snew w) ?_)
     rintro _ w3 ⟨n4, n5, rfl, hu_⟩; refine ⟨_, rfl, ?_⟩; replace hW := hW.made hu_; clear hA ac; intro ac hA
     have hq6 : Rel22 0 ([] : List Cell22) ([] : List (Int × Nat × (Nat → Shade))) := Rel22.start
     refine st_rd (v := Value.pointer (some ⟨n4, 0, none⟩)) hA (by kernel_rfl) (by kernel_rfl) (by kernel_rfl) hW.cls (Rd.pure fun _ => by kernel_rfl) ?_; clear hA ac; intro ac hA
     refine wpList_nil ?_
     refine thenN ?_
     refine wp_seq ?_
     refine wp_seq ?_
     refine wp_region_lit ?_
     refine st_rd (v := Value.int .i64 0) hA (by kernel_rfl) (by kernel_rfl) (by kernel_rfl) hW.cls (Rd.pure fun _ => by kernel_rfl) ?_; clear hA ac; intro ac hA
     refine wpList_nil ?_
     refine thenN ?_
     refine wp_block ?_
     refine wp_loop_m (fun m_ ac_ wl_ => ∃ k : Nat, ∃ V : VT22, m_ = l.length - k ∧ (k ≤ l.length) ∧ (Rel22 k (lays (l.take k)) V) ∧ Fm 175 [] [(0, Value.slice A_l l.length c_l), (3, Value.pointer (some ⟨n4, 0, none⟩)), (4, Value.int .i64 ((k : Nat) : Int))] ac_ ∧ Ws w No [ShR n4 n5 V] [roR A_l 8 enAct22 l] wl_) _ ⟨0, ([] : List (Int × Nat × (Nat → Shade))), rfl, by omega, by exact Rel22.start, hA.sub ⟨⟨by kernel_rfl, by kernel_rfl⟩, ⟨by kernel_rfl, by kernel_rfl⟩, ⟨by kernel_rfl, by kernel_rfl⟩, trivial⟩, (hW.pick [0] (by decide) rfl).pickG [0] rfl⟩ ?_
     clear hA ac hW; rintro m_ ac w7 ⟨k, V, rfl, hk, hR_, hA, hW⟩
     refine wp_seq ?_
     refine wp_seq ?_
     refine wp_region_lit ?_
     refine st_rd (v := Value.int .i64 ((k : Nat) : Int)) hA (by kernel_rfl) (by kernel_rfl) (by kernel_rfl) hW.cls (Rd.pure fun _ => by kernel_rfl) ?_; clear hA ac; intro ac hA
     refine st_rd (v := Value.slice A_l l.length c_l) hA (by kernel_rfl) (by kernel_rfl) (by kernel_rfl) hW.cls (Rd.pure fun _ => by kernel_rfl) ?_; clear hA ac; intro ac hA
     refine st_rd (v := Value.int .i64 ((l.length : Nat) : Int)) hA (by kernel_rfl) (by kernel_rfl) (by kernel_rfl) hW.cls (Rd.pure fun _ => by kernel_rfl) ?_; clear hA ac; intro ac hA
     refine st_rd (v := Value.bool (decide ((((k : Nat) : Int) : Int) < (((l.length : Nat) : Int) : Int)))) hA (by kernel_rfl) (by kernel_rfl) (by kernel_rfl) hW.cls (Rd.pure fun _ => by kernel_rfl) ?_; clear hA ac; intro ac hA
     refine wpList_nil ?_
     refine thenN ?_
     refine wp_cond_split (t := decide ((((k : Nat) : Int) : Int) < (((l.length : Nat) : Int) : Int))) (hA.eval (by kernel_rfl)) (fun h8 => ?_) (fun h8 => ?_)
     · skip
       have h8 := of_decide_eq_true h8
       first
       | (exfalso; clear hA hW; omega)
       | (
         refine wp_skip ?_
         refine thenN ?_
         refine wp_seq ?_
         refine wp_block ?_
         obtain ⟨y9, hy9⟩ : ∃ y, l[k]? = some y := ⟨_, List.getElem?_eq_getElem (by omega)⟩
         obtain ⟨b10, o11, rfl, hbb10⟩ := row_some ((hW).getG 0 rfl) hy9
         refine wp_cut (fun ac_ wl_ => ∃ u0r7_11 : VT22, ∃ u1r7_11 : Shade, ∃ u2r7_11 : Int, (u2r7_11 = argErr (Shade.ok y9.x)) ∧ (if Shade.ok y9.x = true then (LayR V (y9.addr) y9.x u0r7_11 ∧ u1r7_11 = atS V (y9.addr)) else (u0r7_11 = V ∧ u1r7_11 = zSh)) ∧ Fm 175 [] [(0, Value.slice (some ⟨b10, o11, none⟩) l.length c_l), (3, Value.pointer (some ⟨n4, 0, none⟩)), (4, Value.int .i64 ((k : Nat) : Int)), (19, Value.int .i64 ((k : Nat) : Int)), (20, Value.slice (some ⟨b10, o11, none⟩) l.length c_l), (21, Value.int .i64 ((l.length : Nat) : Int)), (22, Value.bool (decide ((((k : Nat) : Int) : Int) < (((l.length : Nat) : Int) : Int))))] ac_ ∧ Ws w No [ShR n4 n5 u0r7_11] [roR (some ⟨b10, o11, none⟩) 8 enAct22 l] wl_) ?_ ?_
         · refine sr_region (m := 12) (C := Ws w No [] [roR (some ⟨b10, o11, none⟩) 8 enAct22 l]) (fun i => [5, 10].contains i) (fun i => [5, 10].contains i) (fun i => [0, 1, 2, 3, 4, 6, 7, 8, 9].contains i) (by kernel_rfl) (by kernel_rfl) (by kernel_rfl) (by kernel_rfl) hW ?_; clear hW; intro w12 hW hfw12 hR; have hC : Ws w No [] [roR (some ⟨b10, o11, none⟩) 8 enAct22 l] w12 := hW.pick [] (by decide) rfl
           refine sr_pure (i := 0) (v := Value.pointer (some ⟨n4, 0, none⟩)) hR (by kernel_rfl) rfl (by kernel_rfl) (by kernel_rfl) (fun _ _ _ h => h.elim) hA (by kernel_rfl) (by kernel_rfl) (by kernel_rfl) (Rd.pure fun _ => by kernel_rfl) ?_; clear hA ac; intro ac hA
           refine sr_pure (i := 1) (v := Value.slice (some ⟨b10, o11, none⟩) l.length c_l) hR (by kernel_rfl) rfl (by kernel_rfl) (by kernel_rfl) (fun _ _ _ h => h.elim) hA (by kernel_rfl) (by kernel_rfl) (by kernel_rfl) (Rd.pure fun _ => by kernel_rfl) ?_; clear hA ac; intro ac hA
           refine sr_pure (i := 2) (v := Value.int .i64 ((k : Nat) : Int)) hR (by kernel_rfl) rfl (by kernel_rfl) (by kernel_rfl) (fun _ _ _ h => h.elim) hA (by kernel_rfl) (by kernel_rfl) (by kernel_rfl) (Rd.pure fun _ => by kernel_rfl) ?_; clear hA ac; intro ac hA
           refine sr_pure (i := 3) (v := Value.pointer (some ⟨b10, o11 + k * 8, none⟩)) hR (by kernel_rfl) rfl (by kernel_rfl) (by kernel_rfl) (fun _ _ _ h => h.elim) hA (by kernel_rfl) (by kernel_rfl) (by kernel_rfl) (Rd.indexAddr (e := 37) (sz := 8) (b := b10) (off := o11) (n := l.length) (c := c_l) (k := k) (by kernel_rfl) (by kernel_rfl) (by first | omega | (simp; done) | (simp; omega)) (fun _ => by kernel_rfl) (fun _ => by kernel_rfl)) ?_; clear hA ac; intro ac hA
           refine sr_pure (i := 4) (v := Value.pointer (some ⟨b10, o11 + k * 8, none⟩)) hR (by kernel_rfl) rfl (by kernel_rfl) (by kernel_rfl) (fun _ _ _ h => h.elim) hA (by kernel_rfl) (by kernel_rfl) (by kernel_rfl) (Rd.pure fun _ => by kernel_rfl) ?_; clear hA ac; intro ac hA
           refine sr_take (i := 5) (v := Value.int .u32 y9.addr) hR (by kernel_rfl) rfl (by kernel_rfl) (by kernel_rfl) (by kernel_rfl) (fun _ _ _ h => h.elim) hA (by kernel_rfl) (by kernel_rfl) (by kernel_rfl) hC (Rd.loadRow (b := b10) (i := o11 + k * 8) (xs := [Value.int .u32 y9.addr]) (by kernel_rfl) (fun _ hw => row_ld ((hw).getG 0 rfl) hy9 (Fr.refl No _) (fun h => h) 0 1 (by kernel_rfl)) (by kernel_rfl)) ?_; clear hA ac; intro ac hA
           refine sr_pure (i := 6) (v := Value.slice (some ⟨b10, o11, none⟩) l.length c_l) hR (by kernel_rfl) rfl (by kernel_rfl) (by kernel_rfl) (fun _ _ _ h => h.elim) hA (by kernel_rfl) (by kernel_rfl) (by kernel_rfl) (Rd.pure fun _ => by kernel_rfl) ?_; clear hA ac; intro ac hA
           refine sr_pure (i := 7) (v := Value.int .i64 ((k : Nat) : Int)) hR (by kernel_rfl) rfl (by kernel_rfl) (by kernel_rfl) (fun _ _ _ h => h.elim) hA (by kernel_rfl) (by kernel_rfl) (by kernel_rfl) (Rd.pure fun _ => by kernel_rfl) ?_; clear hA ac; intro ac hA
           refine sr_pure (i := 8) (v := Value.pointer (some ⟨b10, o11 + k * 8, none⟩)) hR (by kernel_rfl) rfl (by kernel_rfl) (by kernel_rfl) (fun _ _ _ h => h.elim) hA (by kernel_rfl) (by kernel_rfl) (by kernel_rfl) (Rd.indexAddr (e := 37) (sz := 8) (b := b10) (off := o11) (n := l.length) (c := c_l) (k := k) (by kernel_rfl) (by kernel_rfl) (by first | omega | (simp; done) | (simp; omega)) (fun _ => by kernel_rfl) (fun _ => by kernel_rfl)) ?_; clear hA ac; intro ac hA
           refine sr_pure (i := 9) (v := Value.pointer (some ⟨b10, o11 + k * 8 + 1, none⟩)) hR (by kernel_rfl) rfl (by kernel_rfl) (by kernel_rfl) (fun _ _ _ h => h.elim) hA (by kernel_rfl) (by kernel_rfl) (by kernel_rfl) (Rd.pure fun _ => by kernel_rfl) ?_; clear hA ac; intro ac hA
           refine sr_take (i := 10) (v := Value.agg #[Value.int .u64 y9.x.wr, Value.int .i64 y9.x.ws.f, Value.int .i64 y9.x.ws.pc, Value.int .u64 y9.x.rd, Value.int .i64 y9.x.rs.f, Value.int .i64 y9.x.rs.pc, Value.int .i64 y9.x.vec]) hR (by kernel_rfl) rfl (by kernel_rfl) (by kernel_rfl) (by kernel_rfl) (fun _ _ _ h => h.elim) hA (by kernel_rfl) (by kernel_rfl) (by kernel_rfl) hC (Rd.loadRow (b := b10) (i := o11 + k * 8 + 1) (xs := [Value.int .u64 y9.x.wr, Value.int .i64 y9.x.ws.f, Value.int .i64 y9.x.ws.pc, Value.int .u64 y9.x.rd, Value.int .i64 y9.x.rs.f, Value.int .i64 y9.x.rs.pc, Value.int .i64 y9.x.vec]) (by kernel_rfl) (fun _ hw => row_ld ((hw).getG 0 rfl) hy9 (Fr.refl No _) (fun h => h) 1 7 (by kernel_rfl)) (by kernel_rfl)) ?_; clear hA ac; intro ac hA
           refine sr_one (i := 11) (by kernel_rfl) (sr_do rfl hA (by kernel_rfl) (by kernel_rfl) (by kernel_rfl) (Runs.call (fun _ => by kernel_rfl) (e_lay n4 n5 V (y9.addr) y9.x w12 ((hW).get 0 rfl) ((hW).lt _ (List.mem_of_getElem? (i := 0) rfl)) (by first | omega | assumption | exact (hwf _ (List.mem_of_getElem? (by assumption))).1 | exact (hwf _ (List.mem_of_getElem? (by assumption))).2) (by first | omega | assumption | exact (hwf _ (List.mem_of_getElem? (by assumption))).1 | exact (hwf _ (List.mem_of_getElem? (by assumption))).2)) ?_))
           rintro _ w13 ⟨u0r7_11, u1r7_11, u2r7_11, rfl, hr7_11_hE, hr7_11_hL, hu_⟩; refine ⟨_, rfl, ?_⟩; replace hW := hW.upd (H' := [ShR n4 n5 u0r7_11]) 0 rfl hu_ rfl; clear hA ac; intro ac hA
           refine ⟨⟨fun h => absurd h (by decide), fun h => absurd h (by decide)⟩, ?_⟩
           refine sr_done (by kernel_rfl) ?_ _
           exact ⟨u0r7_11, u1r7_11, u2r7_11, hr7_11_hE, hr7_11_hL, hA.sub ⟨⟨by kernel_rfl, by kernel_rfl⟩, ⟨by kernel_rfl, by kernel_rfl⟩, ⟨by kernel_rfl, by kernel_rfl⟩, ⟨by kernel_rfl, by kernel_rfl⟩, ⟨by kernel_rfl, by kernel_rfl⟩, ⟨by kernel_rfl, by kernel_rfl⟩, ⟨by kernel_rfl, by kernel_rfl⟩, trivial⟩, (hW.pick [0] (by decide) rfl).pickG [0] rfl⟩
         clear hA ac hW; rintro ac w14 ⟨u0r7_11, u1r7_11, u2r7_11, hr7_11_hE, hr7_11_hL, hA, hW⟩
         refine blkN ?_
         refine thenN ?_
         refine wp_region_lit ?_
         refine st_rd (v := Value.int .i64 ((k : Nat) : Int)) hA (by kernel_rfl) (by kernel_rfl) (by kernel_rfl) hW.cls (Rd.pure fun _ => by kernel_rfl) ?_; clear hA ac; intro ac hA
         refine st_rd (v := Value.int .i64 ((k + 1 : Nat) : Int)) hA (by kernel_rfl) (by kernel_rfl) (by kernel_rfl) hW.cls (Rd.pureE (v0 := Value.int .i64 (IntKind.i64.wrap ((((k : Nat) : Int) : Int) + 1))) (fun _ => by kernel_rfl) (congrArg (Value.int .i64) ((w_i64 (x := (((k : Nat) : Int) : Int) + 1) (by omega) (by omega)).trans (by omega)))) ?_; clear hA ac; intro ac hA
         refine st_rd (v := Value.int .i64 ((k + 1 : Nat) : Int)) hA (by kernel_rfl) (by kernel_rfl) (by kernel_rfl) hW.cls (Rd.pure fun _ => by kernel_rfl) ?_; clear hA ac; intro ac hA
         refine wpList_nil ?_
         refine thenN ?_
         exact ⟨l.length - (k + 1), by omega, k + 1, u0r7_11, rfl, by omega, by rw [lays_snoc hy9]; exact hR_.act hr7_11_hL (hwf _ (List.mem_of_getElem? hy9)).1, hA.sub ⟨⟨by kernel_rfl, by kernel_rfl⟩, ⟨by kernel_rfl, by kernel_rfl⟩, ⟨by kernel_rfl, by kernel_rfl⟩, trivial⟩, (hW.pick [0] (by decide) rfl).pickG [0] rfl⟩)
     · skip
       have h8 := of_decide_eq_false h8
       first
       | (exfalso; clear hA hW; omega)
       | (
         refine wp_exit ?_
         refine thenX ?_
         refine thenX ?_
         refine blkX ?_
         refine thenN ?_
         refine wp_seq ?_
         rw [List.take_of_length_le (by omega)] at hR_
         have hrl_ := hR_.len; have hrh_ := hR_.hn
         refine wp_region_lit ?_
         refine st_rd (v := Value.pointer (some ⟨n4, 0, none⟩)) hA (by kernel_rfl) (by kernel_rfl) (by kernel_rfl) hW.cls (Rd.pure fun _ => by kernel_rfl) ?_; clear hA ac; intro ac hA
         refine st hA (by kernel_rfl) (by kernel_rfl) (by kernel_rfl) (Runs.call (fun _ => by kernel_rfl) (e_spages n4 n5 V w7 ((hW).get 0 rfl) ((hW).lt _ (List.mem_of_getElem? (i := 0) rfl)) (by first | omega | assumption | exact (hwf _ (List.mem_of_getElem? (by assumption))).1 | exact (hwf _ (List.mem_of_getElem? (by assumption))).2) (by first | omega | assumption | exact (hwf _ (List.mem_of_getElem? (by assumption))).1 | exact (hwf _ (List.mem_of_getElem? (by assumption))).2)) ?_)
         rintro _ w15 ⟨g16, Ao17, co18, rfl, hw15_hp, hw15_hs, hcco18, hu_⟩; refine ⟨_, rfl, ?_⟩; replace hW := hW.made hu_; clear hA ac; intro ac hA
         have hpg_ := hR_.pages hw15_hp hw15_hs
         refine st_rd (v := Value.slice Ao17 (g16).length co18) hA (by kernel_rfl) (by kernel_rfl) (by kernel_rfl) hW.cls (Rd.pure fun _ => by kernel_rfl) ?_; clear hA ac; intro ac hA
         refine wpList_nil ?_
         refine thenN ?_
         refine wp_seq ?_
         refine wp_seq ?_
         have hpl_ := lt_of_nodup hw15_hs (hw15_hp.nodup_iff.2 hR_.nd); have hkl_ : g16.length < 50 := by have h_ := hw15_hp.length_eq; simp only [keys, List.length_map] at h_; rw [vals_len] at h_; omega
         have hpm_ : ∀ n : Int, n ∈ g16 ↔ ∃ c ∈ lays l, c.addr / 4096 = n := fun n => by rw [hw15_hp.mem_iff, mem_keys, hR_.page]
         have hmem_ : ∀ n ∈ g16, ∃ y ∈ l, y.addr / 4096 = n ∧ Shade.ok y.x = true := fun n hn => by obtain ⟨c, hc, q⟩ := (hpm_ n).1 hn; rcases lays_from l .nil hc with h_ | ⟨y, hy, h1, h2⟩; cases h_; exact ⟨y, hy, by rw [h1]; exact q, h2⟩
         refine wp_region_lit ?_
         refine st_rd (v := Value.int .i64 0) hA (by kernel_rfl) (by kernel_rfl) (by kernel_rfl) hW.cls (Rd.pure fun _ => by kernel_rfl) ?_; clear hA ac; intro ac hA
         refine wpList_nil ?_
         refine thenN ?_
         refine wp_block ?_
         refine wp_loop_m (fun m_ ac_ wl_ => ∃ i : Nat, m_ = g16.length - i ∧ (i ≤ g16.length) ∧ Fm 175 [] [(0, Value.slice A_l l.length c_l), (3, Value.pointer (some ⟨n4, 0, none⟩)), (5, Value.slice Ao17 (g16).length co18), (6, Value.int .i64 ((i : Nat) : Int))] ac_ ∧ Ws w No [rowR 35 1 enU4 (Value.slice Ao17 (g16).length co18) g16, ShR n4 n5 V] [roR A_l 8 enAct22 l] wl_) _ ⟨0, rfl, by omega, hA.sub ⟨⟨by kernel_rfl, by kernel_rfl⟩, ⟨by kernel_rfl, by kernel_rfl⟩, ⟨by kernel_rfl, by kernel_rfl⟩, ⟨by kernel_rfl, by kernel_rfl⟩, trivial⟩, (hW.pick [0, 1] (by decide) rfl).pickG [0] rfl⟩ ?_
         clear hA ac hW; rintro m_ ac w20 ⟨i, rfl, hi, hA, hW⟩
         refine wp_seq ?_
         refine wp_seq ?_
         refine wp_region_lit ?_
         refine st_rd (v := Value.int .i64 ((i : Nat) : Int)) hA (by kernel_rfl) (by kernel_rfl) (by kernel_rfl) hW.cls (Rd.pure fun _ => by kernel_rfl) ?_; clear hA ac; intro ac hA
         refine st_rd (v := Value.slice Ao17 (g16).length co18) hA (by kernel_rfl) (by kernel_rfl) (by kernel_rfl) hW.cls (Rd.pure fun _ => by kernel_rfl) ?_; clear hA ac; intro ac hA
         refine st_rd (v := Value.int .i64 (((g16).length : Nat) : Int)) hA (by kernel_rfl) (by kernel_rfl) (by kernel_rfl) hW.cls (Rd.pure fun _ => by kernel_rfl) ?_; clear hA ac; intro ac hA
         refine st_rd (v := Value.bool (decide ((((i : Nat) : Int) : Int) < ((((g16).length : Nat) : Int) : Int)))) hA (by kernel_rfl) (by kernel_rfl) (by kernel_rfl) hW.cls (Rd.pure fun _ => by kernel_rfl) ?_; clear hA ac; intro ac hA
         refine wpList_nil ?_
         refine thenN ?_
         refine wp_cond_split (t := decide ((((i : Nat) : Int) : Int) < ((((g16).length : Nat) : Int) : Int))) (hA.eval (by kernel_rfl)) (fun h21 => ?_) (fun h21 => ?_)
         · skip
           have h21 := of_decide_eq_true h21
           first
           | (exfalso; clear hA hW; omega)
           | (
             refine wp_skip ?_
             refine thenN ?_
             refine wp_seq ?_
             refine wp_block ?_
             refine wp_seq ?_
             obtain ⟨y22, hy22⟩ : ∃ y, g16[i]? = some y := ⟨_, List.getElem?_eq_getElem (by omega)⟩
             obtain ⟨b23, o24, rfl, hbb23⟩ := row_some (rowR_at ((hW).get 0 rfl) elt_U4.len) hy22
             refine wp_region_lit ?_
             refine st_rd (v := Value.bool false) hA (by kernel_rfl) (by kernel_rfl) (by kernel_rfl) hW.cls (Rd.pure fun _ => by kernel_rfl) ?_; clear hA ac; intro ac hA
             refine wpList_nil ?_
             refine thenN ?_
             refine wp_seq ?_
             refine wp_seq ?_
             refine wp_region_lit ?_
             refine st_rd (v := Value.int .i64 0) hA (by kernel_rfl) (by kernel_rfl) (by kernel_rfl) hW.cls (Rd.pure fun _ => by kernel_rfl) ?_; clear hA ac; intro ac hA
             refine wpList_nil ?_
             refine thenN ?_
             refine wp_block ?_
             refine wp_loop_m (fun m_ ac_ wl_ => ∃ kk : Nat, ∃ fd : Bool, m_ = l.length - kk ∧ (kk ≤ l.length) ∧ (FInv l y22 kk fd) ∧ Fm 175 [] [(0, Value.slice A_l l.length c_l), (3, Value.pointer (some ⟨n4, 0, none⟩)), (5, Value.slice (some ⟨b23, o24, none⟩) (g16).length co18), (6, Value.int .i64 ((i : Nat) : Int)), (7, Value.bool fd), (8, Value.int .i64 ((kk : Nat) : Int))] ac_ ∧ Ws w No [rowR 35 1 enU4 (Value.slice (some ⟨b23, o24, none⟩) (g16).length co18) g16, ShR n4 n5 V] [roR A_l 8 enAct22 l] wl_) _ ⟨0, false, rfl, by omega, by exact fi_0, hA.sub ⟨⟨by kernel_rfl, by kernel_rfl⟩, ⟨by kernel_rfl, by kernel_rfl⟩, ⟨by kernel_rfl, by kernel_rfl⟩, ⟨by kernel_rfl, by kernel_rfl⟩, ⟨by kernel_rfl, by kernel_rfl⟩, ⟨by kernel_rfl, by kernel_rfl⟩, trivial⟩, (hW.pick [0, 1] (by decide) rfl).pickG [0] rfl⟩ ?_
             clear hA ac hW; rintro m_ ac w25 ⟨kk, fd, rfl, hkk, hF, hA, hW⟩
             refine wp_seq ?_
             refine wp_seq ?_
             refine wp_region_lit ?_
             refine st_rd (v := Value.int .i64 ((kk : Nat) : Int)) hA (by kernel_rfl) (by kernel_rfl) (by kernel_rfl) hW.cls (Rd.pure fun _ => by kernel_rfl) ?_; clear hA ac; intro ac hA
             refine st_rd (v := Value.slice A_l l.length c_l) hA (by kernel_rfl) (by kernel_rfl) (by kernel_rfl) hW.cls (Rd.pure fun _ => by kernel_rfl) ?_; clear hA ac; intro ac hA
             refine st_rd (v := Value.int .i64 ((l.length : Nat) : Int)) hA (by kernel_rfl) (by kernel_rfl) (by kernel_rfl) hW.cls (Rd.pure fun _ => by kernel_rfl) ?_; clear hA ac; intro ac hA
             refine st_rd (v := Value.bool (decide ((((kk : Nat) : Int) : Int) < (((l.length : Nat) : Int) : Int)))) hA (by kernel_rfl) (by kernel_rfl) (by kernel_rfl) hW.cls (Rd.pure fun _ => by kernel_rfl) ?_; clear hA ac; intro ac hA
             refine wpList_nil ?_
             refine thenN ?_
             refine wp_cond_split (t := decide ((((kk : Nat) : Int) : Int) < (((l.length : Nat) : Int) : Int))) (hA.eval (by kernel_rfl)) (fun h26 => ?_) (fun h26 => ?_)
             · skip
               have h26 := of_decide_eq_true h26
               first
               | (exfalso; clear hA hW; omega)
               | (
                 refine wp_skip ?_
                 refine thenN ?_
                 refine wp_seq ?_
                 refine wp_block ?_
                 obtain ⟨y27, hy27⟩ : ∃ y, l[kk]? = some y := ⟨_, List.getElem?_eq_getElem (by omega)⟩
                 obtain ⟨b28, o29, rfl, hbb28⟩ := row_some ((hW).getG 0 rfl) hy27
                 have hyr_ := (hwf _ (List.mem_of_getElem? hy27)).1
                 refine q_region (by kernel_rfl) (by kernel_rfl) hW ?_
                 refine sq_rd (v := Value.bool fd) hA (by kernel_rfl) (by kernel_rfl) (by kernel_rfl) (Rd.pure fun _ => by kernel_rfl) ?_; clear hA ac; intro ac hA
                 refine sq_rd (v := Value.bool fd) hA (by kernel_rfl) (by kernel_rfl) (by kernel_rfl) (Rd.pure fun _ => by kernel_rfl) ?_; clear hA ac; intro ac hA
                 rcases Bool.eq_false_or_eq_true (fd) with h30 | h30
                 · skip
                   rw [h30] at hA
                   first
                   | (exfalso; clear hA hW; omega)
                   | (
                     refine sq_skip hA (by kernel_rfl) (by kernel_rfl) ?_; clear hA ac; intro ac hA
                     refine sq_skip hA (by kernel_rfl) (by kernel_rfl) ?_; clear hA ac; intro ac hA
                     refine sq_skip hA (by kernel_rfl) (by kernel_rfl) ?_; clear hA ac; intro ac hA
                     refine sq_skip hA (by kernel_rfl) (by kernel_rfl) ?_; clear hA ac; intro ac hA
                     refine sq_skip hA (by kernel_rfl) (by kernel_rfl) ?_; clear hA ac; intro ac hA
                     refine sq_skip hA (by kernel_rfl) (by kernel_rfl) ?_; clear hA ac; intro ac hA
                     refine sq_skip hA (by kernel_rfl) (by kernel_rfl) ?_; clear hA ac; intro ac hA
                     refine sq_skip hA (by kernel_rfl) (by kernel_rfl) ?_; clear hA ac; intro ac hA
                     refine sq_skip hA (by kernel_rfl) (by kernel_rfl) ?_; clear hA ac; intro ac hA
                     refine sq_skip hA (by kernel_rfl) (by kernel_rfl) ?_; clear hA ac; intro ac hA
                     refine sq_skip hA (by kernel_rfl) (by kernel_rfl) ?_; clear hA ac; intro ac hA
                     refine sq_skip hA (by kernel_rfl) (by kernel_rfl) ?_; clear hA ac; intro ac hA
                     refine sq_skip hA (by kernel_rfl) (by kernel_rfl) ?_; clear hA ac; intro ac hA
                     refine sq_skip hA (by kernel_rfl) (by kernel_rfl) ?_; clear hA ac; intro ac hA
                     refine sq_skip hA (by kernel_rfl) (by kernel_rfl) ?_; clear hA ac; intro ac hA
                     refine sq_skip hA (by kernel_rfl) (by kernel_rfl) ?_; clear hA ac; intro ac hA
                     refine sq_skip hA (by kernel_rfl) (by kernel_rfl) ?_; clear hA ac; intro ac hA
                     refine sq_skip hA (by kernel_rfl) (by kernel_rfl) ?_; clear hA ac; intro ac hA
                     refine sq_skip hA (by kernel_rfl) (by kernel_rfl) ?_; clear hA ac; intro ac hA
                     refine sq_rd (v := Value.bool true) hA (by kernel_rfl) (by kernel_rfl) (by kernel_rfl) (Rd.pure fun _ => by kernel_rfl) ?_; clear hA ac; intro ac hA
                     refine sq_rd (v := Value.bool true) hA (by kernel_rfl) (by kernel_rfl) (by kernel_rfl) (Rd.pure fun _ => by kernel_rfl) ?_; clear hA ac; intro ac hA
                     refine sq_nil ?_; intro w31 hww31; have hW := hww31.1; have hfw31 := hww31.2; clear hww31
                     refine blkN ?_
                     refine thenN ?_
                     refine wp_region_lit ?_
                     refine st_rd (v := Value.int .i64 ((kk : Nat) : Int)) hA (by kernel_rfl) (by kernel_rfl) (by kernel_rfl) hW.cls (Rd.pure fun _ => by kernel_rfl) ?_; clear hA ac; intro ac hA
                     refine st_rd (v := Value.int .i64 ((kk + 1 : Nat) : Int)) hA (by kernel_rfl) (by kernel_rfl) (by kernel_rfl) hW.cls (Rd.pureE (v0 := Value.int .i64 (IntKind.i64.wrap ((((kk : Nat) : Int) : Int) + 1))) (fun _ => by kernel_rfl) (congrArg (Value.int .i64) ((w_i64 (x := (((kk : Nat) : Int) : Int) + 1) (by omega) (by omega)).trans (by omega)))) ?_; clear hA ac; intro ac hA
                     refine st_rd (v := Value.int .i64 ((kk + 1 : Nat) : Int)) hA (by kernel_rfl) (by kernel_rfl) (by kernel_rfl) hW.cls (Rd.pure fun _ => by kernel_rfl) ?_; clear hA ac; intro ac hA
                     refine wpList_nil ?_
                     refine thenN ?_
                     exact ⟨l.length - (kk + 1), by omega, kk + 1, true, rfl, by omega, by exact fi_t hF h30, hA.sub ⟨⟨by kernel_rfl, by kernel_rfl⟩, ⟨by kernel_rfl, by kernel_rfl⟩, ⟨by kernel_rfl, by kernel_rfl⟩, ⟨by kernel_rfl, by kernel_rfl⟩, ⟨by kernel_rfl, by kernel_rfl⟩, ⟨by kernel_rfl, by kernel_rfl⟩, trivial⟩, (hW.pick [0, 1] (by decide) rfl).pickG [0] rfl⟩)
                 · skip
                   rw [h30] at hA
                   first
                   | (exfalso; clear hA hW; omega)
                   | (
                     refine sq_rd (v := Value.slice (some ⟨b28, o29, none⟩) l.length c_l) hA (by kernel_rfl) (by kernel_rfl) (by kernel_rfl) (Rd.pure fun _ => by kernel_rfl) ?_; clear hA ac; intro ac hA
                     refine sq_rd (v := Value.int .i64 ((kk : Nat) : Int)) hA (by kernel_rfl) (by kernel_rfl) (by kernel_rfl) (Rd.pure fun _ => by kernel_rfl) ?_; clear hA ac; intro ac hA
                     refine sq_rd (v := Value.pointer (some ⟨b28, o29 + kk * 8, none⟩)) hA (by kernel_rfl) (by kernel_rfl) (by kernel_rfl) (Rd.indexAddr (e := 37) (sz := 8) (b := b28) (off := o29) (n := l.length) (c := c_l) (k := kk) (by kernel_rfl) (by kernel_rfl) (by first | omega | (simp; done) | (simp; omega)) (fun _ => by kernel_rfl) (fun _ => by kernel_rfl)) ?_; clear hA ac; intro ac hA
                     refine sq_rd (v := Value.pointer (some ⟨b28, o29 + kk * 8, none⟩)) hA (by kernel_rfl) (by kernel_rfl) (by kernel_rfl) (Rd.pure fun _ => by kernel_rfl) ?_; clear hA ac; intro ac hA
                     refine sq_rd (v := Value.int .u32 y27.addr) hA (by kernel_rfl) (by kernel_rfl) (by kernel_rfl) (Rd.loadRow (b := b28) (i := o29 + kk * 8) (xs := [Value.int .u32 y27.addr]) (by kernel_rfl) (fun _ hw => row_ld ((hw.1).getG 0 rfl) hy27 (Fr.refl No _) (fun h => h) 0 1 (by kernel_rfl)) (by kernel_rfl)) ?_; clear hA ac; intro ac hA
                     refine sq_rd (v := Value.int .u32 ((y27.addr : Int) / 4096)) hA (by kernel_rfl) (by kernel_rfl) (by kernel_rfl) (Rd.pureE (v0 := Value.int .u32 (IntKind.u32.wrap (Int.tdiv (y27.addr : Int) 4096))) (fun _ => by kernel_rfl) (congrArg (Value.int .u32) ((congrArg IntKind.u32.wrap (quo_ (x := y27.addr) (by omega))).trans (w_u32 (by omega) (by omega))))) ?_; clear hA ac; intro ac hA
                     refine sq_rd (v := Value.slice (some ⟨b23, o24, none⟩) (g16).length co18) hA (by kernel_rfl) (by kernel_rfl) (by kernel_rfl) (Rd.pure fun _ => by kernel_rfl) ?_; clear hA ac; intro ac hA
                     refine sq_rd (v := Value.int .i64 ((i : Nat) : Int)) hA (by kernel_rfl) (by kernel_rfl) (by kernel_rfl) (Rd.pure fun _ => by kernel_rfl) ?_; clear hA ac; intro ac hA
                     refine sq_rd (v := Value.pointer (some ⟨b23, o24 + i * 1, none⟩)) hA (by kernel_rfl) (by kernel_rfl) (by kernel_rfl) (Rd.indexAddr (e := 35) (sz := 1) (b := b23) (off := o24) (n := (g16).length) (c := co18) (k := i) (by kernel_rfl) (by kernel_rfl) (by first | omega | (simp; done) | (simp; omega)) (fun _ => by kernel_rfl) (fun _ => by kernel_rfl)) ?_; clear hA ac; intro ac hA
                     refine sq_rd (v := Value.int .u32 y22) hA (by kernel_rfl) (by kernel_rfl) (by kernel_rfl) (Rd.loadRow (b := b23) (i := o24 + i * 1) (xs := [Value.int .u32 y22]) (by kernel_rfl) (fun _ hw => row_ld (rowR_at ((hw.1).get 0 rfl) elt_U4.len) hy22 (Fr.refl No _) (fun h => h) 0 1 (by kernel_rfl)) (by kernel_rfl)) ?_; clear hA ac; intro ac hA
                     refine sq_rd (v := Value.bool (((y27.addr : Int) / 4096 : Int) == (y22 : Int))) hA (by kernel_rfl) (by kernel_rfl) (by kernel_rfl) (Rd.pure fun _ => by kernel_rfl) ?_; clear hA ac; intro ac hA
                     refine sq_rd (v := Value.bool (((y27.addr : Int) / 4096 : Int) == (y22 : Int))) hA (by kernel_rfl) (by kernel_rfl) (by kernel_rfl) (Rd.pure fun _ => by kernel_rfl) ?_; clear hA ac; intro ac hA
                     rcases Bool.eq_false_or_eq_true (((y27.addr : Int) / 4096 : Int) == (y22 : Int)) with h32 | h32
                     · skip
                       rw [h32] at hA
                       have h32 := eq_of_beq h32
                       first
                       | (exfalso; clear hA hW; omega)
                       | (
                         refine sq_rd (v := Value.slice (some ⟨b28, o29, none⟩) l.length c_l) hA (by kernel_rfl) (by kernel_rfl) (by kernel_rfl) (Rd.pure fun _ => by kernel_rfl) ?_; clear hA ac; intro ac hA
                         refine sq_rd (v := Value.int .i64 ((kk : Nat) : Int)) hA (by kernel_rfl) (by kernel_rfl) (by kernel_rfl) (Rd.pure fun _ => by kernel_rfl) ?_; clear hA ac; intro ac hA
                         refine sq_rd (v := Value.pointer (some ⟨b28, o29 + kk * 8, none⟩)) hA (by kernel_rfl) (by kernel_rfl) (by kernel_rfl) (Rd.indexAddr (e := 37) (sz := 8) (b := b28) (off := o29) (n := l.length) (c := c_l) (k := kk) (by kernel_rfl) (by kernel_rfl) (by first | omega | (simp; done) | (simp; omega)) (fun _ => by kernel_rfl) (fun _ => by kernel_rfl)) ?_; clear hA ac; intro ac hA
                         refine sq_rd (v := Value.pointer (some ⟨b28, o29 + kk * 8 + 1, none⟩)) hA (by kernel_rfl) (by kernel_rfl) (by kernel_rfl) (Rd.pure fun _ => by kernel_rfl) ?_; clear hA ac; intro ac hA
                         refine sq_rd (v := Value.agg #[Value.int .u64 y27.x.wr, Value.int .i64 y27.x.ws.f, Value.int .i64 y27.x.ws.pc, Value.int .u64 y27.x.rd, Value.int .i64 y27.x.rs.f, Value.int .i64 y27.x.rs.pc, Value.int .i64 y27.x.vec]) hA (by kernel_rfl) (by kernel_rfl) (by kernel_rfl) (Rd.loadRow (b := b28) (i := o29 + kk * 8 + 1) (xs := [Value.int .u64 y27.x.wr, Value.int .i64 y27.x.ws.f, Value.int .i64 y27.x.ws.pc, Value.int .u64 y27.x.rd, Value.int .i64 y27.x.rs.f, Value.int .i64 y27.x.rs.pc, Value.int .i64 y27.x.vec]) (by kernel_rfl) (fun _ hw => row_ld ((hw.1).getG 0 rfl) hy27 (Fr.refl No _) (fun h => h) 1 7 (by kernel_rfl)) (by kernel_rfl)) ?_; clear hA ac; intro ac hA
                         refine sq_call (v := Value.bool (Shade.ok y27.x)) hA (by kernel_rfl) (by kernel_rfl) (by kernel_rfl) (fun _ => by kernel_rfl) (Cls.callNC fun wx hwx => e_rright y27.x wx (by first | omega | assumption | exact (hwf _ (List.mem_of_getElem? (by assumption))).1 | exact (hwf _ (List.mem_of_getElem? (by assumption))).2)) ?_; clear hA ac; intro ac hA
                         refine sq_rd (v := Value.bool (Shade.ok y27.x)) hA (by kernel_rfl) (by kernel_rfl) (by kernel_rfl) (Rd.pure fun _ => by kernel_rfl) ?_; clear hA ac; intro ac hA
                         refine sq_rd (v := Value.bool (Shade.ok y27.x)) hA (by kernel_rfl) (by kernel_rfl) (by kernel_rfl) (Rd.pure fun _ => by kernel_rfl) ?_; clear hA ac; intro ac hA
                         refine sq_rd (v := Value.bool (Shade.ok y27.x)) hA (by kernel_rfl) (by kernel_rfl) (by kernel_rfl) (Rd.pure fun _ => by kernel_rfl) ?_; clear hA ac; intro ac hA
                         refine sq_nil ?_; intro w33 hww33; have hW := hww33.1; have hfw33 := hww33.2; clear hww33
                         refine blkN ?_
                         refine thenN ?_
                         refine wp_region_lit ?_
                         refine st_rd (v := Value.int .i64 ((kk : Nat) : Int)) hA (by kernel_rfl) (by kernel_rfl) (by kernel_rfl) hW.cls (Rd.pure fun _ => by kernel_rfl) ?_; clear hA ac; intro ac hA
                         refine st_rd (v := Value.int .i64 ((kk + 1 : Nat) : Int)) hA (by kernel_rfl) (by kernel_rfl) (by kernel_rfl) hW.cls (Rd.pureE (v0 := Value.int .i64 (IntKind.i64.wrap ((((kk : Nat) : Int) : Int) + 1))) (fun _ => by kernel_rfl) (congrArg (Value.int .i64) ((w_i64 (x := (((kk : Nat) : Int) : Int) + 1) (by omega) (by omega)).trans (by omega)))) ?_; clear hA ac; intro ac hA
                         refine st_rd (v := Value.int .i64 ((kk + 1 : Nat) : Int)) hA (by kernel_rfl) (by kernel_rfl) (by kernel_rfl) hW.cls (Rd.pure fun _ => by kernel_rfl) ?_; clear hA ac; intro ac hA
                         refine wpList_nil ?_
                         refine thenN ?_
                         exact ⟨l.length - (kk + 1), by omega, kk + 1, Shade.ok y27.x, rfl, by omega, by exact fi_y hF h30 hy27 h32, hA.sub ⟨⟨by kernel_rfl, by kernel_rfl⟩, ⟨by kernel_rfl, by kernel_rfl⟩, ⟨by kernel_rfl, by kernel_rfl⟩, ⟨by kernel_rfl, by kernel_rfl⟩, ⟨by kernel_rfl, by kernel_rfl⟩, ⟨by kernel_rfl, by kernel_rfl⟩, trivial⟩, (hW.pick [0, 1] (by decide) rfl).pickG [0] rfl⟩)
                     · skip
                       rw [h32] at hA
                       have h32 := ne_of_beq_false h32
                       first
                       | (exfalso; clear hA hW; omega)
                       | (
                         refine sq_skip hA (by kernel_rfl) (by kernel_rfl) ?_; clear hA ac; intro ac hA
                         refine sq_skip hA (by kernel_rfl) (by kernel_rfl) ?_; clear hA ac; intro ac hA
                         refine sq_skip hA (by kernel_rfl) (by kernel_rfl) ?_; clear hA ac; intro ac hA
                         refine sq_skip hA (by kernel_rfl) (by kernel_rfl) ?_; clear hA ac; intro ac hA
                         refine sq_skip hA (by kernel_rfl) (by kernel_rfl) ?_; clear hA ac; intro ac hA
                         refine sq_skip hA (by kernel_rfl) (by kernel_rfl) ?_; clear hA ac; intro ac hA
                         refine sq_rd (v := Value.bool false) hA (by kernel_rfl) (by kernel_rfl) (by kernel_rfl) (Rd.pure fun _ => by kernel_rfl) ?_; clear hA ac; intro ac hA
                         refine sq_rd (v := Value.bool false) hA (by kernel_rfl) (by kernel_rfl) (by kernel_rfl) (Rd.pure fun _ => by kernel_rfl) ?_; clear hA ac; intro ac hA
                         refine sq_rd (v := Value.bool false) hA (by kernel_rfl) (by kernel_rfl) (by kernel_rfl) (Rd.pure fun _ => by kernel_rfl) ?_; clear hA ac; intro ac hA
                         refine sq_nil ?_; intro w34 hww34; have hW := hww34.1; have hfw34 := hww34.2; clear hww34
                         refine blkN ?_
                         refine thenN ?_
                         refine wp_region_lit ?_
                         refine st_rd (v := Value.int .i64 ((kk : Nat) : Int)) hA (by kernel_rfl) (by kernel_rfl) (by kernel_rfl) hW.cls (Rd.pure fun _ => by kernel_rfl) ?_; clear hA ac; intro ac hA
                         refine st_rd (v := Value.int .i64 ((kk + 1 : Nat) : Int)) hA (by kernel_rfl) (by kernel_rfl) (by kernel_rfl) hW.cls (Rd.pureE (v0 := Value.int .i64 (IntKind.i64.wrap ((((kk : Nat) : Int) : Int) + 1))) (fun _ => by kernel_rfl) (congrArg (Value.int .i64) ((w_i64 (x := (((kk : Nat) : Int) : Int) + 1) (by omega) (by omega)).trans (by omega)))) ?_; clear hA ac; intro ac hA
                         refine st_rd (v := Value.int .i64 ((kk + 1 : Nat) : Int)) hA (by kernel_rfl) (by kernel_rfl) (by kernel_rfl) hW.cls (Rd.pure fun _ => by kernel_rfl) ?_; clear hA ac; intro ac hA
                         refine wpList_nil ?_
                         refine thenN ?_
                         exact ⟨l.length - (kk + 1), by omega, kk + 1, false, rfl, by omega, by exact fi_n hF h30 hy27 h32, hA.sub ⟨⟨by kernel_rfl, by kernel_rfl⟩, ⟨by kernel_rfl, by kernel_rfl⟩, ⟨by kernel_rfl, by kernel_rfl⟩, ⟨by kernel_rfl, by kernel_rfl⟩, ⟨by kernel_rfl, by kernel_rfl⟩, ⟨by kernel_rfl, by kernel_rfl⟩, trivial⟩, (hW.pick [0, 1] (by decide) rfl).pickG [0] rfl⟩)))
             · skip
               have h26 := of_decide_eq_false h26
               first
               | (exfalso; clear hA hW; omega)
               | (
                 refine wp_exit ?_
                 refine thenX ?_
                 refine thenX ?_
                 refine blkX ?_
                 refine thenN ?_
                 refine wp_seq ?_
                 have hfd_ : fd = true := by unfold FInv at hF; rw [List.take_of_length_le (by omega)] at hF; exact hF.2 (hmem_ _ (List.mem_of_getElem? hy22))
                 rw [show fd = true from hfd_] at hA
                 refine q_region (by kernel_rfl) (by kernel_rfl) hW ?_
                 refine sq_rd (v := Value.bool true) hA (by kernel_rfl) (by kernel_rfl) (by kernel_rfl) (Rd.pure fun _ => by kernel_rfl) ?_; clear hA ac; intro ac hA
                 refine sq_rd (v := Value.bool false) hA (by kernel_rfl) (by kernel_rfl) (by kernel_rfl) (Rd.pure fun _ => by kernel_rfl) ?_; clear hA ac; intro ac hA
                 refine sq_rd (v := Value.bool false) hA (by kernel_rfl) (by kernel_rfl) (by kernel_rfl) (Rd.pure fun _ => by kernel_rfl) ?_; clear hA ac; intro ac hA
                 refine sq_rd (v := Value.int .i64 ((i : Nat) : Int)) hA (by kernel_rfl) (by kernel_rfl) (by kernel_rfl) (Rd.pure fun _ => by kernel_rfl) ?_; clear hA ac; intro ac hA
                 refine sq_rd (v := Value.bool (decide ((((i : Nat) : Int) : Int) > (0 : Int)))) hA (by kernel_rfl) (by kernel_rfl) (by kernel_rfl) (Rd.pure fun _ => by kernel_rfl) ?_; clear hA ac; intro ac hA
                 refine sq_rd (v := Value.bool (decide ((((i : Nat) : Int) : Int) > (0 : Int)))) hA (by kernel_rfl) (by kernel_rfl) (by kernel_rfl) (Rd.pure fun _ => by kernel_rfl) ?_; clear hA ac; intro ac hA
                 rcases Bool.eq_false_or_eq_true (decide ((((i : Nat) : Int) : Int) > (0 : Int))) with h35 | h35
                 · skip
                   rw [h35] at hA
                   have h35 := of_decide_eq_true h35
                   first
                   | (exfalso; clear hA hW; omega)
                   | (
                     refine sq_rd (v := Value.slice (some ⟨b23, o24, none⟩) (g16).length co18) hA (by kernel_rfl) (by kernel_rfl) (by kernel_rfl) (Rd.pure fun _ => by kernel_rfl) ?_; clear hA ac; intro ac hA
                     refine sq_rd (v := Value.int .i64 ((i : Nat) : Int)) hA (by kernel_rfl) (by kernel_rfl) (by kernel_rfl) (Rd.pure fun _ => by kernel_rfl) ?_; clear hA ac; intro ac hA
                     refine sq_rd (v := Value.pointer (some ⟨b23, o24 + i * 1, none⟩)) hA (by kernel_rfl) (by kernel_rfl) (by kernel_rfl) (Rd.indexAddr (e := 35) (sz := 1) (b := b23) (off := o24) (n := (g16).length) (c := co18) (k := i) (by kernel_rfl) (by kernel_rfl) (by first | omega | (simp; done) | (simp; omega)) (fun _ => by kernel_rfl) (fun _ => by kernel_rfl)) ?_; clear hA ac; intro ac hA
                     refine sq_rd (v := Value.int .u32 y22) hA (by kernel_rfl) (by kernel_rfl) (by kernel_rfl) (Rd.loadRow (b := b23) (i := o24 + i * 1) (xs := [Value.int .u32 y22]) (by kernel_rfl) (fun _ hw => row_ld (rowR_at ((hw.1).get 0 rfl) elt_U4.len) hy22 (Fr.refl No _) (fun h => h) 0 1 (by kernel_rfl)) (by kernel_rfl)) ?_; clear hA ac; intro ac hA
                     refine sq_rd (v := Value.slice (some ⟨b23, o24, none⟩) (g16).length co18) hA (by kernel_rfl) (by kernel_rfl) (by kernel_rfl) (Rd.pure fun _ => by kernel_rfl) ?_; clear hA ac; intro ac hA
                     refine sq_rd (v := Value.int .i64 ((i : Nat) : Int)) hA (by kernel_rfl) (by kernel_rfl) (by kernel_rfl) (Rd.pure fun _ => by kernel_rfl) ?_; clear hA ac; intro ac hA
                     refine sq_rd (v := Value.int .i64 ((i - 1 : Nat) : Int)) hA (by kernel_rfl) (by kernel_rfl) (by kernel_rfl) (Rd.pureE (v0 := Value.int .i64 (IntKind.i64.wrap ((((i : Nat) : Int) : Int) - 1))) (fun _ => by kernel_rfl) (congrArg (Value.int .i64) ((w_i64 (x := (((i : Nat) : Int) : Int) - 1) (by omega) (by omega)).trans (by omega)))) ?_; clear hA ac; intro ac hA
                     obtain ⟨y36, hy36⟩ : ∃ y, g16[i - 1]? = some y := ⟨_, List.getElem?_eq_getElem (by first | omega | (simp; done) | (simp; omega))⟩
                     refine sq_rd (v := Value.pointer (some ⟨b23, o24 + (i - 1) * 1, none⟩)) hA (by kernel_rfl) (by kernel_rfl) (by kernel_rfl) (Rd.indexAddr (e := 35) (sz := 1) (b := b23) (off := o24) (n := (g16).length) (c := co18) (k := i - 1) (by kernel_rfl) (by kernel_rfl) (by first | omega | (simp; done) | (simp; omega)) (fun _ => by kernel_rfl) (fun _ => by kernel_rfl)) ?_; clear hA ac; intro ac hA
                     refine sq_rd (v := Value.int .u32 y36) hA (by kernel_rfl) (by kernel_rfl) (by kernel_rfl) (Rd.loadRow (b := b23) (i := o24 + (i - 1) * 1) (xs := [Value.int .u32 y36]) (by kernel_rfl) (fun _ hw => row_ld (rowR_at ((hw.1).get 0 rfl) elt_U4.len) hy36 (Fr.refl No _) (fun h => h) 0 1 (by kernel_rfl)) (by kernel_rfl)) ?_; clear hA ac; intro ac hA
                     refine sq_rd (v := Value.bool (decide ((y22 : Int) ≤ (y36 : Int)))) hA (by kernel_rfl) (by kernel_rfl) (by kernel_rfl) (Rd.pure fun _ => by kernel_rfl) ?_; clear hA ac; intro ac hA
                     refine sq_rd (v := Value.bool (decide ((y22 : Int) ≤ (y36 : Int)))) hA (by kernel_rfl) (by kernel_rfl) (by kernel_rfl) (Rd.pure fun _ => by kernel_rfl) ?_; clear hA ac; intro ac hA
                     refine sq_rd (v := Value.bool (decide ((y22 : Int) ≤ (y36 : Int)))) hA (by kernel_rfl) (by kernel_rfl) (by kernel_rfl) (Rd.pure fun _ => by kernel_rfl) ?_; clear hA ac; intro ac hA
                     refine sq_nil ?_; intro w37 hww37; have hW := hww37.1; have hfw37 := hww37.2; clear hww37
                     refine thenN ?_
                     refine wp_cond_split (t := decide ((y22 : Int) ≤ (y36 : Int))) (hA.eval (by kernel_rfl)) (fun h38 => ?_) (fun h38 => ?_)
                     · skip
                       have h38 := of_decide_eq_true h38
                       first
                       | (exfalso; clear hA hW; omega)
                       | (exfalso; clear hA hW; have q_ := pw_lt hpl_ hy36 hy22 (by omega); omega; done)
                       | (
                         refine wp_seq ?_
                         refine wp_region_lit ?_
                         refine st_rd (v := Value.bool false) hA (by kernel_rfl) (by kernel_rfl) (by kernel_rfl) hW.cls (Rd.pure fun _ => by kernel_rfl) ?_; clear hA ac; intro ac hA
                         refine wpList_nil ?_
                         refine thenN ?_
                         refine wp_ret ?_
                         refine blkR ?_
                         refine thenR ?_
                         refine thenR ?_
                         refine blkR ?_
                         refine thenR ?_
                         refine ret1 (v := Value.bool false) (by rfl) hA (Got.tmp hA (by kernel_rfl) (by kernel_rfl)) ?_
                         clear hA
                         exact ⟨retv (by rfl), hW.fr⟩)
                     · skip
                       have h38 := of_decide_eq_false h38
                       first
                       | (exfalso; clear hA hW; omega)
                       | (exfalso; clear hA hW; have q_ := pw_lt hpl_ hy36 hy22 (by omega); omega; done)
                       | (
                         refine wp_skip ?_
                         refine blkN ?_
                         refine thenN ?_
                         refine wp_region_lit ?_
                         refine st_rd (v := Value.int .i64 ((i : Nat) : Int)) hA (by kernel_rfl) (by kernel_rfl) (by kernel_rfl) hW.cls (Rd.pure fun _ => by kernel_rfl) ?_; clear hA ac; intro ac hA
                         refine st_rd (v := Value.int .i64 ((i + 1 : Nat) : Int)) hA (by kernel_rfl) (by kernel_rfl) (by kernel_rfl) hW.cls (Rd.pureE (v0 := Value.int .i64 (IntKind.i64.wrap ((((i : Nat) : Int) : Int) + 1))) (fun _ => by kernel_rfl) (congrArg (Value.int .i64) ((w_i64 (x := (((i : Nat) : Int) : Int) + 1) (by omega) (by omega)).trans (by omega)))) ?_; clear hA ac; intro ac hA
                         refine st_rd (v := Value.int .i64 ((i + 1 : Nat) : Int)) hA (by kernel_rfl) (by kernel_rfl) (by kernel_rfl) hW.cls (Rd.pure fun _ => by kernel_rfl) ?_; clear hA ac; intro ac hA
                         refine wpList_nil ?_
                         refine thenN ?_
                         exact ⟨g16.length - (i + 1), by omega, i + 1, rfl, by omega, hA.sub ⟨⟨by kernel_rfl, by kernel_rfl⟩, ⟨by kernel_rfl, by kernel_rfl⟩, ⟨by kernel_rfl, by kernel_rfl⟩, ⟨by kernel_rfl, by kernel_rfl⟩, trivial⟩, (hW.pick [0, 1] (by decide) rfl).pickG [0] rfl⟩))
                 · skip
                   rw [h35] at hA
                   have h35 := of_decide_eq_false h35
                   first
                   | (exfalso; clear hA hW; omega)
                   | (
                     refine sq_skip hA (by kernel_rfl) (by kernel_rfl) ?_; clear hA ac; intro ac hA
                     refine sq_skip hA (by kernel_rfl) (by kernel_rfl) ?_; clear hA ac; intro ac hA
                     refine sq_skip hA (by kernel_rfl) (by kernel_rfl) ?_; clear hA ac; intro ac hA
                     refine sq_skip hA (by kernel_rfl) (by kernel_rfl) ?_; clear hA ac; intro ac hA
                     refine sq_skip hA (by kernel_rfl) (by kernel_rfl) ?_; clear hA ac; intro ac hA
                     refine sq_skip hA (by kernel_rfl) (by kernel_rfl) ?_; clear hA ac; intro ac hA
                     refine sq_skip hA (by kernel_rfl) (by kernel_rfl) ?_; clear hA ac; intro ac hA
                     refine sq_skip hA (by kernel_rfl) (by kernel_rfl) ?_; clear hA ac; intro ac hA
                     refine sq_skip hA (by kernel_rfl) (by kernel_rfl) ?_; clear hA ac; intro ac hA
                     refine sq_skip hA (by kernel_rfl) (by kernel_rfl) ?_; clear hA ac; intro ac hA
                     refine sq_rd (v := Value.bool false) hA (by kernel_rfl) (by kernel_rfl) (by kernel_rfl) (Rd.pure fun _ => by kernel_rfl) ?_; clear hA ac; intro ac hA
                     refine sq_rd (v := Value.bool false) hA (by kernel_rfl) (by kernel_rfl) (by kernel_rfl) (Rd.pure fun _ => by kernel_rfl) ?_; clear hA ac; intro ac hA
                     refine sq_nil ?_; intro w39 hww39; have hW := hww39.1; have hfw39 := hww39.2; clear hww39
                     refine thenN ?_
                     refine wp_cond_false (hA.eval (by kernel_rfl)) ?_
                     refine wp_skip ?_
                     refine blkN ?_
                     refine thenN ?_
                     refine wp_region_lit ?_
                     refine st_rd (v := Value.int .i64 ((i : Nat) : Int)) hA (by kernel_rfl) (by kernel_rfl) (by kernel_rfl) hW.cls (Rd.pure fun _ => by kernel_rfl) ?_; clear hA ac; intro ac hA
                     refine st_rd (v := Value.int .i64 ((i + 1 : Nat) : Int)) hA (by kernel_rfl) (by kernel_rfl) (by kernel_rfl) hW.cls (Rd.pureE (v0 := Value.int .i64 (IntKind.i64.wrap ((((i : Nat) : Int) : Int) + 1))) (fun _ => by kernel_rfl) (congrArg (Value.int .i64) ((w_i64 (x := (((i : Nat) : Int) : Int) + 1) (by omega) (by omega)).trans (by omega)))) ?_; clear hA ac; intro ac hA
                     refine st_rd (v := Value.int .i64 ((i + 1 : Nat) : Int)) hA (by kernel_rfl) (by kernel_rfl) (by kernel_rfl) hW.cls (Rd.pure fun _ => by kernel_rfl) ?_; clear hA ac; intro ac hA
                     refine wpList_nil ?_
                     refine thenN ?_
                     exact ⟨g16.length - (i + 1), by omega, i + 1, rfl, by omega, hA.sub ⟨⟨by kernel_rfl, by kernel_rfl⟩, ⟨by kernel_rfl, by kernel_rfl⟩, ⟨by kernel_rfl, by kernel_rfl⟩, ⟨by kernel_rfl, by kernel_rfl⟩, trivial⟩, (hW.pick [0, 1] (by decide) rfl).pickG [0] rfl⟩)))
         · skip
           have h21 := of_decide_eq_false h21
           first
           | (exfalso; clear hA hW; omega)
           | (
             refine wp_exit ?_
             refine thenX ?_
             refine thenX ?_
             refine blkX ?_
             refine thenN ?_
             refine wp_seq ?_
             refine wp_seq ?_
             refine wp_region_lit ?_
             refine st_rd (v := Value.int .i64 0) hA (by kernel_rfl) (by kernel_rfl) (by kernel_rfl) hW.cls (Rd.pure fun _ => by kernel_rfl) ?_; clear hA ac; intro ac hA
             refine wpList_nil ?_
             refine thenN ?_
             refine wp_block ?_
             refine wp_loop_m (fun m_ ac_ wl_ => ∃ i4 : Nat, m_ = l.length - i4 ∧ (i4 ≤ l.length) ∧ Fm 175 [] [(0, Value.slice A_l l.length c_l), (3, Value.pointer (some ⟨n4, 0, none⟩)), (5, Value.slice Ao17 (g16).length co18), (9, Value.int .i64 ((i4 : Nat) : Int))] ac_ ∧ Ws w No [rowR 35 1 enU4 (Value.slice Ao17 (g16).length co18) g16, ShR n4 n5 V] [roR A_l 8 enAct22 l] wl_) _ ⟨0, rfl, by omega, hA.sub ⟨⟨by kernel_rfl, by kernel_rfl⟩, ⟨by kernel_rfl, by kernel_rfl⟩, ⟨by kernel_rfl, by kernel_rfl⟩, ⟨by kernel_rfl, by kernel_rfl⟩, trivial⟩, (hW.pick [0, 1] (by decide) rfl).pickG [0] rfl⟩ ?_
             clear hA ac hW; rintro m_ ac w40 ⟨i4, rfl, hi4, hA, hW⟩
             refine wp_seq ?_
             refine wp_seq ?_
             refine wp_region_lit ?_
             refine st_rd (v := Value.int .i64 ((i4 : Nat) : Int)) hA (by kernel_rfl) (by kernel_rfl) (by kernel_rfl) hW.cls (Rd.pure fun _ => by kernel_rfl) ?_; clear hA ac; intro ac hA
             refine st_rd (v := Value.slice A_l l.length c_l) hA (by kernel_rfl) (by kernel_rfl) (by kernel_rfl) hW.cls (Rd.pure fun _ => by kernel_rfl) ?_; clear hA ac; intro ac hA
             refine st_rd (v := Value.int .i64 ((l.length : Nat) : Int)) hA (by kernel_rfl) (by kernel_rfl) (by kernel_rfl) hW.cls (Rd.pure fun _ => by kernel_rfl) ?_; clear hA ac; intro ac hA
             refine st_rd (v := Value.bool (decide ((((i4 : Nat) : Int) : Int) < (((l.length : Nat) : Int) : Int)))) hA (by kernel_rfl) (by kernel_rfl) (by kernel_rfl) hW.cls (Rd.pure fun _ => by kernel_rfl) ?_; clear hA ac; intro ac hA
             refine wpList_nil ?_
             refine thenN ?_
             refine wp_cond_split (t := decide ((((i4 : Nat) : Int) : Int) < (((l.length : Nat) : Int) : Int))) (hA.eval (by kernel_rfl)) (fun h41 => ?_) (fun h41 => ?_)
             · skip
               have h41 := of_decide_eq_true h41
               first
               | (exfalso; clear hA hW; omega)
               | (
                 refine wp_skip ?_
                 refine thenN ?_
                 refine wp_seq ?_
                 refine wp_block ?_
                 refine wp_seq ?_
                 refine wp_seq ?_
                 refine wp_region_lit ?_
                 refine st_rd (v := Value.slice A_l l.length c_l) hA (by kernel_rfl) (by kernel_rfl) (by kernel_rfl) hW.cls (Rd.pure fun _ => by kernel_rfl) ?_; clear hA ac; intro ac hA
                 refine st_rd (v := Value.int .i64 ((i4 : Nat) : Int)) hA (by kernel_rfl) (by kernel_rfl) (by kernel_rfl) hW.cls (Rd.pure fun _ => by kernel_rfl) ?_; clear hA ac; intro ac hA
                 obtain ⟨y42, hy42⟩ : ∃ y, l[i4]? = some y := ⟨_, List.getElem?_eq_getElem (by first | omega | (simp; done) | (simp; omega))⟩
                 obtain ⟨b43, o44, rfl, hbb43⟩ := row_some ((hW).getG 0 rfl) hy42
                 refine st_rd (v := Value.pointer (some ⟨b43, o44 + i4 * 8, none⟩)) hA (by kernel_rfl) (by kernel_rfl) (by kernel_rfl) hW.cls (Rd.indexAddr (e := 37) (sz := 8) (b := b43) (off := o44) (n := l.length) (c := c_l) (k := i4) (by kernel_rfl) (by kernel_rfl) (by first | omega | (simp; done) | (simp; omega)) (fun _ => by kernel_rfl) (fun _ => by kernel_rfl)) ?_; clear hA ac; intro ac hA
                 refine st_rd (v := Value.pointer (some ⟨b43, o44 + i4 * 8 + 1, none⟩)) hA (by kernel_rfl) (by kernel_rfl) (by kernel_rfl) hW.cls (Rd.pure fun _ => by kernel_rfl) ?_; clear hA ac; intro ac hA
                 refine st_rd (v := Value.agg #[Value.int .u64 y42.x.wr, Value.int .i64 y42.x.ws.f, Value.int .i64 y42.x.ws.pc, Value.int .u64 y42.x.rd, Value.int .i64 y42.x.rs.f, Value.int .i64 y42.x.rs.pc, Value.int .i64 y42.x.vec]) hA (by kernel_rfl) (by kernel_rfl) (by kernel_rfl) hW.cls (Rd.loadRow (b := b43) (i := o44 + i4 * 8 + 1) (xs := [Value.int .u64 y42.x.wr, Value.int .i64 y42.x.ws.f, Value.int .i64 y42.x.ws.pc, Value.int .u64 y42.x.rd, Value.int .i64 y42.x.rs.f, Value.int .i64 y42.x.rs.pc, Value.int .i64 y42.x.vec]) (by kernel_rfl) (fun _ hw => row_ld ((hw.1).getG 0 rfl) hy42 (Fr.refl No _) (fun h => h) 1 7 (by kernel_rfl)) (by kernel_rfl)) ?_; clear hA ac; intro ac hA
                 refine st hA (by kernel_rfl) (by kernel_rfl) (by kernel_rfl) (Runs.callN (v := Value.bool (Shade.ok y42.x)) (fun _ => by kernel_rfl) hW (e_rright y42.x w40 (by first | omega | assumption | exact (hwf _ (List.mem_of_getElem? (by assumption))).1 | exact (hwf _ (List.mem_of_getElem? (by assumption))).2)) ?_); clear hA ac hW; intro w45 hW hfw45 ac hA
                 refine st_rd (v := Value.bool (!(Shade.ok y42.x))) hA (by kernel_rfl) (by kernel_rfl) (by kernel_rfl) hW.cls (Rd.pure fun _ => by kernel_rfl) ?_; clear hA ac; intro ac hA
                 refine wpList_nil ?_
                 refine thenN ?_
                 refine wp_cond_split (t := !(Shade.ok y42.x)) (hA.eval (by kernel_rfl)) (fun h46 => ?_) (fun h46 => ?_)
                 · skip
                   have h46 := not_t h46
                   first
                   | (exfalso; clear hA hW; omega)
                   | (
                     refine wp_exit ?_
                     refine thenX ?_
                     refine blkX ?_
                     refine thenN ?_
                     refine wp_region_lit ?_
                     refine st_rd (v := Value.int .i64 ((i4 : Nat) : Int)) hA (by kernel_rfl) (by kernel_rfl) (by kernel_rfl) hW.cls (Rd.pure fun _ => by kernel_rfl) ?_; clear hA ac; intro ac hA
                     refine st_rd (v := Value.int .i64 ((i4 + 1 : Nat) : Int)) hA (by kernel_rfl) (by kernel_rfl) (by kernel_rfl) hW.cls (Rd.pureE (v0 := Value.int .i64 (IntKind.i64.wrap ((((i4 : Nat) : Int) : Int) + 1))) (fun _ => by kernel_rfl) (congrArg (Value.int .i64) ((w_i64 (x := (((i4 : Nat) : Int) : Int) + 1) (by omega) (by omega)).trans (by omega)))) ?_; clear hA ac; intro ac hA
                     refine st_rd (v := Value.int .i64 ((i4 + 1 : Nat) : Int)) hA (by kernel_rfl) (by kernel_rfl) (by kernel_rfl) hW.cls (Rd.pure fun _ => by kernel_rfl) ?_; clear hA ac; intro ac hA
                     refine wpList_nil ?_
                     refine thenN ?_
                     exact ⟨l.length - (i4 + 1), by omega, i4 + 1, rfl, by omega, hA.sub ⟨⟨by kernel_rfl, by kernel_rfl⟩, ⟨by kernel_rfl, by kernel_rfl⟩, ⟨by kernel_rfl, by kernel_rfl⟩, ⟨by kernel_rfl, by kernel_rfl⟩, trivial⟩, (hW.pick [0, 1] (by decide) rfl).pickG [0] rfl⟩)
                 · skip
                   have h46 := not_f h46
                   first
                   | (exfalso; clear hA hW; omega)
                   | (
                     refine wp_skip ?_
                     refine thenN ?_
                     refine wp_seq ?_
                     have hoy_ : Shade.ok y42.x = true := h46; have hyw_ := (hwf _ (List.mem_of_getElem? hy42)).1
                     refine wp_region_lit ?_
                     refine st_rd (v := Value.slice (some ⟨b43, o44, none⟩) l.length c_l) hA (by kernel_rfl) (by kernel_rfl) (by kernel_rfl) hW.cls (Rd.pure fun _ => by kernel_rfl) ?_; clear hA ac; intro ac hA
                     refine st_rd (v := Value.int .i64 ((i4 : Nat) : Int)) hA (by kernel_rfl) (by kernel_rfl) (by kernel_rfl) hW.cls (Rd.pure fun _ => by kernel_rfl) ?_; clear hA ac; intro ac hA
                     refine st_rd (v := Value.pointer (some ⟨b43, o44 + i4 * 8, none⟩)) hA (by kernel_rfl) (by kernel_rfl) (by kernel_rfl) hW.cls (Rd.indexAddr (e := 37) (sz := 8) (b := b43) (off := o44) (n := l.length) (c := c_l) (k := i4) (by kernel_rfl) (by kernel_rfl) (by first | omega | (simp; done) | (simp; omega)) (fun _ => by kernel_rfl) (fun _ => by kernel_rfl)) ?_; clear hA ac; intro ac hA
                     refine st_rd (v := Value.pointer (some ⟨b43, o44 + i4 * 8 + 1, none⟩)) hA (by kernel_rfl) (by kernel_rfl) (by kernel_rfl) hW.cls (Rd.pure fun _ => by kernel_rfl) ?_; clear hA ac; intro ac hA
                     refine st_rd (v := Value.agg #[Value.int .u64 y42.x.wr, Value.int .i64 y42.x.ws.f, Value.int .i64 y42.x.ws.pc, Value.int .u64 y42.x.rd, Value.int .i64 y42.x.rs.f, Value.int .i64 y42.x.rs.pc, Value.int .i64 y42.x.vec]) hA (by kernel_rfl) (by kernel_rfl) (by kernel_rfl) hW.cls (Rd.loadRow (b := b43) (i := o44 + i4 * 8 + 1) (xs := [Value.int .u64 y42.x.wr, Value.int .i64 y42.x.ws.f, Value.int .i64 y42.x.ws.pc, Value.int .u64 y42.x.rd, Value.int .i64 y42.x.rs.f, Value.int .i64 y42.x.rs.pc, Value.int .i64 y42.x.vec]) (by kernel_rfl) (fun _ hw => row_ld ((hw.1).getG 0 rfl) hy42 (Fr.refl No _) (fun h => h) 1 7 (by kernel_rfl)) (by kernel_rfl)) ?_; clear hA ac; intro ac hA
                     refine st hA (by kernel_rfl) (by kernel_rfl) (by kernel_rfl) (Runs.cells (fun b => Value.pointer (some ⟨b, 0, none⟩)) #[Value.int .u64 0, Value.int .i64 0, Value.int .i64 0, Value.int .u64 0, Value.int .i64 0, Value.int .i64 0, Value.int .i64 0] 31 (fun _ => by kernel_rfl) hW ?_); clear hA ac hW; intro b47 w48 hW hb47 hfw48 ac hA
                     refine st hA (by kernel_rfl) (by kernel_rfl) (by kernel_rfl) (Runs.store (v := Value.agg #[Value.int .u64 y42.x.wr, Value.int .i64 y42.x.ws.f, Value.int .i64 y42.x.ws.pc, Value.int .u64 y42.x.rd, Value.int .i64 y42.x.rs.f, Value.int .i64 y42.x.rs.pc, Value.int .i64 y42.x.vec]) (b := b47) (j := 0) (n := 7) (cs' := #[Value.int .u64 y42.x.wr, Value.int .i64 y42.x.ws.f, Value.int .i64 y42.x.ws.pc, Value.int .u64 y42.x.rd, Value.int .i64 y42.x.rs.f, Value.int .i64 y42.x.rs.pc, Value.int .i64 y42.x.vec]) (H' := [Cel b47 #[Value.int .u64 y42.x.wr, Value.int .i64 y42.x.ws.f, Value.int .i64 y42.x.ws.pc, Value.int .u64 y42.x.rd, Value.int .i64 y42.x.rs.f, Value.int .i64 y42.x.rs.pc, Value.int .i64 y42.x.vec] 31, rowR 35 1 enU4 (Value.slice Ao17 (g16).length co18) g16, ShR n4 n5 V]) (by kernel_rfl) (by kernel_rfl) (by kernel_rfl) (by kernel_rfl) (by kernel_rfl) hW 0 (by rfl) (Nat.le_of_ble_eq_true (by kernel_rfl)) (by kernel_rfl) (by rfl) ?_); clear hA ac hW; intro w49 hW ac hA
                     refine st_rd (v := Value.bool false) hA (by kernel_rfl) (by kernel_rfl) (by kernel_rfl) hW.cls (Rd.pure fun _ => by kernel_rfl) ?_; clear hA ac; intro ac hA
                     refine wpList_nil ?_
                     refine thenN ?_
                     refine wp_seq ?_
                     refine wp_seq ?_
                     refine wp_region_lit ?_
                     refine st_rd (v := Value.int .i64 ((i4 : Nat) : Int)) hA (by kernel_rfl) (by kernel_rfl) (by kernel_rfl) hW.cls (Rd.pure fun _ => by kernel_rfl) ?_; clear hA ac; intro ac hA
                     refine st_rd (v := Value.int .i64 ((i4 + 1 : Nat) : Int)) hA (by kernel_rfl) (by kernel_rfl) (by kernel_rfl) hW.cls (Rd.pureE (v0 := Value.int .i64 (IntKind.i64.wrap ((((i4 : Nat) : Int) : Int) + 1))) (fun _ => by kernel_rfl) (congrArg (Value.int .i64) ((w_i64 (x := (((i4 : Nat) : Int) : Int) + 1) (by omega) (by omega)).trans (by omega)))) ?_; clear hA ac; intro ac hA
                     refine st_rd (v := Value.int .i64 ((i4 + 1 : Nat) : Int)) hA (by kernel_rfl) (by kernel_rfl) (by kernel_rfl) hW.cls (Rd.pure fun _ => by kernel_rfl) ?_; clear hA ac; intro ac hA
                     refine wpList_nil ?_
                     refine thenN ?_
                     refine wp_block ?_
                     refine wp_loop_m (fun m_ ac_ wl_ => ∃ k5 : Nat, ∃ la : Shade, m_ = l.length - k5 ∧ (i4 + 1 ≤ k5 ∧ k5 ≤ l.length) ∧ (la = atL (lays (l.take k5)) y42.addr) ∧ Fm 175 [] [(0, Value.slice (some ⟨b43, o44, none⟩) l.length c_l), (3, Value.pointer (some ⟨n4, 0, none⟩)), (5, Value.slice Ao17 (g16).length co18), (9, Value.int .i64 ((i4 : Nat) : Int)), (10, Value.pointer (some ⟨b47, 0, none⟩)), (11, Value.bool false), (12, Value.int .i64 ((k5 : Nat) : Int))] ac_ ∧ Ws w No [Cel b47 #[Value.int .u64 la.wr, Value.int .i64 la.ws.f, Value.int .i64 la.ws.pc, Value.int .u64 la.rd, Value.int .i64 la.rs.f, Value.int .i64 la.rs.pc, Value.int .i64 la.vec] 31, rowR 35 1 enU4 (Value.slice Ao17 (g16).length co18) g16, ShR n4 n5 V] [roR (some ⟨b43, o44, none⟩) 8 enAct22 l] wl_) _ ⟨i4 + 1, y42.x, rfl, by omega, by rw [lays_snoc hy42, atL_act (rise_lays _), if_pos ⟨rfl, hoy_⟩], hA.sub ⟨⟨by kernel_rfl, by kernel_rfl⟩, ⟨by kernel_rfl, by kernel_rfl⟩, ⟨by kernel_rfl, by kernel_rfl⟩, ⟨by kernel_rfl, by kernel_rfl⟩, ⟨by kernel_rfl, by kernel_rfl⟩, ⟨by kernel_rfl, by kernel_rfl⟩, ⟨by kernel_rfl, by kernel_rfl⟩, trivial⟩, (hW.pick [0, 1, 2] (by decide) rfl).pickG [0] rfl⟩ ?_
                     clear hA ac hW; rintro m_ ac w50 ⟨k5, la, rfl, hk5, hla, hA, hW⟩
                     refine wp_seq ?_
                     refine wp_seq ?_
                     refine wp_region_lit ?_
                     refine st_rd (v := Value.int .i64 ((k5 : Nat) : Int)) hA (by kernel_rfl) (by kernel_rfl) (by kernel_rfl) hW.cls (Rd.pure fun _ => by kernel_rfl) ?_; clear hA ac; intro ac hA
                     refine st_rd (v := Value.slice (some ⟨b43, o44, none⟩) l.length c_l) hA (by kernel_rfl) (by kernel_rfl) (by kernel_rfl) hW.cls (Rd.pure fun _ => by kernel_rfl) ?_; clear hA ac; intro ac hA
                     refine st_rd (v := Value.int .i64 ((l.length : Nat) : Int)) hA (by kernel_rfl) (by kernel_rfl) (by kernel_rfl) hW.cls (Rd.pure fun _ => by kernel_rfl) ?_; clear hA ac; intro ac hA
                     refine st_rd (v := Value.bool (decide ((((k5 : Nat) : Int) : Int) < (((l.length : Nat) : Int) : Int)))) hA (by kernel_rfl) (by kernel_rfl) (by kernel_rfl) hW.cls (Rd.pure fun _ => by kernel_rfl) ?_; clear hA ac; intro ac hA
                     refine wpList_nil ?_
                     refine thenN ?_
                     refine wp_cond_split (t := decide ((((k5 : Nat) : Int) : Int) < (((l.length : Nat) : Int) : Int))) (hA.eval (by kernel_rfl)) (fun h51 => ?_) (fun h51 => ?_)
                     · skip
                       have h51 := of_decide_eq_true h51
                       first
                       | (exfalso; clear hA hW; omega)
                       | (exfalso; clear hA hW; refine h51 ?_; rw [hR_.at_]; exact hla2_; done)
                       | (
                         refine wp_skip ?_
                         refine thenN ?_
                         refine wp_seq ?_
                         refine wp_block ?_
                         refine wp_seq ?_
                         refine q_region (by kernel_rfl) (by kernel_rfl) hW ?_
                         refine sq_rd (v := Value.slice (some ⟨b43, o44, none⟩) l.length c_l) hA (by kernel_rfl) (by kernel_rfl) (by kernel_rfl) (Rd.pure fun _ => by kernel_rfl) ?_; clear hA ac; intro ac hA
                         refine sq_rd (v := Value.int .i64 ((k5 : Nat) : Int)) hA (by kernel_rfl) (by kernel_rfl) (by kernel_rfl) (Rd.pure fun _ => by kernel_rfl) ?_; clear hA ac; intro ac hA
                         obtain ⟨y52, hy52⟩ : ∃ y, l[k5]? = some y := ⟨_, List.getElem?_eq_getElem (by first | omega | (simp; done) | (simp; omega))⟩
                         refine sq_rd (v := Value.pointer (some ⟨b43, o44 + k5 * 8, none⟩)) hA (by kernel_rfl) (by kernel_rfl) (by kernel_rfl) (Rd.indexAddr (e := 37) (sz := 8) (b := b43) (off := o44) (n := l.length) (c := c_l) (k := k5) (by kernel_rfl) (by kernel_rfl) (by first | omega | (simp; done) | (simp; omega)) (fun _ => by kernel_rfl) (fun _ => by kernel_rfl)) ?_; clear hA ac; intro ac hA
                         refine sq_rd (v := Value.pointer (some ⟨b43, o44 + k5 * 8, none⟩)) hA (by kernel_rfl) (by kernel_rfl) (by kernel_rfl) (Rd.pure fun _ => by kernel_rfl) ?_; clear hA ac; intro ac hA
                         refine sq_rd (v := Value.int .u32 y52.addr) hA (by kernel_rfl) (by kernel_rfl) (by kernel_rfl) (Rd.loadRow (b := b43) (i := o44 + k5 * 8) (xs := [Value.int .u32 y52.addr]) (by kernel_rfl) (fun _ hw => row_ld ((hw.1).getG 0 rfl) hy52 (Fr.refl No _) (fun h => h) 0 1 (by kernel_rfl)) (by kernel_rfl)) ?_; clear hA ac; intro ac hA
                         refine sq_rd (v := Value.slice (some ⟨b43, o44, none⟩) l.length c_l) hA (by kernel_rfl) (by kernel_rfl) (by kernel_rfl) (Rd.pure fun _ => by kernel_rfl) ?_; clear hA ac; intro ac hA
                         refine sq_rd (v := Value.int .i64 ((i4 : Nat) : Int)) hA (by kernel_rfl) (by kernel_rfl) (by kernel_rfl) (Rd.pure fun _ => by kernel_rfl) ?_; clear hA ac; intro ac hA
                         refine sq_rd (v := Value.pointer (some ⟨b43, o44 + i4 * 8, none⟩)) hA (by kernel_rfl) (by kernel_rfl) (by kernel_rfl) (Rd.indexAddr (e := 37) (sz := 8) (b := b43) (off := o44) (n := l.length) (c := c_l) (k := i4) (by kernel_rfl) (by kernel_rfl) (by first | omega | (simp; done) | (simp; omega)) (fun _ => by kernel_rfl) (fun _ => by kernel_rfl)) ?_; clear hA ac; intro ac hA
                         refine sq_rd (v := Value.pointer (some ⟨b43, o44 + i4 * 8, none⟩)) hA (by kernel_rfl) (by kernel_rfl) (by kernel_rfl) (Rd.pure fun _ => by kernel_rfl) ?_; clear hA ac; intro ac hA
                         refine sq_rd (v := Value.int .u32 y42.addr) hA (by kernel_rfl) (by kernel_rfl) (by kernel_rfl) (Rd.loadRow (b := b43) (i := o44 + i4 * 8) (xs := [Value.int .u32 y42.addr]) (by kernel_rfl) (fun _ hw => row_ld ((hw.1).getG 0 rfl) hy42 (Fr.refl No _) (fun h => h) 0 1 (by kernel_rfl)) (by kernel_rfl)) ?_; clear hA ac; intro ac hA
                         refine sq_rd (v := Value.bool ((y52.addr : Int) == (y42.addr : Int))) hA (by kernel_rfl) (by kernel_rfl) (by kernel_rfl) (Rd.pure fun _ => by kernel_rfl) ?_; clear hA ac; intro ac hA
                         refine sq_rd (v := Value.bool ((y52.addr : Int) == (y42.addr : Int))) hA (by kernel_rfl) (by kernel_rfl) (by kernel_rfl) (Rd.pure fun _ => by kernel_rfl) ?_; clear hA ac; intro ac hA
                         rcases Bool.eq_false_or_eq_true ((y52.addr : Int) == (y42.addr : Int)) with h53 | h53
                         · skip
                           rw [h53] at hA
                           have h53 := eq_of_beq h53
                           first
                           | (exfalso; clear hA hW; omega)
                           | (exfalso; clear hA hW; refine h53 ?_; rw [hR_.at_]; exact hla2_; done)
                           | (
                             refine sq_rd (v := Value.slice (some ⟨b43, o44, none⟩) l.length c_l) hA (by kernel_rfl) (by kernel_rfl) (by kernel_rfl) (Rd.pure fun _ => by kernel_rfl) ?_; clear hA ac; intro ac hA
                             refine sq_rd (v := Value.int .i64 ((k5 : Nat) : Int)) hA (by kernel_rfl) (by kernel_rfl) (by kernel_rfl) (Rd.pure fun _ => by kernel_rfl) ?_; clear hA ac; intro ac hA
                             refine sq_rd (v := Value.pointer (some ⟨b43, o44 + k5 * 8, none⟩)) hA (by kernel_rfl) (by kernel_rfl) (by kernel_rfl) (Rd.indexAddr (e := 37) (sz := 8) (b := b43) (off := o44) (n := l.length) (c := c_l) (k := k5) (by kernel_rfl) (by kernel_rfl) (by first | omega | (simp; done) | (simp; omega)) (fun _ => by kernel_rfl) (fun _ => by kernel_rfl)) ?_; clear hA ac; intro ac hA
                             refine sq_rd (v := Value.pointer (some ⟨b43, o44 + k5 * 8 + 1, none⟩)) hA (by kernel_rfl) (by kernel_rfl) (by kernel_rfl) (Rd.pure fun _ => by kernel_rfl) ?_; clear hA ac; intro ac hA
                             refine sq_rd (v := Value.agg #[Value.int .u64 y52.x.wr, Value.int .i64 y52.x.ws.f, Value.int .i64 y52.x.ws.pc, Value.int .u64 y52.x.rd, Value.int .i64 y52.x.rs.f, Value.int .i64 y52.x.rs.pc, Value.int .i64 y52.x.vec]) hA (by kernel_rfl) (by kernel_rfl) (by kernel_rfl) (Rd.loadRow (b := b43) (i := o44 + k5 * 8 + 1) (xs := [Value.int .u64 y52.x.wr, Value.int .i64 y52.x.ws.f, Value.int .i64 y52.x.ws.pc, Value.int .u64 y52.x.rd, Value.int .i64 y52.x.rs.f, Value.int .i64 y52.x.rs.pc, Value.int .i64 y52.x.vec]) (by kernel_rfl) (fun _ hw => row_ld ((hw.1).getG 0 rfl) hy52 (Fr.refl No _) (fun h => h) 1 7 (by kernel_rfl)) (by kernel_rfl)) ?_; clear hA ac; intro ac hA
                             refine sq_call (v := Value.bool (Shade.ok y52.x)) hA (by kernel_rfl) (by kernel_rfl) (by kernel_rfl) (fun _ => by kernel_rfl) (Cls.callNC fun wx hwx => e_rright y52.x wx (by first | omega | assumption | exact (hwf _ (List.mem_of_getElem? (by assumption))).1 | exact (hwf _ (List.mem_of_getElem? (by assumption))).2)) ?_; clear hA ac; intro ac hA
                             refine sq_rd (v := Value.bool (Shade.ok y52.x)) hA (by kernel_rfl) (by kernel_rfl) (by kernel_rfl) (Rd.pure fun _ => by kernel_rfl) ?_; clear hA ac; intro ac hA
                             refine sq_nil ?_; intro w54 hww54; have hW := hww54.1; have hfw54 := hww54.2; clear hww54
                             refine thenN ?_
                             refine wp_cond_split (t := Shade.ok y52.x) (hA.eval (by kernel_rfl)) (fun h55 => ?_) (fun h55 => ?_)
                             · skip
                               first
                               | (exfalso; clear hA hW; omega)
                               | (exfalso; clear hA hW; refine h55 ?_; rw [hR_.at_]; exact hla2_; done)
                               | (
                                 refine wp_region_lit ?_
                                 refine st_rd (v := Value.slice (some ⟨b43, o44, none⟩) l.length c_l) hA (by kernel_rfl) (by kernel_rfl) (by kernel_rfl) hW.cls (Rd.pure fun _ => by kernel_rfl) ?_; clear hA ac; intro ac hA
                                 refine st_rd (v := Value.int .i64 ((k5 : Nat) : Int)) hA (by kernel_rfl) (by kernel_rfl) (by kernel_rfl) hW.cls (Rd.pure fun _ => by kernel_rfl) ?_; clear hA ac; intro ac hA
                                 refine st_rd (v := Value.pointer (some ⟨b43, o44 + k5 * 8, none⟩)) hA (by kernel_rfl) (by kernel_rfl) (by kernel_rfl) hW.cls (Rd.indexAddr (e := 37) (sz := 8) (b := b43) (off := o44) (n := l.length) (c := c_l) (k := k5) (by kernel_rfl) (by kernel_rfl) (by first | omega | (simp; done) | (simp; omega)) (fun _ => by kernel_rfl) (fun _ => by kernel_rfl)) ?_; clear hA ac; intro ac hA
                                 refine st_rd (v := Value.pointer (some ⟨b43, o44 + k5 * 8 + 1, none⟩)) hA (by kernel_rfl) (by kernel_rfl) (by kernel_rfl) hW.cls (Rd.pure fun _ => by kernel_rfl) ?_; clear hA ac; intro ac hA
                                 refine st_rd (v := Value.agg #[Value.int .u64 y52.x.wr, Value.int .i64 y52.x.ws.f, Value.int .i64 y52.x.ws.pc, Value.int .u64 y52.x.rd, Value.int .i64 y52.x.rs.f, Value.int .i64 y52.x.rs.pc, Value.int .i64 y52.x.vec]) hA (by kernel_rfl) (by kernel_rfl) (by kernel_rfl) hW.cls (Rd.loadRow (b := b43) (i := o44 + k5 * 8 + 1) (xs := [Value.int .u64 y52.x.wr, Value.int .i64 y52.x.ws.f, Value.int .i64 y52.x.ws.pc, Value.int .u64 y52.x.rd, Value.int .i64 y52.x.rs.f, Value.int .i64 y52.x.rs.pc, Value.int .i64 y52.x.vec]) (by kernel_rfl) (fun _ hw => row_ld ((hw.1).getG 0 rfl) hy52 (Fr.refl No _) (fun h => h) 1 7 (by kernel_rfl)) (by kernel_rfl)) ?_; clear hA ac; intro ac hA
                                 refine st hA (by kernel_rfl) (by kernel_rfl) (by kernel_rfl) (Runs.store (v := Value.agg #[Value.int .u64 y52.x.wr, Value.int .i64 y52.x.ws.f, Value.int .i64 y52.x.ws.pc, Value.int .u64 y52.x.rd, Value.int .i64 y52.x.rs.f, Value.int .i64 y52.x.rs.pc, Value.int .i64 y52.x.vec]) (b := b47) (j := 0) (n := 7) (cs' := #[Value.int .u64 y52.x.wr, Value.int .i64 y52.x.ws.f, Value.int .i64 y52.x.ws.pc, Value.int .u64 y52.x.rd, Value.int .i64 y52.x.rs.f, Value.int .i64 y52.x.rs.pc, Value.int .i64 y52.x.vec]) (H' := [Cel b47 #[Value.int .u64 y52.x.wr, Value.int .i64 y52.x.ws.f, Value.int .i64 y52.x.ws.pc, Value.int .u64 y52.x.rd, Value.int .i64 y52.x.rs.f, Value.int .i64 y52.x.rs.pc, Value.int .i64 y52.x.vec] 31, rowR 35 1 enU4 (Value.slice Ao17 (g16).length co18) g16, ShR n4 n5 V]) (by kernel_rfl) (by kernel_rfl) (by kernel_rfl) (by kernel_rfl) (by kernel_rfl) hW 0 (by rfl) (Nat.le_of_ble_eq_true (by kernel_rfl)) (by kernel_rfl) (by rfl) ?_); clear hA ac hW; intro w56 hW ac hA
                                 refine wpList_nil ?_
                                 refine blkN ?_
                                 refine thenN ?_
                                 refine wp_region_lit ?_
                                 refine st_rd (v := Value.int .i64 ((k5 : Nat) : Int)) hA (by kernel_rfl) (by kernel_rfl) (by kernel_rfl) hW.cls (Rd.pure fun _ => by kernel_rfl) ?_; clear hA ac; intro ac hA
                                 refine st_rd (v := Value.int .i64 ((k5 + 1 : Nat) : Int)) hA (by kernel_rfl) (by kernel_rfl) (by kernel_rfl) hW.cls (Rd.pureE (v0 := Value.int .i64 (IntKind.i64.wrap ((((k5 : Nat) : Int) : Int) + 1))) (fun _ => by kernel_rfl) (congrArg (Value.int .i64) ((w_i64 (x := (((k5 : Nat) : Int) : Int) + 1) (by omega) (by omega)).trans (by omega)))) ?_; clear hA ac; intro ac hA
                                 refine st_rd (v := Value.int .i64 ((k5 + 1 : Nat) : Int)) hA (by kernel_rfl) (by kernel_rfl) (by kernel_rfl) hW.cls (Rd.pure fun _ => by kernel_rfl) ?_; clear hA ac; intro ac hA
                                 refine wpList_nil ?_
                                 refine thenN ?_
                                 exact ⟨l.length - (k5 + 1), by omega, k5 + 1, y52.x, rfl, by omega, by rw [lays_snoc hy52, atL_act (rise_lays _), if_pos ⟨h53, h55⟩], hA.sub ⟨⟨by kernel_rfl, by kernel_rfl⟩, ⟨by kernel_rfl, by kernel_rfl⟩, ⟨by kernel_rfl, by kernel_rfl⟩, ⟨by kernel_rfl, by kernel_rfl⟩, ⟨by kernel_rfl, by kernel_rfl⟩, ⟨by kernel_rfl, by kernel_rfl⟩, ⟨by kernel_rfl, by kernel_rfl⟩, trivial⟩, (hW.pick [0, 1, 2] (by decide) rfl).pickG [0] rfl⟩)
                             · skip
                               first
                               | (exfalso; clear hA hW; omega)
                               | (exfalso; clear hA hW; refine h55 ?_; rw [hR_.at_]; exact hla2_; done)
                               | (
                                 refine wp_skip ?_
                                 refine blkN ?_
                                 refine thenN ?_
                                 refine wp_region_lit ?_
                                 refine st_rd (v := Value.int .i64 ((k5 : Nat) : Int)) hA (by kernel_rfl) (by kernel_rfl) (by kernel_rfl) hW.cls (Rd.pure fun _ => by kernel_rfl) ?_; clear hA ac; intro ac hA
                                 refine st_rd (v := Value.int .i64 ((k5 + 1 : Nat) : Int)) hA (by kernel_rfl) (by kernel_rfl) (by kernel_rfl) hW.cls (Rd.pureE (v0 := Value.int .i64 (IntKind.i64.wrap ((((k5 : Nat) : Int) : Int) + 1))) (fun _ => by kernel_rfl) (congrArg (Value.int .i64) ((w_i64 (x := (((k5 : Nat) : Int) : Int) + 1) (by omega) (by omega)).trans (by omega)))) ?_; clear hA ac; intro ac hA
                                 refine st_rd (v := Value.int .i64 ((k5 + 1 : Nat) : Int)) hA (by kernel_rfl) (by kernel_rfl) (by kernel_rfl) hW.cls (Rd.pure fun _ => by kernel_rfl) ?_; clear hA ac; intro ac hA
                                 refine wpList_nil ?_
                                 refine thenN ?_
                                 exact ⟨l.length - (k5 + 1), by omega, k5 + 1, la, rfl, by omega, by rw [lays_snoc hy52, atL_act (rise_lays _), if_neg (fun e_ => by rw [h55] at e_; cases e_.2), ← hla], hA.sub ⟨⟨by kernel_rfl, by kernel_rfl⟩, ⟨by kernel_rfl, by kernel_rfl⟩, ⟨by kernel_rfl, by kernel_rfl⟩, ⟨by kernel_rfl, by kernel_rfl⟩, ⟨by kernel_rfl, by kernel_rfl⟩, ⟨by kernel_rfl, by kernel_rfl⟩, ⟨by kernel_rfl, by kernel_rfl⟩, trivial⟩, (hW.pick [0, 1, 2] (by decide) rfl).pickG [0] rfl⟩))
                         · skip
                           rw [h53] at hA
                           have h53 := ne_of_beq_false h53
                           first
                           | (exfalso; clear hA hW; omega)
                           | (exfalso; clear hA hW; refine h53 ?_; rw [hR_.at_]; exact hla2_; done)
                           | (
                             refine sq_skip hA (by kernel_rfl) (by kernel_rfl) ?_; clear hA ac; intro ac hA
                             refine sq_skip hA (by kernel_rfl) (by kernel_rfl) ?_; clear hA ac; intro ac hA
                             refine sq_skip hA (by kernel_rfl) (by kernel_rfl) ?_; clear hA ac; intro ac hA
                             refine sq_skip hA (by kernel_rfl) (by kernel_rfl) ?_; clear hA ac; intro ac hA
                             refine sq_skip hA (by kernel_rfl) (by kernel_rfl) ?_; clear hA ac; intro ac hA
                             refine sq_skip hA (by kernel_rfl) (by kernel_rfl) ?_; clear hA ac; intro ac hA
                             refine sq_rd (v := Value.bool false) hA (by kernel_rfl) (by kernel_rfl) (by kernel_rfl) (Rd.pure fun _ => by kernel_rfl) ?_; clear hA ac; intro ac hA
                             refine sq_nil ?_; intro w57 hww57; have hW := hww57.1; have hfw57 := hww57.2; clear hww57
                             refine thenN ?_
                             refine wp_cond_false (hA.eval (by kernel_rfl)) ?_
                             refine wp_skip ?_
                             refine blkN ?_
                             refine thenN ?_
                             refine wp_region_lit ?_
                             refine st_rd (v := Value.int .i64 ((k5 : Nat) : Int)) hA (by kernel_rfl) (by kernel_rfl) (by kernel_rfl) hW.cls (Rd.pure fun _ => by kernel_rfl) ?_; clear hA ac; intro ac hA
                             refine st_rd (v := Value.int .i64 ((k5 + 1 : Nat) : Int)) hA (by kernel_rfl) (by kernel_rfl) (by kernel_rfl) hW.cls (Rd.pureE (v0 := Value.int .i64 (IntKind.i64.wrap ((((k5 : Nat) : Int) : Int) + 1))) (fun _ => by kernel_rfl) (congrArg (Value.int .i64) ((w_i64 (x := (((k5 : Nat) : Int) : Int) + 1) (by omega) (by omega)).trans (by omega)))) ?_; clear hA ac; intro ac hA
                             refine st_rd (v := Value.int .i64 ((k5 + 1 : Nat) : Int)) hA (by kernel_rfl) (by kernel_rfl) (by kernel_rfl) hW.cls (Rd.pure fun _ => by kernel_rfl) ?_; clear hA ac; intro ac hA
                             refine wpList_nil ?_
                             refine thenN ?_
                             exact ⟨l.length - (k5 + 1), by omega, k5 + 1, la, rfl, by omega, by rw [lays_snoc hy52, atL_act (rise_lays _), if_neg (fun e_ => h53 e_.1), ← hla], hA.sub ⟨⟨by kernel_rfl, by kernel_rfl⟩, ⟨by kernel_rfl, by kernel_rfl⟩, ⟨by kernel_rfl, by kernel_rfl⟩, ⟨by kernel_rfl, by kernel_rfl⟩, ⟨by kernel_rfl, by kernel_rfl⟩, ⟨by kernel_rfl, by kernel_rfl⟩, ⟨by kernel_rfl, by kernel_rfl⟩, trivial⟩, (hW.pick [0, 1, 2] (by decide) rfl).pickG [0] rfl⟩))
                     · skip
                       have h51 := of_decide_eq_false h51
                       first
                       | (exfalso; clear hA hW; omega)
                       | (exfalso; clear hA hW; refine h51 ?_; rw [hR_.at_]; exact hla2_; done)
                       | (
                         refine wp_exit ?_
                         refine thenX ?_
                         refine thenX ?_
                         refine blkX ?_
                         refine thenN ?_
                         refine wp_seq ?_
                         refine wp_seq ?_
                         have hla2_ : atL (lays l) y42.addr = la := by rw [hla, List.take_of_length_le (by omega)]
                         refine wp_region_lit ?_
                         refine st_rd (v := Value.int .i64 0) hA (by kernel_rfl) (by kernel_rfl) (by kernel_rfl) hW.cls (Rd.pure fun _ => by kernel_rfl) ?_; clear hA ac; intro ac hA
                         refine wpList_nil ?_
                         refine thenN ?_
                         refine wp_block ?_
                         refine wp_loop_m (fun m_ ac_ wl_ => ∃ j6 : Nat, ∃ th : Bool, m_ = g16.length - j6 ∧ (j6 ≤ g16.length) ∧ (TInv g16 (y42.addr / 4096) j6 th) ∧ Fm 175 [] [(0, Value.slice (some ⟨b43, o44, none⟩) l.length c_l), (3, Value.pointer (some ⟨n4, 0, none⟩)), (5, Value.slice Ao17 (g16).length co18), (9, Value.int .i64 ((i4 : Nat) : Int)), (10, Value.pointer (some ⟨b47, 0, none⟩)), (11, Value.bool th), (13, Value.int .i64 ((j6 : Nat) : Int))] ac_ ∧ Ws w No [Cel b47 #[Value.int .u64 la.wr, Value.int .i64 la.ws.f, Value.int .i64 la.ws.pc, Value.int .u64 la.rd, Value.int .i64 la.rs.f, Value.int .i64 la.rs.pc, Value.int .i64 la.vec] 31, rowR 35 1 enU4 (Value.slice Ao17 (g16).length co18) g16, ShR n4 n5 V] [roR (some ⟨b43, o44, none⟩) 8 enAct22 l] wl_) _ ⟨0, false, rfl, by omega, by exact ti_0, hA.sub ⟨⟨by kernel_rfl, by kernel_rfl⟩, ⟨by kernel_rfl, by kernel_rfl⟩, ⟨by kernel_rfl, by kernel_rfl⟩, ⟨by kernel_rfl, by kernel_rfl⟩, ⟨by kernel_rfl, by kernel_rfl⟩, ⟨by kernel_rfl, by kernel_rfl⟩, ⟨by kernel_rfl, by kernel_rfl⟩, trivial⟩, (hW.pick [0, 1, 2] (by decide) rfl).pickG [0] rfl⟩ ?_
                         clear hA ac hW; rintro m_ ac w58 ⟨j6, th, rfl, hj6, hT, hA, hW⟩
                         refine wp_seq ?_
                         refine wp_seq ?_
                         refine wp_region_lit ?_
                         refine st_rd (v := Value.int .i64 ((j6 : Nat) : Int)) hA (by kernel_rfl) (by kernel_rfl) (by kernel_rfl) hW.cls (Rd.pure fun _ => by kernel_rfl) ?_; clear hA ac; intro ac hA
                         refine st_rd (v := Value.slice Ao17 (g16).length co18) hA (by kernel_rfl) (by kernel_rfl) (by kernel_rfl) hW.cls (Rd.pure fun _ => by kernel_rfl) ?_; clear hA ac; intro ac hA
                         refine st_rd (v := Value.int .i64 (((g16).length : Nat) : Int)) hA (by kernel_rfl) (by kernel_rfl) (by kernel_rfl) hW.cls (Rd.pure fun _ => by kernel_rfl) ?_; clear hA ac; intro ac hA
                         refine st_rd (v := Value.bool (decide ((((j6 : Nat) : Int) : Int) < ((((g16).length : Nat) : Int) : Int)))) hA (by kernel_rfl) (by kernel_rfl) (by kernel_rfl) hW.cls (Rd.pure fun _ => by kernel_rfl) ?_; clear hA ac; intro ac hA
                         refine wpList_nil ?_
                         refine thenN ?_
                         refine wp_cond_split (t := decide ((((j6 : Nat) : Int) : Int) < ((((g16).length : Nat) : Int) : Int))) (hA.eval (by kernel_rfl)) (fun h59 => ?_) (fun h59 => ?_)
                         · skip
                           have h59 := of_decide_eq_true h59
                           first
                           | (exfalso; clear hA hW; omega)
                           | (exfalso; clear hA hW; refine h59 ?_; rw [hR_.at_]; exact hla2_; done)
                           | (
                             refine wp_skip ?_
                             refine thenN ?_
                             refine wp_seq ?_
                             refine wp_block ?_
                             refine q_region (by kernel_rfl) (by kernel_rfl) hW ?_
                             refine sq_rd (v := Value.bool th) hA (by kernel_rfl) (by kernel_rfl) (by kernel_rfl) (Rd.pure fun _ => by kernel_rfl) ?_; clear hA ac; intro ac hA
                             refine sq_rd (v := Value.bool th) hA (by kernel_rfl) (by kernel_rfl) (by kernel_rfl) (Rd.pure fun _ => by kernel_rfl) ?_; clear hA ac; intro ac hA
                             rcases Bool.eq_false_or_eq_true (th) with h60 | h60
                             · skip
                               rw [h60] at hA
                               first
                               | (exfalso; clear hA hW; omega)
                               | (exfalso; clear hA hW; refine h60 ?_; rw [hR_.at_]; exact hla2_; done)
                               | (
                                 refine sq_skip hA (by kernel_rfl) (by kernel_rfl) ?_; clear hA ac; intro ac hA
                                 refine sq_skip hA (by kernel_rfl) (by kernel_rfl) ?_; clear hA ac; intro ac hA
                                 refine sq_skip hA (by kernel_rfl) (by kernel_rfl) ?_; clear hA ac; intro ac hA
                                 refine sq_skip hA (by kernel_rfl) (by kernel_rfl) ?_; clear hA ac; intro ac hA
                                 refine sq_skip hA (by kernel_rfl) (by kernel_rfl) ?_; clear hA ac; intro ac hA
                                 refine sq_skip hA (by kernel_rfl) (by kernel_rfl) ?_; clear hA ac; intro ac hA
                                 refine sq_skip hA (by kernel_rfl) (by kernel_rfl) ?_; clear hA ac; intro ac hA
                                 refine sq_skip hA (by kernel_rfl) (by kernel_rfl) ?_; clear hA ac; intro ac hA
                                 refine sq_skip hA (by kernel_rfl) (by kernel_rfl) ?_; clear hA ac; intro ac hA
                                 refine sq_skip hA (by kernel_rfl) (by kernel_rfl) ?_; clear hA ac; intro ac hA
                                 refine sq_skip hA (by kernel_rfl) (by kernel_rfl) ?_; clear hA ac; intro ac hA
                                 refine sq_rd (v := Value.bool true) hA (by kernel_rfl) (by kernel_rfl) (by kernel_rfl) (Rd.pure fun _ => by kernel_rfl) ?_; clear hA ac; intro ac hA
                                 refine sq_rd (v := Value.bool true) hA (by kernel_rfl) (by kernel_rfl) (by kernel_rfl) (Rd.pure fun _ => by kernel_rfl) ?_; clear hA ac; intro ac hA
                                 refine sq_nil ?_; intro w61 hww61; have hW := hww61.1; have hfw61 := hww61.2; clear hww61
                                 refine blkN ?_
                                 refine thenN ?_
                                 refine wp_region_lit ?_
                                 refine st_rd (v := Value.int .i64 ((j6 : Nat) : Int)) hA (by kernel_rfl) (by kernel_rfl) (by kernel_rfl) hW.cls (Rd.pure fun _ => by kernel_rfl) ?_; clear hA ac; intro ac hA
                                 refine st_rd (v := Value.int .i64 ((j6 + 1 : Nat) : Int)) hA (by kernel_rfl) (by kernel_rfl) (by kernel_rfl) hW.cls (Rd.pureE (v0 := Value.int .i64 (IntKind.i64.wrap ((((j6 : Nat) : Int) : Int) + 1))) (fun _ => by kernel_rfl) (congrArg (Value.int .i64) ((w_i64 (x := (((j6 : Nat) : Int) : Int) + 1) (by omega) (by omega)).trans (by omega)))) ?_; clear hA ac; intro ac hA
                                 refine st_rd (v := Value.int .i64 ((j6 + 1 : Nat) : Int)) hA (by kernel_rfl) (by kernel_rfl) (by kernel_rfl) hW.cls (Rd.pure fun _ => by kernel_rfl) ?_; clear hA ac; intro ac hA
                                 refine wpList_nil ?_
                                 refine thenN ?_
                                 exact ⟨g16.length - (j6 + 1), by omega, j6 + 1, true, rfl, by omega, by obtain ⟨z_, hz_⟩ : ∃ z, g16[j6]? = some z := ⟨_, List.getElem?_eq_getElem (by omega)⟩; exact ti_t hT hz_ h60, hA.sub ⟨⟨by kernel_rfl, by kernel_rfl⟩, ⟨by kernel_rfl, by kernel_rfl⟩, ⟨by kernel_rfl, by kernel_rfl⟩, ⟨by kernel_rfl, by kernel_rfl⟩, ⟨by kernel_rfl, by kernel_rfl⟩, ⟨by kernel_rfl, by kernel_rfl⟩, ⟨by kernel_rfl, by kernel_rfl⟩, trivial⟩, (hW.pick [0, 1, 2] (by decide) rfl).pickG [0] rfl⟩)
                             · skip
                               rw [h60] at hA
                               first
                               | (exfalso; clear hA hW; omega)
                               | (exfalso; clear hA hW; refine h60 ?_; rw [hR_.at_]; exact hla2_; done)
                               | (
                                 refine sq_rd (v := Value.slice Ao17 (g16).length co18) hA (by kernel_rfl) (by kernel_rfl) (by kernel_rfl) (Rd.pure fun _ => by kernel_rfl) ?_; clear hA ac; intro ac hA
                                 refine sq_rd (v := Value.int .i64 ((j6 : Nat) : Int)) hA (by kernel_rfl) (by kernel_rfl) (by kernel_rfl) (Rd.pure fun _ => by kernel_rfl) ?_; clear hA ac; intro ac hA
                                 obtain ⟨y62, hy62⟩ : ∃ y, g16[j6]? = some y := ⟨_, List.getElem?_eq_getElem (by first | omega | (simp; done) | (simp; omega))⟩
                                 obtain ⟨b63, o64, rfl, hbb63⟩ := row_some (rowR_at ((hW).get 1 rfl) elt_U4.len) hy62
                                 refine sq_rd (v := Value.pointer (some ⟨b63, o64 + j6 * 1, none⟩)) hA (by kernel_rfl) (by kernel_rfl) (by kernel_rfl) (Rd.indexAddr (e := 35) (sz := 1) (b := b63) (off := o64) (n := (g16).length) (c := co18) (k := j6) (by kernel_rfl) (by kernel_rfl) (by first | omega | (simp; done) | (simp; omega)) (fun _ => by kernel_rfl) (fun _ => by kernel_rfl)) ?_; clear hA ac; intro ac hA
                                 refine sq_rd (v := Value.int .u32 y62) hA (by kernel_rfl) (by kernel_rfl) (by kernel_rfl) (Rd.loadRow (b := b63) (i := o64 + j6 * 1) (xs := [Value.int .u32 y62]) (by kernel_rfl) (fun _ hw => row_ld (rowR_at ((hw.1).get 1 rfl) elt_U4.len) hy62 (Fr.refl No _) (fun h => h) 0 1 (by kernel_rfl)) (by kernel_rfl)) ?_; clear hA ac; intro ac hA
                                 refine sq_rd (v := Value.slice (some ⟨b43, o44, none⟩) l.length c_l) hA (by kernel_rfl) (by kernel_rfl) (by kernel_rfl) (Rd.pure fun _ => by kernel_rfl) ?_; clear hA ac; intro ac hA
                                 refine sq_rd (v := Value.int .i64 ((i4 : Nat) : Int)) hA (by kernel_rfl) (by kernel_rfl) (by kernel_rfl) (Rd.pure fun _ => by kernel_rfl) ?_; clear hA ac; intro ac hA
                                 refine sq_rd (v := Value.pointer (some ⟨b43, o44 + i4 * 8, none⟩)) hA (by kernel_rfl) (by kernel_rfl) (by kernel_rfl) (Rd.indexAddr (e := 37) (sz := 8) (b := b43) (off := o44) (n := l.length) (c := c_l) (k := i4) (by kernel_rfl) (by kernel_rfl) (by first | omega | (simp; done) | (simp; omega)) (fun _ => by kernel_rfl) (fun _ => by kernel_rfl)) ?_; clear hA ac; intro ac hA
                                 refine sq_rd (v := Value.pointer (some ⟨b43, o44 + i4 * 8, none⟩)) hA (by kernel_rfl) (by kernel_rfl) (by kernel_rfl) (Rd.pure fun _ => by kernel_rfl) ?_; clear hA ac; intro ac hA
                                 refine sq_rd (v := Value.int .u32 y42.addr) hA (by kernel_rfl) (by kernel_rfl) (by kernel_rfl) (Rd.loadRow (b := b43) (i := o44 + i4 * 8) (xs := [Value.int .u32 y42.addr]) (by kernel_rfl) (fun _ hw => row_ld ((hw.1).getG 0 rfl) hy42 (Fr.refl No _) (fun h => h) 0 1 (by kernel_rfl)) (by kernel_rfl)) ?_; clear hA ac; intro ac hA
                                 refine sq_rd (v := Value.int .u32 ((y42.addr : Int) / 4096)) hA (by kernel_rfl) (by kernel_rfl) (by kernel_rfl) (Rd.pureE (v0 := Value.int .u32 (IntKind.u32.wrap (Int.tdiv (y42.addr : Int) 4096))) (fun _ => by kernel_rfl) (congrArg (Value.int .u32) ((congrArg IntKind.u32.wrap (quo_ (x := y42.addr) (by omega))).trans (w_u32 (by omega) (by omega))))) ?_; clear hA ac; intro ac hA
                                 refine sq_rd (v := Value.bool ((y62 : Int) == ((y42.addr : Int) / 4096 : Int))) hA (by kernel_rfl) (by kernel_rfl) (by kernel_rfl) (Rd.pure fun _ => by kernel_rfl) ?_; clear hA ac; intro ac hA
                                 refine sq_rd (v := Value.bool ((y62 : Int) == ((y42.addr : Int) / 4096 : Int))) hA (by kernel_rfl) (by kernel_rfl) (by kernel_rfl) (Rd.pure fun _ => by kernel_rfl) ?_; clear hA ac; intro ac hA
                                 refine sq_rd (v := Value.bool ((y62 : Int) == ((y42.addr : Int) / 4096 : Int))) hA (by kernel_rfl) (by kernel_rfl) (by kernel_rfl) (Rd.pure fun _ => by kernel_rfl) ?_; clear hA ac; intro ac hA
                                 refine sq_nil ?_; intro w65 hww65; have hW := hww65.1; have hfw65 := hww65.2; clear hww65
                                 refine blkN ?_
                                 refine thenN ?_
                                 refine wp_region_lit ?_
                                 refine st_rd (v := Value.int .i64 ((j6 : Nat) : Int)) hA (by kernel_rfl) (by kernel_rfl) (by kernel_rfl) hW.cls (Rd.pure fun _ => by kernel_rfl) ?_; clear hA ac; intro ac hA
                                 refine st_rd (v := Value.int .i64 ((j6 + 1 : Nat) : Int)) hA (by kernel_rfl) (by kernel_rfl) (by kernel_rfl) hW.cls (Rd.pureE (v0 := Value.int .i64 (IntKind.i64.wrap ((((j6 : Nat) : Int) : Int) + 1))) (fun _ => by kernel_rfl) (congrArg (Value.int .i64) ((w_i64 (x := (((j6 : Nat) : Int) : Int) + 1) (by omega) (by omega)).trans (by omega)))) ?_; clear hA ac; intro ac hA
                                 refine st_rd (v := Value.int .i64 ((j6 + 1 : Nat) : Int)) hA (by kernel_rfl) (by kernel_rfl) (by kernel_rfl) hW.cls (Rd.pure fun _ => by kernel_rfl) ?_; clear hA ac; intro ac hA
                                 refine wpList_nil ?_
                                 refine thenN ?_
                                 exact ⟨g16.length - (j6 + 1), by omega, j6 + 1, (y62 : Int) == ((y42.addr : Int) / 4096 : Int), rfl, by omega, by exact ti_n hT hy62 h60, hA.sub ⟨⟨by kernel_rfl, by kernel_rfl⟩, ⟨by kernel_rfl, by kernel_rfl⟩, ⟨by kernel_rfl, by kernel_rfl⟩, ⟨by kernel_rfl, by kernel_rfl⟩, ⟨by kernel_rfl, by kernel_rfl⟩, ⟨by kernel_rfl, by kernel_rfl⟩, ⟨by kernel_rfl, by kernel_rfl⟩, trivial⟩, (hW.pick [0, 1, 2] (by decide) rfl).pickG [0] rfl⟩))
                         · skip
                           have h59 := of_decide_eq_false h59
                           first
                           | (exfalso; clear hA hW; omega)
                           | (exfalso; clear hA hW; refine h59 ?_; rw [hR_.at_]; exact hla2_; done)
                           | (
                             refine wp_exit ?_
                             refine thenX ?_
                             refine thenX ?_
                             refine blkX ?_
                             refine thenN ?_
                             refine wp_seq ?_
                             have hth_ : th = true := by unfold TInv at hT; rw [List.take_of_length_le (by omega)] at hT; exact hT.2 ((hpm_ _).2 (act_in hy42 hoy_))
                             rw [show th = true from hth_] at hA
                             refine q_region (by kernel_rfl) (by kernel_rfl) hW ?_
                             refine sq_rd (v := Value.bool true) hA (by kernel_rfl) (by kernel_rfl) (by kernel_rfl) (Rd.pure fun _ => by kernel_rfl) ?_; clear hA ac; intro ac hA
                             refine sq_rd (v := Value.bool false) hA (by kernel_rfl) (by kernel_rfl) (by kernel_rfl) (Rd.pure fun _ => by kernel_rfl) ?_; clear hA ac; intro ac hA
                             refine sq_rd (v := Value.bool false) hA (by kernel_rfl) (by kernel_rfl) (by kernel_rfl) (Rd.pure fun _ => by kernel_rfl) ?_; clear hA ac; intro ac hA
                             refine sq_rd (v := Value.pointer (some ⟨n4, 0, none⟩)) hA (by kernel_rfl) (by kernel_rfl) (by kernel_rfl) (Rd.pure fun _ => by kernel_rfl) ?_; clear hA ac; intro ac hA
                             refine sq_rd (v := Value.slice (some ⟨b43, o44, none⟩) l.length c_l) hA (by kernel_rfl) (by kernel_rfl) (by kernel_rfl) (Rd.pure fun _ => by kernel_rfl) ?_; clear hA ac; intro ac hA
                             refine sq_rd (v := Value.int .i64 ((i4 : Nat) : Int)) hA (by kernel_rfl) (by kernel_rfl) (by kernel_rfl) (Rd.pure fun _ => by kernel_rfl) ?_; clear hA ac; intro ac hA
                             refine sq_rd (v := Value.pointer (some ⟨b43, o44 + i4 * 8, none⟩)) hA (by kernel_rfl) (by kernel_rfl) (by kernel_rfl) (Rd.indexAddr (e := 37) (sz := 8) (b := b43) (off := o44) (n := l.length) (c := c_l) (k := i4) (by kernel_rfl) (by kernel_rfl) (by first | omega | (simp; done) | (simp; omega)) (fun _ => by kernel_rfl) (fun _ => by kernel_rfl)) ?_; clear hA ac; intro ac hA
                             refine sq_rd (v := Value.pointer (some ⟨b43, o44 + i4 * 8, none⟩)) hA (by kernel_rfl) (by kernel_rfl) (by kernel_rfl) (Rd.pure fun _ => by kernel_rfl) ?_; clear hA ac; intro ac hA
                             refine sq_rd (v := Value.int .u32 y42.addr) hA (by kernel_rfl) (by kernel_rfl) (by kernel_rfl) (Rd.loadRow (b := b43) (i := o44 + i4 * 8) (xs := [Value.int .u32 y42.addr]) (by kernel_rfl) (fun _ hw => row_ld ((hw.1).getG 0 rfl) hy42 (Fr.refl No _) (fun h => h) 0 1 (by kernel_rfl)) (by kernel_rfl)) ?_; clear hA ac; intro ac hA
                             refine sq_call (v := (atS V (y42.addr)).v) hA (by kernel_rfl) (by kernel_rfl) (by kernel_rfl) (fun _ => by kernel_rfl) (Cls.callNC fun wx hwx => e_sat n4 n5 V (y42.addr) wx ((hwx.1).get 2 rfl) ((hwx.1).lt _ (List.mem_of_getElem? (i := 2) rfl)) (by first | omega | assumption | exact (hwf _ (List.mem_of_getElem? (by assumption))).1 | exact (hwf _ (List.mem_of_getElem? (by assumption))).2)) ?_; clear hA ac; intro ac hA
                             refine sq_rd (v := Value.agg #[Value.int .u64 la.wr, Value.int .i64 la.ws.f, Value.int .i64 la.ws.pc, Value.int .u64 la.rd, Value.int .i64 la.rs.f, Value.int .i64 la.rs.pc, Value.int .i64 la.vec]) hA (by kernel_rfl) (by kernel_rfl) (by kernel_rfl) (Rd.load (b := b47) (i := 0) (by kernel_rfl) (fun _ hw => (hw.1).cel 0 rfl) (by kernel_rfl)) ?_; clear hA ac; intro ac hA
                             refine sq_rd (v := Value.bool (!decide ((atS V (y42.addr)) = la))) hA (by kernel_rfl) (by kernel_rfl) (by kernel_rfl) (Rd.neS (u := (atS V (y42.addr)).v) (v := la.v) (by kernel_rfl) (by kernel_rfl) rfl rfl (by kernel_rfl) (fun w => eq_Shade w (atS V (y42.addr)) la)) ?_; clear hA ac; intro ac hA
                             refine sq_rd (v := Value.bool (!decide ((atS V (y42.addr)) = la))) hA (by kernel_rfl) (by kernel_rfl) (by kernel_rfl) (Rd.pure fun _ => by kernel_rfl) ?_; clear hA ac; intro ac hA
                             refine sq_nil ?_; intro w66 hww66; have hW := hww66.1; have hfw66 := hww66.2; clear hww66
                             refine thenN ?_
                             refine wp_cond_split (t := !decide ((atS V (y42.addr)) = la)) (hA.eval (by kernel_rfl)) (fun h67 => ?_) (fun h67 => ?_)
                             · skip
                               have h67 := not_t h67
                               have h67 := of_decide_eq_false h67
                               have h67e := fun e => h67 ((Shade.eqi _ _).2 e)
                               first
                               | (exfalso; clear hA hW; omega)
                               | (exfalso; clear hA hW; refine h67 ?_; rw [hR_.at_]; exact hla2_; done)
                               | (
                                 refine wp_seq ?_
                                 refine wp_region_lit ?_
                                 refine st_rd (v := Value.bool false) hA (by kernel_rfl) (by kernel_rfl) (by kernel_rfl) hW.cls (Rd.pure fun _ => by kernel_rfl) ?_; clear hA ac; intro ac hA
                                 refine wpList_nil ?_
                                 refine thenN ?_
                                 refine wp_ret ?_
                                 refine blkR ?_
                                 refine thenR ?_
                                 refine thenR ?_
                                 refine blkR ?_
                                 refine thenR ?_
                                 refine ret1 (v := Value.bool false) (by rfl) hA (Got.tmp hA (by kernel_rfl) (by kernel_rfl)) ?_
                                 clear hA
                                 exact ⟨retv (by rfl), hW.fr⟩)
                             · skip
                               have h67 := not_f h67
                               have h67 := of_decide_eq_true h67
                               have h67e := (Shade.eqi _ _).1 h67
                               first
                               | (exfalso; clear hA hW; omega)
                               | (exfalso; clear hA hW; refine h67 ?_; rw [hR_.at_]; exact hla2_; done)
                               | (
                                 refine wp_skip ?_
                                 refine blkN ?_
                                 refine thenN ?_
                                 refine wp_region_lit ?_
                                 refine st_rd (v := Value.int .i64 ((i4 : Nat) : Int)) hA (by kernel_rfl) (by kernel_rfl) (by kernel_rfl) hW.cls (Rd.pure fun _ => by kernel_rfl) ?_; clear hA ac; intro ac hA
                                 refine st_rd (v := Value.int .i64 ((i4 + 1 : Nat) : Int)) hA (by kernel_rfl) (by kernel_rfl) (by kernel_rfl) hW.cls (Rd.pureE (v0 := Value.int .i64 (IntKind.i64.wrap ((((i4 : Nat) : Int) : Int) + 1))) (fun _ => by kernel_rfl) (congrArg (Value.int .i64) ((w_i64 (x := (((i4 : Nat) : Int) : Int) + 1) (by omega) (by omega)).trans (by omega)))) ?_; clear hA ac; intro ac hA
                                 refine st_rd (v := Value.int .i64 ((i4 + 1 : Nat) : Int)) hA (by kernel_rfl) (by kernel_rfl) (by kernel_rfl) hW.cls (Rd.pure fun _ => by kernel_rfl) ?_; clear hA ac; intro ac hA
                                 refine wpList_nil ?_
                                 refine thenN ?_
                                 exact ⟨l.length - (i4 + 1), by omega, i4 + 1, rfl, by omega, hA.sub ⟨⟨by kernel_rfl, by kernel_rfl⟩, ⟨by kernel_rfl, by kernel_rfl⟩, ⟨by kernel_rfl, by kernel_rfl⟩, ⟨by kernel_rfl, by kernel_rfl⟩, trivial⟩, (hW.pick [1, 2] (by decide) rfl).pickG [0] rfl⟩)))))
             · skip
               have h41 := of_decide_eq_false h41
               first
               | (exfalso; clear hA hW; omega)
               | (exfalso; clear hA hW; refine h41 ?_; rw [hR_.at_]; exact hla2_; done)
               | (
                 refine wp_exit ?_
                 refine thenX ?_
                 refine thenX ?_
                 refine blkX ?_
                 refine thenN ?_
                 refine wp_seq ?_
                 refine wp_region_lit ?_
                 refine st hA (by kernel_rfl) (by kernel_rfl) (by kernel_rfl) (Runs.callN (v := Value.bool true) (fun _ => by kernel_rfl) hW (e_works22 w40) ?_); clear hA ac hW; intro w68 hW hfw68 ac hA
                 refine st_rd (v := Value.bool true) hA (by kernel_rfl) (by kernel_rfl) (by kernel_rfl) hW.cls (Rd.pure fun _ => by kernel_rfl) ?_; clear hA ac; intro ac hA
                 refine wpList_nil ?_
                 refine thenN ?_
                 refine wp_ret ?_
                 refine ret1 (v := Value.bool true) (by rfl) hA (Got.tmp hA (by kernel_rfl) (by kernel_rfl)) ?_
                 clear hA
                 exact ⟨retv (by rfl), hW.fr⟩))))

theorem shadowholds_walk (A : Option Addr) (len cap : Nat) (l : List Act22) (w : World) (hl : l.length = len) (hc : len ≤ cap) (_ : cap ≤ maxLen) (hw : ∀ x ∈ l, wfAct22 x) (hr : RowAt w A 8 enAct22 l) :
    Calls Try.prog 3 #[.slice A len cap] w fun e w' => e = .returned (.bool true) ∧ Fr No w w' := by
  subst hl
  exact e_holds22 A cap l w hr hc (fun x hx => wf_act22 (hw x hx))
end Go.Proofs.Ytcgcippmbeileaa.L
