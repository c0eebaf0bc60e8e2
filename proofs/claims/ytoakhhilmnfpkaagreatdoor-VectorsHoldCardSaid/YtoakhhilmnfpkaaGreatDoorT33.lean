/- Contracts, walked by program over the engine's laws. -/
import Derived.Test.YtoakhhilmnfpkaaGreatDoorProg
import Derived.Test.YtoakhhilmnfpkaaGreatDoorT29
import Derived.Test.YtoakhhilmnfpkaaGreatDoorT32
import Derived.Test.YtoakhhilmnfpkaaGreatDoorRel26
namespace Go.Proofs.YtoakhhilmnfpkaaGreatDoor.L
open Go.RowKit
open Go.Value renaming int → vI, slice → vS, bool → vB, pointer → vP, func → vF, agg → vA, map → vM, tuple → vT

def deEvent : List Value → Event
  | [.int _ a0, .int _ a1, .int _ a2, .int _ a3, .int _ a4, .int _ a5, .int _ a6, .int _ a7, .int _ a8] => ⟨a0, a1, ⟨a2, a3⟩, a4, a5, a6, a7, a8⟩
  | _ => ⟨0, 0, ⟨0, 0⟩, 0, 0, 0, 0, 0⟩
def wfEvent (x : Event) : Prop := (Lit.int .i64 x.g).wf = true ∧ (Lit.int .i64 x.kind).wf = true ∧ (Lit.int .i64 x.site.f).wf = true ∧ (Lit.int .i64 x.site.pc).wf = true ∧ (Lit.int .u32 x.addr).wf = true ∧ (Lit.int .i64 x.child).wf = true ∧ (Lit.int .i64 x.obj).wf = true ∧ (Lit.int .i64 x.n).wf = true ∧ (Lit.int .i64 x.trap).wf = true ∧ True
theorem deEvent_ok (cs : List Value) (h : cksOk [.int .i64, .int .i64, .int .i64, .int .i64, .int .u32, .int .i64, .int .i64, .int .i64, .int .i64] cs) : enEvent (deEvent cs) = cs ∧ wfEvent (deEvent cs) := by
  have hl := cksOk_length h
  match cs, hl, h with
  | [c0, c1, c2, c3, c4, c5, c6, c7, c8], _, ⟨⟨_, h0, w0⟩, ⟨_, h1, w1⟩, ⟨_, h2, w2⟩, ⟨_, h3, w3⟩, ⟨_, h4, w4⟩, ⟨_, h5, w5⟩, ⟨_, h6, w6⟩, ⟨_, h7, w7⟩, ⟨_, h8, w8⟩, _⟩ =>
    subst h0 h1 h2 h3 h4 h5 h6 h7 h8
    exact ⟨rfl, w0, w1, w2, w3, w4, w5, w6, w7, w8, trivial⟩
theorem flatEvent {v : Value} (h : cksOk [.int .i64, .int .i64, .int .i64, .int .i64, .int .u32, .int .i64, .int .i64, .int .i64, .int .i64] v.cells.toList) : ∃ x : Event, v = x.v ∧ wfEvent x := by
  have hl := cksOk_length h
  cases v with
  | agg a => exact ⟨deEvent a.toList, by have := (deEvent_ok _ h).1; have h2 := congrArg List.toArray this; exact congrArg vA (h2.symm), (deEvent_ok _ h).2⟩
  | _ => simp [Value.cells] at hl
theorem few_len {l : List Event} {m : Int} (h : fewOk l m = true) : (l.length : Int) ≤ m := by unfold fewOk at h; rw [Bool.and_eq_true] at h; exact of_decide_eq_true h.2
theorem wf_event {x : Event} (h : wfEvent x) : ((-9223372036854775808 ≤ x.kind ∧ x.kind ≤ 9223372036854775807) ∧ 0 ≤ x.addr ∧ x.addr ≤ 4294967295) ∧ -9223372036854775808 ≤ x.g ∧ x.g ≤ 9223372036854775807 ∧ -9223372036854775808 ≤ x.child ∧ x.child ≤ 9223372036854775807 := by
  obtain ⟨h0, h1, -, -, h2, h3, -⟩ := h
  simp [Lit.wf, IntKind.min, IntKind.max] at h0 h1 h2 h3
  simp only [IntKind.bits, IntKind.signed] at h0 h1 h2 h3
  simp at h0 h1 h2 h3
  omega
def perE {α : Type} (f : List Event → Event → α) (d : α) (E : List Event) : List α := (List.range E.length).map fun j => match E[j]? with
  | some x => f (E.take j) x
  | none => d
theorem perE_snoc {α : Type} {f : List Event → Event → α} {d : α} {E : List Event} {x : Event} : perE f d (E ++ [x]) = perE f d E ++ [f E x] := by
  unfold perE
  rw [List.length_append, List.length_singleton, List.range_succ, List.map_append]
  congr 1
  · refine List.map_congr_left fun j hj => ?_
    have hj := List.mem_range.1 hj
    rw [at_old hj, List.take_append_of_le_length (by omega)]
  · simp
theorem perE_at {α : Type} {f : List Event → Event → α} {d : α} {E : List Event} {j : Nat} {y : α} {x : Event} (hx : E[j]? = some x) (h : (perE f d E)[j]? = some y) : y = f (E.take j) x := by
  unfold perE at h
  rw [List.getElem?_map, List.getElem?_range (List.getElem?_eq_some_iff.1 hx).1] at h
  simp [hx] at h; exact h.symm
def EvConf (a b : Event) : Prop := (a.kind = 2 ∨ a.kind = 3) ∧ (b.kind = 2 ∨ b.kind = 3) ∧ a.addr = b.addr ∧ (a.kind = 3 ∨ b.kind = 3)
instance (a b : Event) : Decidable (EvConf a b) := by unfold EvConf; infer_instance
def evConf (a b : Event) : Bool := decide (EvConf a b)
def hitB (E : List Event) (x : Event) : Bool := decide (((wE E x).length : Int) > 0)
theorem hitB_eq (E : List Event) (x : Event) : hitB E x = decide (((wE E x).length : Int) > (0 : Int)) := by unfold hitB; exact decide_eq_decide.2 Iff.rfl
theorem Came.mlen {en : Int} {E : List Event} (h : Came en E) : ∀ a, (mK E a).1.1.length ≤ 65536 ∧ (mK E a).2.1.length ≤ 65536 := by
  induction h with
  | nil => intro a; exact ⟨Nat.zero_le _, Nat.zero_le _⟩
  | @snoc E x hE hx ih =>
    intro a
    have ho : EvOk x := (comeErr_0 hx).1
    have hg : 0 ≤ x.g ∧ x.g ≤ 65535 := by unfold EvOk at ho; omega
    by_cases hk : x.kind = 3 ∨ x.kind = 2
    · rw [mK_acc hk]; unfold setM
      split
      · unfold markM
        split
        · exact ⟨join2_len (ih _).1 (by rw [oneL_len]; omega), (ih _).2⟩
        · exact ⟨(ih _).1, join2_len (ih _).2 (by rw [oneL_len]; omega)⟩
      · exact ih a
    · rw [mK_no hk]; exact ih a
theorem wE_len {en : Int} {E : List Event} (h : Came en E) (x : Event) : (wE E x).length ≤ 200000 := by
  unfold wE
  split
  · unfold withV; rw [List.length_append]
    have h1 := racesL_len (mK E x.addr).1.1 (mK E x.addr).1.2 x.g (gv (stK (E ++ [x])) x.g) 3
    have h2 : (if x.kind = 3 then racesL (mK E x.addr).2.1 (mK E x.addr).2.2 x.g (gv (stK (E ++ [x])) x.g) 2 else []).length ≤ (mK E x.addr).2.1.length := by
      split
      · exact racesL_len _ _ _ _ _
      · exact Nat.zero_le _
    have := h.mlen x.addr
    omega
  · exact Nat.zero_le _
def withL : List Event → List (List Acc) := perE wE []
theorem came_hit {E : List Event} {x : Event} {M' : Int → Mk2} {L L' : List HitT} {n n' h1 h2 : Int} {W : List Acc} {b : Bool} (hV : (M', L', n', (h1, h2, W), b) = comeV 0 (gv (stK (E ++ [x])) x.g) x (mK E) L n) :
    M' = mK (E ++ [x]) ∧ n' = n + 1 ∧ W = wE E x ∧ b = hitB E x ∧ (b = true → h1 = n ∧ h2 = x.addr) := by
  by_cases hk : x.kind = 3 ∨ x.kind = 2
  · have hw : wE E x = withV (gv (stK (E ++ [x])) x.g) (mK E x.addr) x := by unfold wE; rw [if_pos hk]
    by_cases q : withV (gv (stK (E ++ [x])) x.g) (mK E x.addr) x = []
    · rw [comeV_1 rfl hk q] at hV; simp only [Prod.mk.injEq] at hV
      obtain ⟨rfl, _, rfl, ⟨rfl, rfl, rfl⟩, rfl⟩ := hV
      unfold hitB; rw [hw, q]; exact ⟨(mK_acc hk).symm, rfl, rfl, rfl, fun e => nomatch e⟩
    · rw [comeV_2 rfl hk q] at hV; simp only [Prod.mk.injEq] at hV
      obtain ⟨rfl, _, rfl, ⟨rfl, rfl, rfl⟩, rfl⟩ := hV
      refine ⟨(mK_acc hk).symm, rfl, hw.symm, ?_, fun _ => ⟨rfl, rfl⟩⟩
      unfold hitB; rw [hw]; symm; apply decide_eq_true
      have := List.length_pos_iff.2 q; omega
  · rw [comeV_0 rfl hk] at hV; simp only [Prod.mk.injEq] at hV
    obtain ⟨rfl, _, rfl, ⟨rfl, rfl, rfl⟩, rfl⟩ := hV
    have hw : wE E x = [] := by unfold wE; rw [if_neg hk]
    unfold hitB; rw [hw]; exact ⟨(mK_no hk).symm, rfl, rfl, rfl, fun e => nomatch e⟩
theorem apart_hb {E : List Event} (hE : ∀ e ∈ E, EvOk e) {i j : Nat} (hij : i < j) (hj : j < E.length) : apartE E (i : Int) (j : Int) = true ↔ ¬ Hb E i j := by
  have h2 : befE E (j : Int) (i : Int) = false := by unfold befE; rw [decide_eq_false (by omega)]; rfl
  unfold apartE; rw [decide_eq_true (by omega), h2, ← bef_iff hE hij hj]; simp
def anyR (E : List Event) (x : Event) (j q : Nat) : Prop := ∃ i e, i < q ∧ E[i]? = some e ∧ EvConfP e x ∧ ¬ Hb E i j
theorem anyR_0 {E : List Event} {x : Event} {j : Nat} : false = true ↔ anyR E x j 0 := ⟨fun e => Bool.noConfusion e, fun ⟨_, _, h, _⟩ => absurd h (Nat.not_lt_zero _)⟩
theorem anyR_step {E : List Event} (hE : ∀ e ∈ E, EvOk e) {j q : Nat} (hq : q < j) (hj : j < E.length) {ya x : Event} (hya : E[q]? = some ya) {r : Bool} (hr : r = true ↔ anyR E x j q) : (r || (evConf ya x && apartE E (q : Int) (j : Int))) = true ↔ anyR E x j (q + 1) := by
  rw [Bool.or_eq_true, Bool.and_eq_true, hr, apart_hb hE hq hj, show evConf ya x = true ↔ EvConfP ya x from decide_eq_true_iff]
  constructor
  · rintro (⟨i, e, h1, h2⟩ | ⟨h1, h2⟩)
    · exact ⟨i, e, by omega, h2⟩
    · exact ⟨q, ya, by omega, hya, h1, h2⟩
  · rintro ⟨i, e, h1, h2, h3, h4⟩
    by_cases c : i < q
    · exact .inl ⟨i, e, c, h2, h3, h4⟩
    · obtain rfl : i = q := by omega
      rw [hya] at h2; cases h2; exact .inr ⟨h3, h4⟩
theorem race_len {en : Int} {E : List Event} (hC : Came en E) {j : Nat} {x : Event} (hx : E[j]? = some x) {w : List Acc} (hw : w = wE (E.take j) x) {r : Bool} (hr : r = true ↔ anyR E x j j) : r = decide ((w.length : Int) > 0) := by
  subst hw
  rw [Bool.eq_iff_iff, decide_eq_true_iff, hr]
  have h := law_some hC hx
  constructor
  · intro q; have := List.length_pos_iff.2 (h.2 q); omega
  · intro q; exact h.1 (List.length_pos_iff.1 (by omega))
def LastTo (E : List Event) (q : Nat) (k a g : Int) (lst : Int) : Prop :=
  (lst = -1 ∧ ∀ i e, i < q → E[i]? = some e → ¬ AccAt e k a g) ∨ ∃ (n : Nat) (e : Event), lst = (n : Int) ∧ n < q ∧ E[n]? = some e ∧ AccAt e k a g ∧ ∀ i y, n < i → i < q → E[i]? = some y → ¬ AccAt y k a g
theorem LastTo.zero {E : List Event} {k a g : Int} : LastTo E 0 k a g (-1) := .inl ⟨rfl, fun _ _ h => by omega⟩
theorem LastTo.hit {E : List Event} {q : Nat} {k a g : Int} {y : Event} (hy : E[q]? = some y) (ha : AccAt y k a g) : LastTo E (q + 1) k a g (q : Int) := .inr ⟨q, y, rfl, by omega, hy, ha, fun i z h1 h2 => by omega⟩
theorem LastTo.miss {E : List Event} {q : Nat} {k a g lst : Int} (h : LastTo E q k a g lst) {y : Event} (hy : E[q]? = some y) (ha : ¬ AccAt y k a g) : LastTo E (q + 1) k a g lst := by
  have key : ∀ i e, i < q + 1 → E[i]? = some e → (i < q → ¬ AccAt e k a g) → ¬ AccAt e k a g := by
    intro i e h1 h2 h3
    by_cases c : i < q
    · exact h3 c
    · obtain rfl : i = q := by omega
      rw [hy] at h2; cases h2; exact ha
  rcases h with ⟨h1, h2⟩ | ⟨n, e, h1, h2, h3, h4, h5⟩
  · exact .inl ⟨h1, fun i e hi he => key i e hi he fun c => h2 i e c he⟩
  · exact .inr ⟨n, e, h1, by omega, h3, h4, fun i y hn hi he => key i y hi he fun c => h5 i y hn c he⟩
theorem LastTo.fin {E : List Event} {j : Nat} {k a g lst : Int} (h : LastTo E j k a g lst) {i : Nat} {e : Event} (hi : i < j) (he : E[i]? = some e) (hl : LastA (E.take j) k a g i e) : lst = (i : Int) := by
  have hat : ∀ i, i < j → (E.take j)[i]? = E[i]? := fun i hi => by rw [List.getElem?_take, if_pos hi]
  rcases h with ⟨_, h2⟩ | ⟨n, y, h1, h2, h3, h4, h5⟩
  · exact absurd hl.2.1 (h2 i e hi he)
  · rw [h1]
    rcases Nat.lt_trichotomy n i with c | c | c
    · exact absurd hl.2.1 (h5 i e c hi he)
    · rw [c]
    · exact absurd h4 (hl.2.2 n y c ((hat n h2).trans h3))
set_option maxRecDepth 100000 in
theorem e_r16acc (x : Event) (w : World)  : Calls Tryz.prog 43 #[x.v] w (fun e w' => e = .returned (vB (decide (x.kind = 2 ∨ x.kind = 3))) ∧ Fr No w w') := by
 refine enter_E 11 Tryz.func43 rfl rfl (by kernel_rfl) (L := [(0, x.v)]) (by kernel_rfl) ?_
 intro ac hA
 have hW := Ws.start w No
 refine wr <| st_s hA (Runs.cells (fun b => pA b 0) #[vI .i64 x.g, vI .i64 x.kind, vI .i64 x.site.f, vI .i64 x.site.pc, vI .u32 x.addr, vI .i64 x.child, vI .i64 x.obj, vI .i64 x.n, vI .i64 x.trap] 43 (fun _ => by kernel_rfl) hW ?_); clear hA ac hW; intro b1 w2 hW hb1 hfw2 ac hA
 refine st_p (vB false) hA ?_; clear hA ac; intro ac hA
 refine wn <| wr <| st_p (pA b1 1) hA fun ac hA => st_q (vI .i64 x.kind) hA hW.cls (rl b1 1 0) fun ac hA => st_p (vB ((x.kind : Int) == (2 : Int))) hA fun ac hA => st_p (vB ((x.kind : Int) == (2 : Int))) hA fun ac hA => ?_
 rcases Bool.eq_false_or_eq_true ((x.kind : Int) == (2 : Int)) with h3 | h3
 ·
  rw [h3] at hA
  have h3 := eq_of_beq h3
  refine st_k hA fun ac hA => st_k hA fun ac hA => st_k hA fun ac hA => st_p (vB true) hA fun ac hA => st_p (vB true) hA fun ac hA => wn <| wp_ret <| r1 (vB true) hA ?_
  clear hA
  exact ⟨retv (congrArg vB (decide_eq_true (by omega)).symm), hW.fr⟩
 rw [h3] at hA
 have h3 := ne_of_beq_false h3
 refine st_p (pA b1 1) hA fun ac hA => st_q (vI .i64 x.kind) hA hW.cls (rl b1 1 0) fun ac hA => st_p (vB ((x.kind : Int) == (3 : Int))) hA fun ac hA => st_p (vB ((x.kind : Int) == (3 : Int))) hA fun ac hA => st_p (vB ((x.kind : Int) == (3 : Int))) hA fun ac hA => wn <| wp_ret <| r1 (vB ((x.kind : Int) == (3 : Int))) hA ?_
 clear hA
 refine ⟨retv (congrArg vB ?_), hW.fr⟩
 rcases Bool.eq_false_or_eq_true ((x.kind : Int) == (3 : Int)) with q_ | q_
 · rw [q_]
   have q_ := eq_of_beq q_
   exact (decide_eq_true (by omega)).symm
 · rw [q_]
   have q_ := ne_of_beq_false q_
   exact (decide_eq_false (by omega)).symm

set_option maxRecDepth 100000 in
theorem e_r16conf (x : Event) (y : Event) (w : World)  : Calls Tryz.prog 14 #[x.v, y.v] w (fun e w' => e = .returned (vB (evConf x y)) ∧ Fr No w w') := by
 refine enter_E 28 Tryz.func14 rfl rfl (by kernel_rfl) (L := [(0, x.v), (1, y.v)]) (by kernel_rfl) ?_
 intro ac hA
 have hW := Ws.start w No
 refine wr <| st_s hA (Runs.cells (fun b => pA b 0) #[vI .i64 x.g, vI .i64 x.kind, vI .i64 x.site.f, vI .i64 x.site.pc, vI .u32 x.addr, vI .i64 x.child, vI .i64 x.obj, vI .i64 x.n, vI .i64 x.trap] 43 (fun _ => by kernel_rfl) hW ?_); clear hA ac hW; intro b1 w2 hW hb1 hfw2 ac hA
 refine st_s hA (Runs.cells (fun b => pA b 0) #[vI .i64 y.g, vI .i64 y.kind, vI .i64 y.site.f, vI .i64 y.site.pc, vI .u32 y.addr, vI .i64 y.child, vI .i64 y.obj, vI .i64 y.n, vI .i64 y.trap] 43 (fun _ => by kernel_rfl) hW ?_); clear hA ac hW; intro b3 w4 hW hb3 hfw4 ac hA
 refine st_p (vB false) hA ?_; clear hA ac; intro ac hA
 refine wn <| wr <| st_q (vA #[vI .i64 x.g, vI .i64 x.kind, vI .i64 x.site.f, vI .i64 x.site.pc, vI .u32 x.addr, vI .i64 x.child, vI .i64 x.obj, vI .i64 x.n, vI .i64 x.trap]) hA hW.cls (rl b1 0 1) ?_; clear hA ac; intro ac hA
 refine st_s hA (Runs.callN (v := vB (decide (x.kind = 2 ∨ x.kind = 3))) (fun _ => by kernel_rfl) hW (e_r16acc x w4) ?_); clear hA ac hW; intro w5 hW hfw5 ac hA
 refine st_p (vB (decide (x.kind = 2 ∨ x.kind = 3))) hA ?_; clear hA ac; intro ac hA
 rcases Bool.eq_false_or_eq_true (decide (x.kind = 2 ∨ x.kind = 3)) with h6 | h6
 ·
  rw [h6] at hA
  have h6 := of_decide_eq_true h6
  refine st_q (vA #[vI .i64 y.g, vI .i64 y.kind, vI .i64 y.site.f, vI .i64 y.site.pc, vI .u32 y.addr, vI .i64 y.child, vI .i64 y.obj, vI .i64 y.n, vI .i64 y.trap]) hA hW.cls (rl b3 0 0) ?_; clear hA ac; intro ac hA
  refine st_s hA (Runs.callN (v := vB (decide (y.kind = 2 ∨ y.kind = 3))) (fun _ => by kernel_rfl) hW (e_r16acc y w5) ?_); clear hA ac hW; intro w7 hW hfw7 ac hA
  refine st_p (vB (decide (y.kind = 2 ∨ y.kind = 3))) hA fun ac hA => st_p (vB (decide (y.kind = 2 ∨ y.kind = 3))) hA fun ac hA => ?_
  rcases Bool.eq_false_or_eq_true (decide (y.kind = 2 ∨ y.kind = 3)) with h8 | h8
  ·
   rw [h8] at hA
   have h8 := of_decide_eq_true h8
   refine st_p (pA b1 4) hA fun ac hA => st_q (vI .u32 x.addr) hA hW.cls (rl b1 4 1) fun ac hA => st_p (pA b3 4) hA fun ac hA => st_q (vI .u32 y.addr) hA hW.cls (rl b3 4 0) fun ac hA => st_p (vB ((x.addr : Int) == (y.addr : Int))) hA fun ac hA => st_p (vB ((x.addr : Int) == (y.addr : Int))) hA fun ac hA => st_p (vB ((x.addr : Int) == (y.addr : Int))) hA fun ac hA => ?_
   rcases Bool.eq_false_or_eq_true ((x.addr : Int) == (y.addr : Int)) with h9 | h9
   ·
    rw [h9] at hA
    have h9 := eq_of_beq h9
    refine st_p (pA b1 1) hA fun ac hA => st_q (vI .i64 x.kind) hA hW.cls (rl b1 1 1) fun ac hA => st_p (vB ((x.kind : Int) == (3 : Int))) hA fun ac hA => st_p (vB ((x.kind : Int) == (3 : Int))) hA fun ac hA => ?_
    rcases Bool.eq_false_or_eq_true ((x.kind : Int) == (3 : Int)) with h10 | h10
    ·
     rw [h10] at hA
     have h10 := eq_of_beq h10
     refine st_k hA fun ac hA => st_k hA fun ac hA => st_k hA fun ac hA => st_p (vB true) hA fun ac hA => st_p (vB true) hA fun ac hA => st_p (vB true) hA fun ac hA => wn <| wp_ret <| r1 (vB true) hA ?_
     clear hA
     exact ⟨retv (congrArg vB (decide_eq_true (by unfold EvConf; omega)).symm), hW.fr⟩
    rw [h10] at hA
    have h10 := ne_of_beq_false h10
    refine st_p (pA b3 1) hA fun ac hA => st_q (vI .i64 y.kind) hA hW.cls (rl b3 1 0) fun ac hA => st_p (vB ((y.kind : Int) == (3 : Int))) hA fun ac hA => st_p (vB ((y.kind : Int) == (3 : Int))) hA fun ac hA => st_p (vB ((y.kind : Int) == (3 : Int))) hA fun ac hA => st_p (vB ((y.kind : Int) == (3 : Int))) hA fun ac hA => wn <| wp_ret <| r1 (vB ((y.kind : Int) == (3 : Int))) hA ?_
    clear hA
    refine ⟨retv (congrArg vB ?_), hW.fr⟩
    rcases Bool.eq_false_or_eq_true ((y.kind : Int) == (3 : Int)) with q_ | q_
    · rw [q_]
      have q_ := eq_of_beq q_
      exact (decide_eq_true (by unfold EvConf; omega)).symm
    · rw [q_]
      have q_ := ne_of_beq_false q_
      exact (decide_eq_false (by unfold EvConf; omega)).symm
   rw [h9] at hA
   have h9 := ne_of_beq_false h9
   refine st_k hA fun ac hA => st_k hA fun ac hA => st_k hA fun ac hA => st_k hA fun ac hA => st_k hA fun ac hA => st_k hA fun ac hA => st_k hA fun ac hA => st_k hA fun ac hA => st_p (vB false) hA fun ac hA => st_p (vB false) hA fun ac hA => wn <| wp_ret <| r1 (vB false) hA ?_
   clear hA
   exact ⟨retv (congrArg vB (decide_eq_false (by unfold EvConf; omega)).symm), hW.fr⟩
  rw [h8] at hA
  have h8 := of_decide_eq_false h8
  refine st_k hA fun ac hA => st_k hA fun ac hA => st_k hA fun ac hA => st_k hA fun ac hA => st_k hA fun ac hA => st_p (vB false) hA fun ac hA => st_p (vB false) hA fun ac hA => st_k hA fun ac hA => st_k hA fun ac hA => st_k hA fun ac hA => st_k hA fun ac hA => st_k hA fun ac hA => st_k hA fun ac hA => st_k hA fun ac hA => st_k hA fun ac hA => st_p (vB false) hA fun ac hA => st_p (vB false) hA fun ac hA => wn <| wp_ret <| r1 (vB false) hA ?_
  clear hA
  exact ⟨retv (congrArg vB (decide_eq_false (by unfold EvConf; omega)).symm), hW.fr⟩
 rw [h6] at hA
 have h6 := of_decide_eq_false h6
 refine st_k hA fun ac hA => st_k hA fun ac hA => st_p (vB false) hA fun ac hA => st_p (vB false) hA fun ac hA => st_k hA fun ac hA => st_k hA fun ac hA => st_k hA fun ac hA => st_k hA fun ac hA => st_k hA fun ac hA => st_p (vB false) hA fun ac hA => st_p (vB false) hA fun ac hA => st_k hA fun ac hA => st_k hA fun ac hA => st_k hA fun ac hA => st_k hA fun ac hA => st_k hA fun ac hA => st_k hA fun ac hA => st_k hA fun ac hA => st_k hA fun ac hA => st_p (vB false) hA fun ac hA => st_p (vB false) hA fun ac hA => wn <| wp_ret <| r1 (vB false) hA ?_
 clear hA
 exact ⟨retv (congrArg vB (decide_eq_false (by unfold EvConf; omega)).symm), hW.fr⟩

set_option maxHeartbeats 4000000 in
set_option maxRecDepth 100000 in
theorem e_vectorsHold (A_l : Option Addr) (c_l : Nat) (l : List Event) (w : World) (hr_l : RowAt w A_l 9 enEvent l) (hc_l : l.length ≤ c_l) (hl : l.length ≤ 9223372036854775807) (hel : ∀ x ∈ l, ((-9223372036854775808 ≤ x.kind ∧ x.kind ≤ 9223372036854775807) ∧ 0 ≤ x.addr ∧ x.addr ≤ 4294967295) ∧ -9223372036854775808 ≤ x.g ∧ x.g ≤ 9223372036854775807 ∧ -9223372036854775808 ≤ x.child ∧ x.child ≤ 9223372036854775807) : Calls Tryz.prog 3 #[vS A_l l.length c_l] w (fun e w' => e = .returned (vB true) ∧ Fr No w w') := by
 have _hu := hc_l; have _hv := hr_l; clear _hu _hv
 have _hu := hl; clear _hu
 have _hu := hel; clear _hu
 refine enter_E 219 Tryz.func3 rfl rfl (by kernel_rfl) (L := [(0, vS A_l l.length c_l)]) (by kernel_rfl) ?_
 intro ac hA
 have hW := Ws.start w No
 have hW := hW.arg hr_l
 refine wr <| st_p (vB false) hA ?_; clear hA ac; intro ac hA
 refine wn <| wp_seq <| wr <| st_p (vS A_l l.length c_l) hA ?_; clear hA ac; intro ac hA
 refine st_s hA (Runs.callN (v := vB (fewOk l (45))) (fun _ => by kernel_rfl) hW (e_lfew A_l c_l l (45) w ((hW).getG 0 rfl) (by first | assumption | omega | (simp; omega) | simp) hl (fun x hx => (hel x hx).1) (by decide) (by decide)) ?_); clear hA ac hW; intro w1 hW hfw1 ac hA
 refine st_p (vB (!(fewOk l (45)))) hA ?_; clear hA ac; intro ac hA
 refine wn <| wp_cond_split (t := !(fewOk l (45))) (hA.eval (by kernel_rfl)) (fun h2 => ?_) (fun h2 => ?_)
 ·
  have h2 := not_t h2
  refine wr <| st_s hA (Runs.callN (v := vB true) (fun _ => by kernel_rfl) hW (e_works26 w1) ?_); clear hA ac hW; intro w3 hW hfw3 ac hA
  refine st_p (vB true) hA ?_; clear hA ac; intro ac hA
  refine wn <| wp_ret <| thenR <| r1 (vB true) hA ?_
  clear hA
  exact ⟨retv (by rfl), hW.fr⟩
 have h2 := not_f h2
 refine wp_skip <| thenN <| wp_seq ?_
 have hfl_ := few_len (show fewOk l 45 = true from h2)
 refine wp_region_lit <| st_s hA (Runs.call (fun _ => by kernel_rfl) (e_vnew (1000) w1 (by first | omega | decide | assumption | exact ⟨by omega, by omega⟩ | exact hyr_.1.2 | exact hyr_.2 | exact hown_ | exact hC.ok | exact (hel _ (List.mem_of_getElem? (by assumption))).1)) ?_)
 rintro _ w4 ⟨n5, n6, n7, n8, n9, n10, n11, rfl, hw4_hK, hu_⟩; refine ⟨_, rfl, ?_⟩; replace hW := hW.made hu_; clear hA ac; intro ac hA
 have hW : Ws w No [PlS n5 n6 n7 n8 n9 n10 (1000) kst0 0 n11 ([] : VT26) M0 none 0 ([] : List Hit) 0, nestR innerSV (NV [] n8 n10)] [roR A_l 9 enEvent l] w4 := Ws.unpack (hW.pick [0] (by decide) rfl)
 have hW := hW.share 1 rfl (H' := [PlS n5 n6 n7 n8 n9 n10 (1000) kst0 0 n11 ([] : VT26) M0 none 0 ([] : List Hit) 0]) rfl
 refine st_p (vT #[pA n5 0, vI .i64 0]) hA fun ac hA => st_p (pA n5 0) hA fun ac hA => st_p (vI .i64 0) hA fun ac hA => st_p (pA n5 0) hA fun ac hA => st_p (vI .i64 0) hA fun ac hA => wn <| wp_seq <| wr <| st_p (vI .i64 0) hA ?_; clear hA ac; intro ac hA
 refine st_s hA (Runs.callN (v := vI .i64 (0)) (fun _ => by kernel_rfl) hW (e_num (0) w4) ?_); clear hA ac hW; intro w12 hW hfw12 ac hA
 refine st_p (vB (((0) : Int) != (0 : Int))) hA ?_; clear hA ac; intro ac hA
 refine wn <| wp_cond_split (t := ((0) : Int) != (0 : Int)) (hA.eval (by kernel_rfl)) (fun h13 => ?_) (fun h13 => ?_)
 ·
  have h13 := bne_iff_ne.1 h13
  exfalso; clear hA hW; omega
 have h13 := of_bne_f h13
 refine wp_skip <| thenN <| wr <| st_p (vS none 0 0) hA ?_; clear hA ac; intro ac hA
 refine wn <| wr <| st_p (vS none 0 0) hA ?_; clear hA ac; intro ac hA
 refine wn <| wp_seq <| wr <| st_p (vI .i64 0) hA ?_; clear hA ac; intro ac hA
 refine wn <| wp_block ?_
 have hok0_ := hw4_hK
 have hW := hW.addNil 43 9 enEvent
 have hW := hW.addNil 35 3 enHit
 have hW := hW.nestNil innerHit
 have hknq14 : ∀ x_ ∈ ([] : List Hit), capHit x_ := all_nil
 refine wp_loop_m (fun m_ ac_ wl_ => ∃ i : Nat, ∃ E : List Event, ∃ Ac : Option Addr, ∃ cc : Nat, ∃ D : List Hit, ∃ Ad : Option Addr, ∃ cd : Nat, ∃ G : List (Int × SV), ∃ T : List (Thing × SV), ∃ V : VT26, ∃ A : Option Addr, ∃ c : Nat, ∃ Hs : List Hit, ∃ mny : Int, m_ = l.length - i ∧ (i ≤ l.length) ∧ (Came 1000 E) ∧ (ClkOk 1000 i (stK E) G T) ∧ (PlOk i V (mK E) Hs mny) ∧ (mny = (E.length : Int)) ∧ (D.map Hit.wi = withL E) ∧ (E.length ≤ i) ∧ (E.length ≤ cc) ∧ (D.length ≤ cd) ∧ (∀ x_ ∈ D, capHit x_) ∧ (∀ x ∈ E, (-9223372036854775808 ≤ x.kind ∧ x.kind ≤ 9223372036854775807) ∧ 0 ≤ x.addr ∧ x.addr ≤ 4294967295) ∧ Fm 219 [] [(0, vS A_l l.length c_l), (3, pA n5 0), (5, vS Ac E.length cc), (6, vS Ad D.length cd), (7, vI .i64 (i : Int))] ac_ ∧ Ws w No [rowR 35 3 enHit (vS Ad D.length cd) D, rowR 43 9 enEvent (vS Ac E.length cc) E, PlS n5 n6 n7 G n9 T 1000 (stK E) i n11 V (mK E) A c Hs mny] [nestR innerHit D, nestR innerSV (NV [] G T), roR A_l 9 enEvent l] wl_) _ ⟨0, ([] : List Event), none, 0, ([] : List Hit), none, 0, n8, n10, ([] : VT26), none, 0, ([] : List Hit), 0, rfl, by omega, by exact .nil, by exact hok0_, by exact PlOk.start, by rfl, by rfl, by simp, by simp, by simp, by exact all_nil, by simp, hA.sub (by and_intros <;> first | kernel_rfl | trivial), (hW.pick [0, 1, 2] (by decide) rfl).pickG [0, 1, 2] rfl⟩ ?_
 clear hA ac hW; rintro m_ ac w15 ⟨i, E, Ac, cc, D, Ad, cd, G, T, V, A, c, Hs, mny, rfl, hi, hC, hok, hpl, hmy, hD, hEl, hcc_, hcd_, hkD, hEa, hA, hW⟩
 refine wp_seq <| wr <| st_p (vI .i64 (i : Int)) hA fun ac hA => st_p (vS A_l l.length c_l) hA fun ac hA => st_p (vI .i64 (l.length : Int)) hA fun ac hA => st_p (vB (decide ((i : Int) < (l.length : Int)))) hA fun ac hA => wn <| wp_cond_split (t := decide ((i : Int) < (l.length : Int))) (hA.eval (by kernel_rfl)) (fun h16 => ?_) (fun h16 => ?_)
 ·
  have h16 := of_decide_eq_true h16
  refine wp_skip <| thenN <| wp_seq <| wp_block <| wp_seq ?_
  obtain ⟨y17, hy17⟩ : ∃ y, l[i]? = some y := ⟨_, List.getElem?_eq_getElem (by omega)⟩
  obtain ⟨b18, o19, rfl, hbb18⟩ := row_some ((hW).getG 2 rfl) hy17
  have hyr_ := hel _ (List.mem_of_getElem? hy17)
  have hown_ : (stK E).g y17.g ≠ none → getC (kacc (stK E) y17) y17.g = getC (gv (stK E) y17.g) y17.g := fun h_ => (hC.inv.own h_).1.trans (hC.inv.own h_).2.symm
  refine wp_region_lit <| st_p (pA n5 0) hA fun ac hA => st_p (vS (some ⟨b18, o19, none⟩) l.length c_l) hA fun ac hA => st_p (vI .i64 (i : Int)) hA fun ac hA => st_q (vP (some ⟨b18, o19 + i * 9, none⟩)) hA hW.cls (Rd.indexAddr (e := 43) (sz := 9) (b := b18) (off := o19) (n := l.length) (c := c_l) (k := i) (by kernel_rfl) (by kernel_rfl) (by first | omega | (simp; done) | (simp; omega)) (fun _ => by kernel_rfl) (fun _ => by kernel_rfl)) fun ac hA => st_q (vA #[vI .i64 y17.g, vI .i64 y17.kind, vI .i64 y17.site.f, vI .i64 y17.site.pc, vI .u32 y17.addr, vI .i64 y17.child, vI .i64 y17.obj, vI .i64 y17.n, vI .i64 y17.trap]) hA hW.cls (Rd.loadRow (b := b18) (i := o19 + i * 9) (xs := [vI .i64 y17.g, vI .i64 y17.kind, vI .i64 y17.site.f, vI .i64 y17.site.pc, vI .u32 y17.addr, vI .i64 y17.child, vI .i64 y17.obj, vI .i64 y17.n, vI .i64 y17.trap]) (by kernel_rfl) (fun _ hw => row_ld ((hw.1).getG 2 rfl) hy17 (Fr.refl No _) (fun h => h) 0 9 (by kernel_rfl)) (by kernel_rfl)) fun ac hA => st_s hA (Runs.call (fun _ => by kernel_rfl) (e_vcome n5 n6 n7 G n9 T 1000 (stK E) i n11 V (mK E) A c Hs mny y17 w15 ((hW).get 2 rfl) ((hW).lt _ (List.mem_of_getElem? (i := 2) rfl)) ((hW).getG 1 rfl) ((hW).gd _ (List.mem_of_getElem? (i := 1) rfl) _ (List.mem_of_getElem? (i := 2) rfl)) (by first | omega | decide | assumption | exact ⟨by omega, by omega⟩ | exact hyr_.1.2 | exact hyr_.2 | exact hown_ | exact hC.ok | exact (hel _ (List.mem_of_getElem? (by assumption))).1) (by first | omega | decide | assumption | exact ⟨by omega, by omega⟩ | exact hyr_.1.2 | exact hyr_.2 | exact hown_ | exact hC.ok | exact (hel _ (List.mem_of_getElem? (by assumption))).1) (by first | omega | decide | assumption | exact ⟨by omega, by omega⟩ | exact hyr_.1.2 | exact hyr_.2 | exact hown_ | exact hC.ok | exact (hel _ (List.mem_of_getElem? (by assumption))).1) (by first | omega | decide | assumption | exact ⟨by omega, by omega⟩ | exact hyr_.1.2 | exact hyr_.2 | exact hown_ | exact hC.ok | exact (hel _ (List.mem_of_getElem? (by assumption))).1) (by first | omega | decide | assumption | exact ⟨by omega, by omega⟩ | exact hyr_.1.2 | exact hyr_.2 | exact hown_ | exact hC.ok | exact (hel _ (List.mem_of_getElem? (by assumption))).1) (by first | omega | decide | assumption | exact ⟨by omega, by omega⟩ | exact hyr_.1.2 | exact hyr_.2 | exact hown_ | exact hC.ok | exact (hel _ (List.mem_of_getElem? (by assumption))).1)) ?_)
  rintro _ w20 ⟨u21, u22, u23, u24, u25, u26, u27, u28, u29, u30, u31, u32, u33, u34, u35, Ao36, co37, rfl, hw20_hE, hw20_hV, hw20_hP, hw20_hK, hcco37, hfco37, hnf_, hne_, hu_⟩; refine ⟨_, rfl, ?_⟩; have hW0 := hW; have hW := hW.upd (H' := [rowR 35 3 enHit (vS Ad D.length cd) D, rowR 43 9 enEvent (vS Ac E.length cc) E, PlS n5 n6 n7 u24 n9 u25 1000 u21 (i + 1) n11 u26 u27 u29 u30 u28 u31]) 2 rfl hu_ rfl; have hW := hW0.addFromU hW 2 rfl rfl hnf_ (in_cons (in_at 1 rfl) in_nil) hne_
  have hknv38 : ∀ x_ ∈ (NV [] u24 u25), capSV x_ := hw20_hK.cap
  have hW := hW0.addFromU hW 2 rfl rfl hfco37.1 in_nil hfco37.2
  clear hW0 hu_ hnf_ hne_ hfco37 hA ac; intro ac hA
  refine st_p (vT #[vA #[vI .i64 u32, vI .u32 u33, vS Ao36 u34.length co37], vB u35, vI .i64 u23]) hA fun ac hA => st_p (vA #[vI .i64 u32, vI .u32 u33, vS Ao36 u34.length co37]) hA fun ac hA => st_p (vB u35) hA fun ac hA => st_p (vI .i64 u23) hA fun ac hA => st_s hA (Runs.cells (fun b => pA b 0) #[vI .i64 0, vI .u32 0, vS none 0 0] 35 (fun _ => by kernel_rfl) hW ?_); clear hA ac hW; intro b39 w40 hW hb39 hfw40 ac hA
  refine st_s hA (Runs.store (v := vA #[vI .i64 u32, vI .u32 u33, vS Ao36 u34.length co37]) (b := b39) (j := 0) (n := 3) (cs' := #[vI .i64 u32, vI .u32 u33, vS Ao36 u34.length co37]) (H' := [Cel b39 #[vI .i64 u32, vI .u32 u33, vS Ao36 u34.length co37] 35, rowR 35 3 enHit (vS Ad D.length cd) D, rowR 43 9 enEvent (vS Ac E.length cc) E, PlS n5 n6 n7 u24 n9 u25 1000 u21 (i + 1) n11 u26 u27 u29 u30 u28 u31]) (by kernel_rfl) (by kernel_rfl) (by kernel_rfl) (by kernel_rfl) (by kernel_rfl) hW 0 (by rfl) (Nat.le_of_ble_eq_true (by kernel_rfl)) (by kernel_rfl) (by rfl) ?_); clear hA ac hW; intro w41 hW ac hA
  refine st_p (vB u35) hA fun ac hA => st_p (vI .i64 u23) hA fun ac hA => wn <| wp_seq <| wr <| st_p (vI .i64 u23) hA ?_; clear hA ac; intro ac hA
  refine st_s hA (Runs.callN (v := vI .i64 (u23)) (fun _ => by kernel_rfl) hW (e_num (u23) w41) ?_); clear hA ac hW; intro w42 hW hfw42 ac hA
  refine st_p (vB (((u23) : Int) != (0 : Int))) hA ?_; clear hA ac; intro ac hA
  refine wn <| wp_cond_split (t := ((u23) : Int) != (0 : Int)) (hA.eval (by kernel_rfl)) (fun h43 => ?_) (fun h43 => ?_)
  ·
   have h43 := bne_iff_ne.1 h43
   refine wp_exit <| thenX <| blkX <| thenN ?_
   have hs2_ := come_no0 hw20_hE h43; subst hs2_; have r_ := hw20_hV.trans (comeV_no h43); have r1_ : u27 = mK E := congrArg Prod.fst r_; have r2_ : u31 = mny := congrArg (fun z_ => z_.2.2.1) r_; clear r_; clear hw20_hV; subst r1_
   replace hW : Ws w No [Cel b39 #[vI .i64 u32, vI .u32 u33, vS Ao36 u34.length co37] 35, rowR 35 3 enHit (vS Ad D.length cd) D, rowR 43 9 enEvent (vS Ac E.length cc) E, PlS n5 n6 n7 u24 n9 u25 1000 (stK E) (i + 1) n11 u26 (mK E) u29 u30 u28 u31] [roR Ao36 4 enAcc u34, nestR innerSV (NV [] u24 u25), nestR innerHit D, nestR innerSV (NV [] G T), roR (some ⟨b18, o19, none⟩) 9 enEvent l] w42 := hW
   refine wp_region_lit <| st_p (vI .i64 (i : Int)) hA fun ac hA => st_q (vI .i64 ((i + 1 : Nat) : Int)) hA hW.cls (Rd.pureE (v0 := vI .i64 (IntKind.i64.wrap ((i : Int) + 1))) (fun _ => by kernel_rfl) (congrArg (vI .i64) ((w_i64 (x := (i : Int) + 1) (by omega) (by omega)).trans (by omega)))) fun ac hA => st_p (vI .i64 ((i + 1 : Nat) : Int)) hA fun ac hA => wn ?_
   exact ⟨l.length - (i + 1), by omega, i + 1, E, Ac, cc, D, Ad, cd, u24, u25, u26, u29, u30, u28, u31, rfl, by omega, by exact hC, by exact hw20_hK, by exact hw20_hP, by omega, by exact hD, by omega, by exact hcc_, by exact hcd_, by exact hkD, by exact hEa, hA.sub (by and_intros <;> first | kernel_rfl | trivial), (hW.pick [1, 2, 3] (by decide) rfl).pickG [2, 1, 4] rfl⟩
  have h43 := of_bne_f h43
  refine wp_skip <| thenN <| wp_seq <| wp_seq ?_
  obtain ⟨hz_, hs2_, -⟩ := come_is0 hw20_hE h43; have hs3_ := hs2_.trans (stK_snoc E y17).symm; subst hs3_; clear hs2_; have hC2_ := hC.snoc hz_; have her_ : u23 = 0 := h43; subst her_
  obtain ⟨r1_, r2_, r3_, r4_, r5_⟩ := came_hit (E := E) hw20_hV; clear hw20_hV; subst r1_ r3_ r4_
  replace hW : Ws w No [Cel b39 #[vI .i64 u32, vI .u32 u33, vS Ao36 ((wE E y17)).length co37] 35, rowR 35 3 enHit (vS Ad D.length cd) D, rowR 43 9 enEvent (vS Ac E.length cc) E, PlS n5 n6 n7 u24 n9 u25 1000 (stK (E ++ [y17])) (i + 1) n11 u26 (mK (E ++ [y17])) u29 u30 u28 u31] [roR Ao36 4 enAcc (wE E y17), nestR innerSV (NV [] u24 u25), nestR innerHit D, nestR innerSV (NV [] G T), roR (some ⟨b18, o19, none⟩) 9 enEvent l] w42 := hW
  refine q_region (by kernel_rfl) (by kernel_rfl) hW <| sq_p (vB (hitB E y17)) hA fun ac hA => sq_p (pA b39 2) hA fun ac hA => sq_q (vS Ao36 ((wE E y17)).length co37) hA (rl b39 2 0) fun ac hA => sq_p (vI .i64 ((((wE E y17)).length : Nat) : Int)) hA fun ac hA => sq_p (vB (decide ((((((wE E y17)).length : Nat) : Int) : Int) > (0 : Int)))) hA fun ac hA => sq_p (vB (!((hitB E y17) == (decide ((((((wE E y17)).length : Nat) : Int) : Int) > (0 : Int)))))) hA fun ac hA => sq_p (vB (!((hitB E y17) == (decide ((((((wE E y17)).length : Nat) : Int) : Int) > (0 : Int)))))) hA fun ac hA => ?_
  rcases Bool.eq_false_or_eq_true (!((hitB E y17) == (decide ((((((wE E y17)).length : Nat) : Int) : Int) > (0 : Int))))) with h44 | h44
  ·
   rw [h44] at hA
   have h44 := bbne_t h44
   exfalso; clear hA hW; exact h44 (hitB_eq _ _)
  rw [h44] at hA
  have h44 := bbne_f h44
  refine sq_p (vB (hitB E y17)) hA fun ac hA => sq_p (vB (hitB E y17)) hA fun ac hA => ?_
  rcases Bool.eq_false_or_eq_true ((hitB E y17)) with h46 | h46
  ·
   rw [h46] at hA
   refine sq_p (pA b39 0) hA fun ac hA => sq_q (vI .i64 u32) hA (rl b39 0 0) fun ac hA => sq_p (vS Ac E.length cc) hA fun ac hA => sq_p (vI .i64 (E.length : Int)) hA fun ac hA => sq_p (vB ((u32 : Int) != (E.length : Int))) hA fun ac hA => sq_p (vB ((u32 : Int) != (E.length : Int))) hA fun ac hA => ?_
   rcases Bool.eq_false_or_eq_true ((u32 : Int) != (E.length : Int)) with h47 | h47
   ·
    rw [h47] at hA
    have h47 := bne_iff_ne.1 h47
    exfalso; clear hA hW; exact h47 ((r5_ h46).1.trans hmy)
   rw [h47] at hA
   have h47 := of_bne_f h47
   refine sq_p (pA b39 1) hA fun ac hA => sq_q (vI .u32 u33) hA (rl b39 1 0) fun ac hA => sq_p (vS (some ⟨b18, o19, none⟩) l.length c_l) hA fun ac hA => sq_p (vI .i64 (i : Int)) hA fun ac hA => sq_q (vP (some ⟨b18, o19 + i * 9, none⟩)) hA (Rd.indexAddr (e := 43) (sz := 9) (b := b18) (off := o19) (n := l.length) (c := c_l) (k := i) (by kernel_rfl) (by kernel_rfl) (by first | omega | (simp; done) | (simp; omega)) (fun _ => by kernel_rfl) (fun _ => by kernel_rfl)) fun ac hA => sq_p (vP (some ⟨b18, o19 + i * 9 + 4, none⟩)) hA fun ac hA => sq_q (vI .u32 y17.addr) hA (Rd.loadRow (b := b18) (i := o19 + i * 9 + 4) (xs := [vI .u32 y17.addr]) (by kernel_rfl) (fun _ hw => row_ld ((hw.1).getG 4 rfl) hy17 (Fr.refl No _) (fun h => h) 4 1 (by kernel_rfl)) (by kernel_rfl)) fun ac hA => sq_p (vB ((u33 : Int) != (y17.addr : Int))) hA fun ac hA => sq_p (vB ((u33 : Int) != (y17.addr : Int))) hA fun ac hA => sq_p (vB ((u33 : Int) != (y17.addr : Int))) hA fun ac hA => sq_p (vB ((u33 : Int) != (y17.addr : Int))) hA fun ac hA => sq_nil ?_; intro w49 hww49; have hW := hww49.1; have hfw49 := hww49.2; clear hww49
   refine thenN <| wp_cond_split (t := (u33 : Int) != (y17.addr : Int)) (hA.eval (by kernel_rfl)) (fun h50 => ?_) (fun h50 => ?_)
   ·
    have h50 := bne_iff_ne.1 h50
    exfalso; clear hA hW; exact h50 (r5_ h46).2
   have h50 := of_bne_f h50
   refine wp_skip <| thenN ?_
   have hdl_ : D.length = E.length := by { have q_ := congrArg List.length hD; unfold withL perE at q_; simpa using q_ }
   refine wp_cut (fun ac_ wl_ => ∃ Ar15_10 : Option Addr, ∃ Ar15_6 : Option Addr, ∃ br15_5 : Nat, ∃ br15_9 : Nat, ∃ cr15_10 : Nat, ∃ cr15_6 : Nat, ((D ++ ([(⟨u32, u33, (wE E y17), Ao36, co37⟩ : Hit)] : List Hit)).length ≤ cr15_10) ∧ ((E ++ ([y17] : List Event)).length ≤ cr15_6) ∧ (∀ x_ ∈ ([] : List Hit), capHit x_) ∧ (∀ x_ ∈ ([(⟨u32, u33, (wE E y17), Ao36, co37⟩ : Hit)] : List Hit), capHit x_) ∧ (∀ x_ ∈ (D ++ ([(⟨u32, u33, (wE E y17), Ao36, co37⟩ : Hit)] : List Hit)), capHit x_) ∧ Fm 219 [] [(0, vS (some ⟨b18, o19, none⟩) l.length c_l), (3, pA n5 0), (5, vS Ar15_6 (E ++ ([y17] : List Event)).length cr15_6), (6, vS Ar15_10 (D ++ ([(⟨u32, u33, (wE E y17), Ao36, co37⟩ : Hit)] : List Hit)).length cr15_10), (7, vI .i64 (i : Int)), (8, pA b39 0), (9, vB true), (10, vI .i64 0), (31, vI .i64 (i : Int)), (32, vS (some ⟨b18, o19, none⟩) l.length c_l), (33, vI .i64 (l.length : Int)), (34, vB (decide ((i : Int) < (l.length : Int)))), (37, vT #[vA #[vI .i64 u32, vI .u32 u33, vS Ao36 ((wE E y17)).length co37], vB true, vI .i64 0]), (38, pA n5 0), (39, vS (some ⟨b18, o19, none⟩) l.length c_l), (40, vI .i64 (i : Int)), (41, vP (some ⟨b18, o19 + i * 9, none⟩)), (42, vA #[vI .i64 y17.g, vI .i64 y17.kind, vI .i64 y17.site.f, vI .i64 y17.site.pc, vI .u32 y17.addr, vI .i64 y17.child, vI .i64 y17.obj, vI .i64 y17.n, vI .i64 y17.trap]), (43, vT #[vA #[vI .i64 u32, vI .u32 u33, vS Ao36 ((wE E y17)).length co37], vB true, vI .i64 0]), (44, vA #[vI .i64 u32, vI .u32 u33, vS Ao36 ((wE E y17)).length co37]), (45, vB true), (46, vI .i64 0), (47, vI .i64 0), (48, vI .i64 (0)), (49, vB (((0) : Int) != (0 : Int))), (50, vB true), (51, pA b39 2), (52, vS Ao36 ((wE E y17)).length co37), (53, vI .i64 ((((wE E y17)).length : Nat) : Int)), (54, vB (decide ((((((wE E y17)).length : Nat) : Int) : Int) > (0 : Int)))), (55, vB false), (56, vB false), (57, vB true), (58, vB true), (59, pA b39 0), (60, vI .i64 u32), (61, vS Ac E.length cc), (62, vI .i64 (E.length : Int)), (63, vB false), (64, vB false), (65, pA b39 1), (66, vI .u32 u33), (67, vS (some ⟨b18, o19, none⟩) l.length c_l), (68, vI .i64 (i : Int)), (69, vP (some ⟨b18, o19 + i * 9, none⟩)), (70, vP (some ⟨b18, o19 + i * 9 + 4, none⟩)), (71, vI .u32 y17.addr), (72, vB ((u33 : Int) != (y17.addr : Int))), (73, vB ((u33 : Int) != (y17.addr : Int))), (74, vB ((u33 : Int) != (y17.addr : Int))), (75, vB ((u33 : Int) != (y17.addr : Int)))] ac_ ∧ Ws w No [Cel br15_9 #[vI .i64 u32, vI .u32 u33, vS Ao36 ((wE E y17)).length co37] 35, Cel br15_5 #[vI .i64 y17.g, vI .i64 y17.kind, vI .i64 y17.site.f, vI .i64 y17.site.pc, vI .u32 y17.addr, vI .i64 y17.child, vI .i64 y17.obj, vI .i64 y17.n, vI .i64 y17.trap] 43, Cel b39 #[vI .i64 u32, vI .u32 u33, vS Ao36 ((wE E y17)).length co37] 35, rowR 35 3 enHit (vS Ar15_10 (D ++ ([(⟨u32, u33, (wE E y17), Ao36, co37⟩ : Hit)] : List Hit)).length cr15_10) (D ++ ([(⟨u32, u33, (wE E y17), Ao36, co37⟩ : Hit)] : List Hit)), rowR 43 9 enEvent (vS Ar15_6 (E ++ ([y17] : List Event)).length cr15_6) (E ++ ([y17] : List Event)), PlS n5 n6 n7 u24 n9 u25 1000 (stK (E ++ [y17])) (i + 1) n11 u26 (mK (E ++ [y17])) u29 u30 u28 u31] [nestR innerHit (D ++ ([(⟨u32, u33, (wE E y17), Ao36, co37⟩ : Hit)] : List Hit)), nestR innerHit ([(⟨u32, u33, (wE E y17), Ao36, co37⟩ : Hit)] : List Hit), nestR innerHit ([] : List Hit), roR Ao36 4 enAcc (wE E y17), nestR innerSV (NV [] u24 u25), nestR innerHit D, nestR innerSV (NV [] G T), roR (some ⟨b18, o19, none⟩) 9 enEvent l] wl_) ?_ ?_
   · refine sr_region (m := 13) (C := Ws w No [Cel b39 #[vI .i64 u32, vI .u32 u33, vS Ao36 ((wE E y17)).length co37] 35, PlS n5 n6 n7 u24 n9 u25 1000 (stK (E ++ [y17])) (i + 1) n11 u26 (mK (E ++ [y17])) u29 u30 u28 u31] [roR Ao36 4 enAcc (wE E y17), nestR innerSV (NV [] u24 u25), nestR innerHit D, nestR innerSV (NV [] G T), roR (some ⟨b18, o19, none⟩) 9 enEvent l]) (fun i => [4, 8].contains i) (fun i => [4, 5, 6, 8, 9].contains i) (fun i => [0, 1, 2, 3, 7, 11, 12].contains i) (by kernel_rfl) (by kernel_rfl) (by kernel_rfl) (by kernel_rfl) hW ?_; clear hW; intro w51 hW hfw51 hR; have hC : Ws w No [Cel b39 #[vI .i64 u32, vI .u32 u33, vS Ao36 ((wE E y17)).length co37] 35, PlS n5 n6 n7 u24 n9 u25 1000 (stK (E ++ [y17])) (i + 1) n11 u26 (mK (E ++ [y17])) u29 u30 u28 u31] [roR Ao36 4 enAcc (wE E y17), nestR innerSV (NV [] u24 u25), nestR innerHit D, nestR innerSV (NV [] G T), roR (some ⟨b18, o19, none⟩) 9 enEvent l] w51 := hW.pick [0, 3] (by decide) rfl
     refine sr_p 0 (vS Ac E.length cc) hR rfl hA fun ac hA => sr_p 1 (vS (some ⟨b18, o19, none⟩) l.length c_l) hR rfl hA fun ac hA => sr_p 2 (vI .i64 (i : Int)) hR rfl hA fun ac hA => sr_q 3 (vP (some ⟨b18, o19 + i * 9, none⟩)) hR rfl hA (Rd.indexAddr (e := 43) (sz := 9) (b := b18) (off := o19) (n := l.length) (c := c_l) (k := i) (by kernel_rfl) (by kernel_rfl) (by first | omega | (simp; done) | (simp; omega)) (fun _ => by kernel_rfl) (fun _ => by kernel_rfl)) fun ac hA => sr_t 4 (vA #[vI .i64 y17.g, vI .i64 y17.kind, vI .i64 y17.site.f, vI .i64 y17.site.pc, vI .u32 y17.addr, vI .i64 y17.child, vI .i64 y17.obj, vI .i64 y17.n, vI .i64 y17.trap]) hR rfl hA hC (Rd.loadRow (b := b18) (i := o19 + i * 9) (xs := [vI .i64 y17.g, vI .i64 y17.kind, vI .i64 y17.site.f, vI .i64 y17.site.pc, vI .u32 y17.addr, vI .i64 y17.child, vI .i64 y17.obj, vI .i64 y17.n, vI .i64 y17.trap]) (by kernel_rfl) (fun _ hw => row_ld ((hw).getG 4 rfl) hy17 (Fr.refl No _) (fun h => h) 0 9 (by kernel_rfl)) (by kernel_rfl)) fun ac hA => sr_p 7 (vS Ad D.length cd) hR rfl hA fun ac hA => sr_t 8 (vA #[vI .i64 u32, vI .u32 u33, vS Ao36 ((wE E y17)).length co37]) hR rfl hA hC (Rd.load (b := b39) (i := 0) (by kernel_rfl) (fun _ hw => (hw).cel 0 rfl) (by kernel_rfl)) fun ac hA => sr_two (i := 5) (j := 9) (by kernel_rfl) ?_ ?_
     ·
      refine (sr_d rfl hA (Runs.cells (fun b => vS (some ⟨b, 0, none⟩) 1 1) #[vI .i64 y17.g, vI .i64 y17.kind, vI .i64 y17.site.f, vI .i64 y17.site.pc, vI .u32 y17.addr, vI .i64 y17.child, vI .i64 y17.obj, vI .i64 y17.n, vI .i64 y17.trap] 43 (fun _ => by kernel_rfl) hW ?_)); clear hA ac hW; intro br15_5 w52 hW hbr15_5 hfw52 ac hA
      refine ⟨⟨fun _ => (hW.pick [1, 4] (by decide) rfl).pickG [0, 1, 2, 3, 4] rfl, fun h => absurd h (by decide)⟩, ?_⟩; have hC : Ws w No [Cel b39 #[vI .i64 u32, vI .u32 u33, vS Ao36 ((wE E y17)).length co37] 35, PlS n5 n6 n7 u24 n9 u25 1000 (stK (E ++ [y17])) (i + 1) n11 u26 (mK (E ++ [y17])) u29 u30 u28 u31] [roR Ao36 4 enAcc (wE E y17), nestR innerSV (NV [] u24 u25), nestR innerHit D, nestR innerSV (NV [] G T), roR (some ⟨b18, o19, none⟩) 9 enEvent l] w52 := (hW.pick [1, 4] (by decide) rfl).pickG [0, 1, 2, 3, 4] rfl
      refine sr_two (i := 6) (j := 9) (by kernel_rfl) ?_ ?_
      ·
       refine (sr_d rfl hA (Runs.appOwn (B := (some ⟨br15_5, 0, none⟩)) (k := 1) (E := 43) (sz := 9) (en := enEvent) (l := E) (m := ([y17] : List Event)) (i := 3) (by kernel_rfl) (by kernel_rfl) elt_Event (by kernel_rfl) hW rfl (rowAt_cel ((hW).cel 0 rfl) ([y17] : List Event) (by rfl) elt_Event.len) (by first | omega | (simp; done) | (simp; omega)) (by first | omega | (simp; done) | (simp; omega)) ?_)); clear hA ac hW; intro Ar15_6 cr15_6 w53 hW hccr15_6 ac hA
       refine ⟨⟨fun _ => (hW.pick [1, 4] (by decide) rfl).pickG [0, 1, 2, 3, 4] rfl, fun h => absurd h (by decide)⟩, ?_⟩; have hC : Ws w No [Cel b39 #[vI .i64 u32, vI .u32 u33, vS Ao36 ((wE E y17)).length co37] 35, PlS n5 n6 n7 u24 n9 u25 1000 (stK (E ++ [y17])) (i + 1) n11 u26 (mK (E ++ [y17])) u29 u30 u28 u31] [roR Ao36 4 enAcc (wE E y17), nestR innerSV (NV [] u24 u25), nestR innerHit D, nestR innerSV (NV [] G T), roR (some ⟨b18, o19, none⟩) 9 enEvent l] w53 := (hW.pick [1, 4] (by decide) rfl).pickG [0, 1, 2, 3, 4] rfl
       refine sr_one (i := 9) (by kernel_rfl) (sr_d rfl hA (Runs.cells (fun b => vS (some ⟨b, 0, none⟩) 1 1) #[vI .i64 u32, vI .u32 u33, vS Ao36 ((wE E y17)).length co37] 35 (fun _ => by kernel_rfl) hW ?_)); clear hA ac hW; intro br15_9 w54 hW hbr15_9 hfw54 ac hA
       refine ⟨⟨fun _ => (hW.pick [2, 5] (by decide) rfl).pickG [0, 1, 2, 3, 4] rfl, fun h => absurd h (by decide)⟩, ?_⟩; have hC : Ws w No [Cel b39 #[vI .i64 u32, vI .u32 u33, vS Ao36 ((wE E y17)).length co37] 35, PlS n5 n6 n7 u24 n9 u25 1000 (stK (E ++ [y17])) (i + 1) n11 u26 (mK (E ++ [y17])) u29 u30 u28 u31] [roR Ao36 4 enAcc (wE E y17), nestR innerSV (NV [] u24 u25), nestR innerHit D, nestR innerSV (NV [] G T), roR (some ⟨b18, o19, none⟩) 9 enEvent l] w54 := (hW.pick [2, 5] (by decide) rfl).pickG [0, 1, 2, 3, 4] rfl
       have hW := hW.nestNil innerHit
       have hknq15_10 : ∀ x_ ∈ ([] : List Hit), capHit x_ := all_nil
       have hcq55 : (wE E y17).length ≤ co37 := (by first | assumption | omega | (simp; omega) | simp)
       have hW := Ws.nestCons (inner := innerHit) hW 0 rfl (⟨u32, u33, (wE E y17), Ao36, co37⟩ : Hit) (hW.getG 1 rfl) (fun _ hb_ => ⟨_, List.mem_of_getElem? (i := 1) rfl, hb_⟩)
       have hknq15_10x1 : ∀ x_ ∈ ([(⟨u32, u33, (wE E y17), Ao36, co37⟩ : Hit)] : List Hit), capHit x_ := all_cons hcq55 hknq15_10
       have hW := hW.nestApp 4 0 rfl rfl
       have hknq15_10x2 : ∀ x_ ∈ (D ++ ([(⟨u32, u33, (wE E y17), Ao36, co37⟩ : Hit)] : List Hit)), capHit x_ := all_app hkD hknq15_10x1
       refine sr_one (i := 10) (by kernel_rfl) (sr_d rfl hA (Runs.appOwn (B := (some ⟨br15_9, 0, none⟩)) (k := 1) (E := 35) (sz := 3) (en := enHit) (l := D) (m := ([(⟨u32, u33, (wE E y17), Ao36, co37⟩ : Hit)] : List Hit)) (i := 3) (by kernel_rfl) (by kernel_rfl) elt_Hit (by kernel_rfl) hW rfl (rowAt_cel ((hW).cel 0 rfl) ([(⟨u32, u33, (wE E y17), Ao36, co37⟩ : Hit)] : List Hit) (by rfl) elt_Hit.len) (by first | omega | (simp; done) | (simp; omega)) (by first | omega | (simp; done) | (simp; omega)) ?_)); clear hA ac hW; intro Ar15_10 cr15_10 w56 hW hccr15_10 ac hA
       refine qn <| sr_p 11 (vS Ar15_6 (E ++ ([y17] : List Event)).length cr15_6) hR rfl hA fun ac hA => sr_p 12 (vS Ar15_10 (D ++ ([(⟨u32, u33, (wE E y17), Ao36, co37⟩ : Hit)] : List Hit)).length cr15_10) hR rfl hA fun ac hA => sr_done (by kernel_rfl) ?_ _
       exact ⟨Ar15_10, Ar15_6, br15_5, br15_9, cr15_10, cr15_6, hccr15_10, hccr15_6, hknq15_10, hknq15_10x1, hknq15_10x2, hA.sub (by and_intros <;> first | kernel_rfl | trivial), (hW.pick [0, 1, 2, 3, 4, 5] (by decide) rfl).pickG [0, 1, 2, 3, 4, 5, 6, 7] rfl⟩
      ·
       refine (sr_d rfl hA (Runs.cells (fun b => vS (some ⟨b, 0, none⟩) 1 1) #[vI .i64 u32, vI .u32 u33, vS Ao36 ((wE E y17)).length co37] 35 (fun _ => by kernel_rfl) hW ?_)); clear hA ac hW; intro br15_9 w57 hW hbr15_9 hfw57 ac hA
       refine ⟨⟨fun _ => (hW.pick [2, 5] (by decide) rfl).pickG [0, 1, 2, 3, 4] rfl, fun h => absurd h (by decide)⟩, ?_⟩; have hC : Ws w No [Cel b39 #[vI .i64 u32, vI .u32 u33, vS Ao36 ((wE E y17)).length co37] 35, PlS n5 n6 n7 u24 n9 u25 1000 (stK (E ++ [y17])) (i + 1) n11 u26 (mK (E ++ [y17])) u29 u30 u28 u31] [roR Ao36 4 enAcc (wE E y17), nestR innerSV (NV [] u24 u25), nestR innerHit D, nestR innerSV (NV [] G T), roR (some ⟨b18, o19, none⟩) 9 enEvent l] w57 := (hW.pick [2, 5] (by decide) rfl).pickG [0, 1, 2, 3, 4] rfl
       refine sr_one (i := 6) (by kernel_rfl) (sr_d rfl hA (Runs.appOwn (B := (some ⟨br15_5, 0, none⟩)) (k := 1) (E := 43) (sz := 9) (en := enEvent) (l := E) (m := ([y17] : List Event)) (i := 4) (by kernel_rfl) (by kernel_rfl) elt_Event (by kernel_rfl) hW rfl (rowAt_cel ((hW).cel 1 rfl) ([y17] : List Event) (by rfl) elt_Event.len) (by first | omega | (simp; done) | (simp; omega)) (by first | omega | (simp; done) | (simp; omega)) ?_)); clear hA ac hW; intro Ar15_6 cr15_6 w58 hW hccr15_6 ac hA
       refine ⟨⟨fun _ => (hW.pick [2, 5] (by decide) rfl).pickG [0, 1, 2, 3, 4] rfl, fun h => absurd h (by decide)⟩, ?_⟩; have hC : Ws w No [Cel b39 #[vI .i64 u32, vI .u32 u33, vS Ao36 ((wE E y17)).length co37] 35, PlS n5 n6 n7 u24 n9 u25 1000 (stK (E ++ [y17])) (i + 1) n11 u26 (mK (E ++ [y17])) u29 u30 u28 u31] [roR Ao36 4 enAcc (wE E y17), nestR innerSV (NV [] u24 u25), nestR innerHit D, nestR innerSV (NV [] G T), roR (some ⟨b18, o19, none⟩) 9 enEvent l] w58 := (hW.pick [2, 5] (by decide) rfl).pickG [0, 1, 2, 3, 4] rfl
       have hW := hW.nestNil innerHit
       have hknq15_10 : ∀ x_ ∈ ([] : List Hit), capHit x_ := all_nil
       have hcq59 : (wE E y17).length ≤ co37 := (by first | assumption | omega | (simp; omega) | simp)
       have hW := Ws.nestCons (inner := innerHit) hW 0 rfl (⟨u32, u33, (wE E y17), Ao36, co37⟩ : Hit) (hW.getG 1 rfl) (fun _ hb_ => ⟨_, List.mem_of_getElem? (i := 1) rfl, hb_⟩)
       have hknq15_10x1 : ∀ x_ ∈ ([(⟨u32, u33, (wE E y17), Ao36, co37⟩ : Hit)] : List Hit), capHit x_ := all_cons hcq59 hknq15_10
       have hW := hW.nestApp 4 0 rfl rfl
       have hknq15_10x2 : ∀ x_ ∈ (D ++ ([(⟨u32, u33, (wE E y17), Ao36, co37⟩ : Hit)] : List Hit)), capHit x_ := all_app hkD hknq15_10x1
       refine sr_one (i := 10) (by kernel_rfl) (sr_d rfl hA (Runs.appOwn (B := (some ⟨br15_9, 0, none⟩)) (k := 1) (E := 35) (sz := 3) (en := enHit) (l := D) (m := ([(⟨u32, u33, (wE E y17), Ao36, co37⟩ : Hit)] : List Hit)) (i := 3) (by kernel_rfl) (by kernel_rfl) elt_Hit (by kernel_rfl) hW rfl (rowAt_cel ((hW).cel 0 rfl) ([(⟨u32, u33, (wE E y17), Ao36, co37⟩ : Hit)] : List Hit) (by rfl) elt_Hit.len) (by first | omega | (simp; done) | (simp; omega)) (by first | omega | (simp; done) | (simp; omega)) ?_)); clear hA ac hW; intro Ar15_10 cr15_10 w60 hW hccr15_10 ac hA
       refine qn <| sr_p 11 (vS Ar15_6 (E ++ ([y17] : List Event)).length cr15_6) hR rfl hA fun ac hA => sr_p 12 (vS Ar15_10 (D ++ ([(⟨u32, u33, (wE E y17), Ao36, co37⟩ : Hit)] : List Hit)).length cr15_10) hR rfl hA fun ac hA => sr_done (by kernel_rfl) ?_ _
       exact ⟨Ar15_10, Ar15_6, br15_5, br15_9, cr15_10, cr15_6, hccr15_10, hccr15_6, hknq15_10, hknq15_10x1, hknq15_10x2, hA.sub (by and_intros <;> first | kernel_rfl | trivial), (hW.pick [0, 1, 2, 3, 4, 5] (by decide) rfl).pickG [0, 1, 2, 3, 4, 5, 6, 7] rfl⟩
     ·
      refine (sr_d rfl hA (Runs.cells (fun b => vS (some ⟨b, 0, none⟩) 1 1) #[vI .i64 u32, vI .u32 u33, vS Ao36 ((wE E y17)).length co37] 35 (fun _ => by kernel_rfl) hW ?_)); clear hA ac hW; intro br15_9 w61 hW hbr15_9 hfw61 ac hA
      refine ⟨⟨fun _ => (hW.pick [1, 4] (by decide) rfl).pickG [0, 1, 2, 3, 4] rfl, fun h => absurd h (by decide)⟩, ?_⟩; have hC : Ws w No [Cel b39 #[vI .i64 u32, vI .u32 u33, vS Ao36 ((wE E y17)).length co37] 35, PlS n5 n6 n7 u24 n9 u25 1000 (stK (E ++ [y17])) (i + 1) n11 u26 (mK (E ++ [y17])) u29 u30 u28 u31] [roR Ao36 4 enAcc (wE E y17), nestR innerSV (NV [] u24 u25), nestR innerHit D, nestR innerSV (NV [] G T), roR (some ⟨b18, o19, none⟩) 9 enEvent l] w61 := (hW.pick [1, 4] (by decide) rfl).pickG [0, 1, 2, 3, 4] rfl
      refine sr_one (i := 5) (by kernel_rfl) (sr_d rfl hA (Runs.cells (fun b => vS (some ⟨b, 0, none⟩) 1 1) #[vI .i64 y17.g, vI .i64 y17.kind, vI .i64 y17.site.f, vI .i64 y17.site.pc, vI .u32 y17.addr, vI .i64 y17.child, vI .i64 y17.obj, vI .i64 y17.n, vI .i64 y17.trap] 43 (fun _ => by kernel_rfl) hW ?_)); clear hA ac hW; intro br15_5 w62 hW hbr15_5 hfw62 ac hA
      refine ⟨⟨fun _ => (hW.pick [2, 5] (by decide) rfl).pickG [0, 1, 2, 3, 4] rfl, fun h => absurd h (by decide)⟩, ?_⟩; have hC : Ws w No [Cel b39 #[vI .i64 u32, vI .u32 u33, vS Ao36 ((wE E y17)).length co37] 35, PlS n5 n6 n7 u24 n9 u25 1000 (stK (E ++ [y17])) (i + 1) n11 u26 (mK (E ++ [y17])) u29 u30 u28 u31] [roR Ao36 4 enAcc (wE E y17), nestR innerSV (NV [] u24 u25), nestR innerHit D, nestR innerSV (NV [] G T), roR (some ⟨b18, o19, none⟩) 9 enEvent l] w62 := (hW.pick [2, 5] (by decide) rfl).pickG [0, 1, 2, 3, 4] rfl
      refine sr_one (i := 6) (by kernel_rfl) (sr_d rfl hA (Runs.appOwn (B := (some ⟨br15_5, 0, none⟩)) (k := 1) (E := 43) (sz := 9) (en := enEvent) (l := E) (m := ([y17] : List Event)) (i := 4) (by kernel_rfl) (by kernel_rfl) elt_Event (by kernel_rfl) hW rfl (rowAt_cel ((hW).cel 0 rfl) ([y17] : List Event) (by rfl) elt_Event.len) (by first | omega | (simp; done) | (simp; omega)) (by first | omega | (simp; done) | (simp; omega)) ?_)); clear hA ac hW; intro Ar15_6 cr15_6 w63 hW hccr15_6 ac hA
      refine ⟨⟨fun _ => (hW.pick [2, 5] (by decide) rfl).pickG [0, 1, 2, 3, 4] rfl, fun h => absurd h (by decide)⟩, ?_⟩; have hC : Ws w No [Cel b39 #[vI .i64 u32, vI .u32 u33, vS Ao36 ((wE E y17)).length co37] 35, PlS n5 n6 n7 u24 n9 u25 1000 (stK (E ++ [y17])) (i + 1) n11 u26 (mK (E ++ [y17])) u29 u30 u28 u31] [roR Ao36 4 enAcc (wE E y17), nestR innerSV (NV [] u24 u25), nestR innerHit D, nestR innerSV (NV [] G T), roR (some ⟨b18, o19, none⟩) 9 enEvent l] w63 := (hW.pick [2, 5] (by decide) rfl).pickG [0, 1, 2, 3, 4] rfl
      have hW := hW.nestNil innerHit
      have hknq15_10 : ∀ x_ ∈ ([] : List Hit), capHit x_ := all_nil
      have hcq64 : (wE E y17).length ≤ co37 := (by first | assumption | omega | (simp; omega) | simp)
      have hW := Ws.nestCons (inner := innerHit) hW 0 rfl (⟨u32, u33, (wE E y17), Ao36, co37⟩ : Hit) (hW.getG 1 rfl) (fun _ hb_ => ⟨_, List.mem_of_getElem? (i := 1) rfl, hb_⟩)
      have hknq15_10x1 : ∀ x_ ∈ ([(⟨u32, u33, (wE E y17), Ao36, co37⟩ : Hit)] : List Hit), capHit x_ := all_cons hcq64 hknq15_10
      have hW := hW.nestApp 4 0 rfl rfl
      have hknq15_10x2 : ∀ x_ ∈ (D ++ ([(⟨u32, u33, (wE E y17), Ao36, co37⟩ : Hit)] : List Hit)), capHit x_ := all_app hkD hknq15_10x1
      refine sr_one (i := 10) (by kernel_rfl) (sr_d rfl hA (Runs.appOwn (B := (some ⟨br15_9, 0, none⟩)) (k := 1) (E := 35) (sz := 3) (en := enHit) (l := D) (m := ([(⟨u32, u33, (wE E y17), Ao36, co37⟩ : Hit)] : List Hit)) (i := 3) (by kernel_rfl) (by kernel_rfl) elt_Hit (by kernel_rfl) hW rfl (rowAt_cel ((hW).cel 1 rfl) ([(⟨u32, u33, (wE E y17), Ao36, co37⟩ : Hit)] : List Hit) (by rfl) elt_Hit.len) (by first | omega | (simp; done) | (simp; omega)) (by first | omega | (simp; done) | (simp; omega)) ?_)); clear hA ac hW; intro Ar15_10 cr15_10 w65 hW hccr15_10 ac hA
      refine qn <| sr_p 11 (vS Ar15_6 (E ++ ([y17] : List Event)).length cr15_6) hR rfl hA fun ac hA => sr_p 12 (vS Ar15_10 (D ++ ([(⟨u32, u33, (wE E y17), Ao36, co37⟩ : Hit)] : List Hit)).length cr15_10) hR rfl hA fun ac hA => sr_done (by kernel_rfl) ?_ _
      exact ⟨Ar15_10, Ar15_6, br15_5, br15_9, cr15_10, cr15_6, hccr15_10, hccr15_6, hknq15_10, hknq15_10x1, hknq15_10x2, hA.sub (by and_intros <;> first | kernel_rfl | trivial), (hW.pick [1, 0, 2, 3, 4, 5] (by decide) rfl).pickG [0, 1, 2, 3, 4, 5, 6, 7] rfl⟩
   clear hA ac hW; rintro ac w66 ⟨Ar15_10, Ar15_6, br15_5, br15_9, cr15_10, cr15_6, hccr15_10, hccr15_6, hknq15_10, hknq15_10x1, hknq15_10x2, hA, hW⟩
   refine blkN <| thenN <| wp_region_lit <| st_p (vI .i64 (i : Int)) hA fun ac hA => st_q (vI .i64 ((i + 1 : Nat) : Int)) hA hW.cls (Rd.pureE (v0 := vI .i64 (IntKind.i64.wrap ((i : Int) + 1))) (fun _ => by kernel_rfl) (congrArg (vI .i64) ((w_i64 (x := (i : Int) + 1) (by omega) (by omega)).trans (by omega)))) fun ac hA => st_p (vI .i64 ((i + 1 : Nat) : Int)) hA fun ac hA => wn ?_
   exact ⟨l.length - (i + 1), by omega, i + 1, E ++ ([y17] : List Event), Ar15_6, cr15_6, D ++ ([(⟨u32, u33, (wE E y17), Ao36, co37⟩ : Hit)] : List Hit), Ar15_10, cr15_10, u24, u25, u26, u29, u30, u28, u31, rfl, by omega, by exact hC2_, by exact hw20_hK, by exact hw20_hP, by rw [List.length_append, List.length_singleton]; omega, by rw [List.map_append, hD]; exact perE_snoc.symm, by rw [List.length_append, List.length_singleton]; omega, by exact (own_cap ((hW).get 4 rfl)), by exact (own_cap ((hW).get 3 rfl)), by exact hknq15_10x2, by intro x_ hx_; rcases List.mem_append.1 hx_ with hx_ | hx_; exact hEa x_ hx_; (rw [List.mem_singleton.1 hx_]; exact hyr_.1), hA.sub (by and_intros <;> first | kernel_rfl | trivial), (hW.pick [3, 4, 5] (by decide) rfl).pickG [0, 4, 7] rfl⟩
  rw [h46] at hA
  refine sq_k hA fun ac hA => sq_k hA fun ac hA => sq_k hA fun ac hA => sq_k hA fun ac hA => sq_k hA fun ac hA => sq_k hA fun ac hA => sq_k hA fun ac hA => sq_k hA fun ac hA => sq_k hA fun ac hA => sq_k hA fun ac hA => sq_k hA fun ac hA => sq_k hA fun ac hA => sq_k hA fun ac hA => sq_k hA fun ac hA => sq_k hA fun ac hA => sq_p (vB false) hA fun ac hA => sq_p (vB false) hA fun ac hA => sq_nil ?_; intro w67 hww67; have hW := hww67.1; have hfw67 := hww67.2; clear hww67
  refine thenN <| wp_cond_false (hA.eval (by kernel_rfl)) <| wp_skip <| thenN ?_
  have hdl_ : D.length = E.length := by { have q_ := congrArg List.length hD; unfold withL perE at q_; simpa using q_ }
  refine wp_cut (fun ac_ wl_ => ∃ Ar15_10 : Option Addr, ∃ Ar15_6 : Option Addr, ∃ br15_5 : Nat, ∃ br15_9 : Nat, ∃ cr15_10 : Nat, ∃ cr15_6 : Nat, ((D ++ ([(⟨u32, u33, (wE E y17), Ao36, co37⟩ : Hit)] : List Hit)).length ≤ cr15_10) ∧ ((E ++ ([y17] : List Event)).length ≤ cr15_6) ∧ (∀ x_ ∈ ([] : List Hit), capHit x_) ∧ (∀ x_ ∈ ([(⟨u32, u33, (wE E y17), Ao36, co37⟩ : Hit)] : List Hit), capHit x_) ∧ (∀ x_ ∈ (D ++ ([(⟨u32, u33, (wE E y17), Ao36, co37⟩ : Hit)] : List Hit)), capHit x_) ∧ Fm 219 [] [(0, vS (some ⟨b18, o19, none⟩) l.length c_l), (3, pA n5 0), (5, vS Ar15_6 (E ++ ([y17] : List Event)).length cr15_6), (6, vS Ar15_10 (D ++ ([(⟨u32, u33, (wE E y17), Ao36, co37⟩ : Hit)] : List Hit)).length cr15_10), (7, vI .i64 (i : Int)), (8, pA b39 0), (9, vB false), (10, vI .i64 0), (31, vI .i64 (i : Int)), (32, vS (some ⟨b18, o19, none⟩) l.length c_l), (33, vI .i64 (l.length : Int)), (34, vB (decide ((i : Int) < (l.length : Int)))), (37, vT #[vA #[vI .i64 u32, vI .u32 u33, vS Ao36 ((wE E y17)).length co37], vB false, vI .i64 0]), (38, pA n5 0), (39, vS (some ⟨b18, o19, none⟩) l.length c_l), (40, vI .i64 (i : Int)), (41, vP (some ⟨b18, o19 + i * 9, none⟩)), (42, vA #[vI .i64 y17.g, vI .i64 y17.kind, vI .i64 y17.site.f, vI .i64 y17.site.pc, vI .u32 y17.addr, vI .i64 y17.child, vI .i64 y17.obj, vI .i64 y17.n, vI .i64 y17.trap]), (43, vT #[vA #[vI .i64 u32, vI .u32 u33, vS Ao36 ((wE E y17)).length co37], vB false, vI .i64 0]), (44, vA #[vI .i64 u32, vI .u32 u33, vS Ao36 ((wE E y17)).length co37]), (45, vB false), (46, vI .i64 0), (47, vI .i64 0), (48, vI .i64 (0)), (49, vB (((0) : Int) != (0 : Int))), (50, vB false), (51, pA b39 2), (52, vS Ao36 ((wE E y17)).length co37), (53, vI .i64 ((((wE E y17)).length : Nat) : Int)), (54, vB (decide ((((((wE E y17)).length : Nat) : Int) : Int) > (0 : Int)))), (55, vB false), (56, vB false), (57, vB false), (58, vB false), (59, undef), (60, undef), (61, undef), (62, undef), (63, undef), (64, undef), (65, undef), (66, undef), (67, undef), (68, undef), (69, undef), (70, undef), (71, undef), (72, undef), (73, undef), (74, vB false), (75, vB false)] ac_ ∧ Ws w No [Cel br15_9 #[vI .i64 u32, vI .u32 u33, vS Ao36 ((wE E y17)).length co37] 35, Cel br15_5 #[vI .i64 y17.g, vI .i64 y17.kind, vI .i64 y17.site.f, vI .i64 y17.site.pc, vI .u32 y17.addr, vI .i64 y17.child, vI .i64 y17.obj, vI .i64 y17.n, vI .i64 y17.trap] 43, Cel b39 #[vI .i64 u32, vI .u32 u33, vS Ao36 ((wE E y17)).length co37] 35, rowR 35 3 enHit (vS Ar15_10 (D ++ ([(⟨u32, u33, (wE E y17), Ao36, co37⟩ : Hit)] : List Hit)).length cr15_10) (D ++ ([(⟨u32, u33, (wE E y17), Ao36, co37⟩ : Hit)] : List Hit)), rowR 43 9 enEvent (vS Ar15_6 (E ++ ([y17] : List Event)).length cr15_6) (E ++ ([y17] : List Event)), PlS n5 n6 n7 u24 n9 u25 1000 (stK (E ++ [y17])) (i + 1) n11 u26 (mK (E ++ [y17])) u29 u30 u28 u31] [nestR innerHit (D ++ ([(⟨u32, u33, (wE E y17), Ao36, co37⟩ : Hit)] : List Hit)), nestR innerHit ([(⟨u32, u33, (wE E y17), Ao36, co37⟩ : Hit)] : List Hit), nestR innerHit ([] : List Hit), roR Ao36 4 enAcc (wE E y17), nestR innerSV (NV [] u24 u25), nestR innerHit D, nestR innerSV (NV [] G T), roR (some ⟨b18, o19, none⟩) 9 enEvent l] wl_) ?_ ?_
  · refine sr_region (m := 13) (C := Ws w No [Cel b39 #[vI .i64 u32, vI .u32 u33, vS Ao36 ((wE E y17)).length co37] 35, PlS n5 n6 n7 u24 n9 u25 1000 (stK (E ++ [y17])) (i + 1) n11 u26 (mK (E ++ [y17])) u29 u30 u28 u31] [roR Ao36 4 enAcc (wE E y17), nestR innerSV (NV [] u24 u25), nestR innerHit D, nestR innerSV (NV [] G T), roR (some ⟨b18, o19, none⟩) 9 enEvent l]) (fun i => [4, 8].contains i) (fun i => [4, 5, 6, 8, 9].contains i) (fun i => [0, 1, 2, 3, 7, 11, 12].contains i) (by kernel_rfl) (by kernel_rfl) (by kernel_rfl) (by kernel_rfl) hW ?_; clear hW; intro w68 hW hfw68 hR; have hC : Ws w No [Cel b39 #[vI .i64 u32, vI .u32 u33, vS Ao36 ((wE E y17)).length co37] 35, PlS n5 n6 n7 u24 n9 u25 1000 (stK (E ++ [y17])) (i + 1) n11 u26 (mK (E ++ [y17])) u29 u30 u28 u31] [roR Ao36 4 enAcc (wE E y17), nestR innerSV (NV [] u24 u25), nestR innerHit D, nestR innerSV (NV [] G T), roR (some ⟨b18, o19, none⟩) 9 enEvent l] w68 := hW.pick [0, 3] (by decide) rfl
    refine sr_p 0 (vS Ac E.length cc) hR rfl hA fun ac hA => sr_p 1 (vS (some ⟨b18, o19, none⟩) l.length c_l) hR rfl hA fun ac hA => sr_p 2 (vI .i64 (i : Int)) hR rfl hA fun ac hA => sr_q 3 (vP (some ⟨b18, o19 + i * 9, none⟩)) hR rfl hA (Rd.indexAddr (e := 43) (sz := 9) (b := b18) (off := o19) (n := l.length) (c := c_l) (k := i) (by kernel_rfl) (by kernel_rfl) (by first | omega | (simp; done) | (simp; omega)) (fun _ => by kernel_rfl) (fun _ => by kernel_rfl)) fun ac hA => sr_t 4 (vA #[vI .i64 y17.g, vI .i64 y17.kind, vI .i64 y17.site.f, vI .i64 y17.site.pc, vI .u32 y17.addr, vI .i64 y17.child, vI .i64 y17.obj, vI .i64 y17.n, vI .i64 y17.trap]) hR rfl hA hC (Rd.loadRow (b := b18) (i := o19 + i * 9) (xs := [vI .i64 y17.g, vI .i64 y17.kind, vI .i64 y17.site.f, vI .i64 y17.site.pc, vI .u32 y17.addr, vI .i64 y17.child, vI .i64 y17.obj, vI .i64 y17.n, vI .i64 y17.trap]) (by kernel_rfl) (fun _ hw => row_ld ((hw).getG 4 rfl) hy17 (Fr.refl No _) (fun h => h) 0 9 (by kernel_rfl)) (by kernel_rfl)) fun ac hA => sr_p 7 (vS Ad D.length cd) hR rfl hA fun ac hA => sr_t 8 (vA #[vI .i64 u32, vI .u32 u33, vS Ao36 ((wE E y17)).length co37]) hR rfl hA hC (Rd.load (b := b39) (i := 0) (by kernel_rfl) (fun _ hw => (hw).cel 0 rfl) (by kernel_rfl)) fun ac hA => sr_two (i := 5) (j := 9) (by kernel_rfl) ?_ ?_
    ·
     refine (sr_d rfl hA (Runs.cells (fun b => vS (some ⟨b, 0, none⟩) 1 1) #[vI .i64 y17.g, vI .i64 y17.kind, vI .i64 y17.site.f, vI .i64 y17.site.pc, vI .u32 y17.addr, vI .i64 y17.child, vI .i64 y17.obj, vI .i64 y17.n, vI .i64 y17.trap] 43 (fun _ => by kernel_rfl) hW ?_)); clear hA ac hW; intro br15_5 w69 hW hbr15_5 hfw69 ac hA
     refine ⟨⟨fun _ => (hW.pick [1, 4] (by decide) rfl).pickG [0, 1, 2, 3, 4] rfl, fun h => absurd h (by decide)⟩, ?_⟩; have hC : Ws w No [Cel b39 #[vI .i64 u32, vI .u32 u33, vS Ao36 ((wE E y17)).length co37] 35, PlS n5 n6 n7 u24 n9 u25 1000 (stK (E ++ [y17])) (i + 1) n11 u26 (mK (E ++ [y17])) u29 u30 u28 u31] [roR Ao36 4 enAcc (wE E y17), nestR innerSV (NV [] u24 u25), nestR innerHit D, nestR innerSV (NV [] G T), roR (some ⟨b18, o19, none⟩) 9 enEvent l] w69 := (hW.pick [1, 4] (by decide) rfl).pickG [0, 1, 2, 3, 4] rfl
     refine sr_two (i := 6) (j := 9) (by kernel_rfl) ?_ ?_
     ·
      refine (sr_d rfl hA (Runs.appOwn (B := (some ⟨br15_5, 0, none⟩)) (k := 1) (E := 43) (sz := 9) (en := enEvent) (l := E) (m := ([y17] : List Event)) (i := 3) (by kernel_rfl) (by kernel_rfl) elt_Event (by kernel_rfl) hW rfl (rowAt_cel ((hW).cel 0 rfl) ([y17] : List Event) (by rfl) elt_Event.len) (by first | omega | (simp; done) | (simp; omega)) (by first | omega | (simp; done) | (simp; omega)) ?_)); clear hA ac hW; intro Ar15_6 cr15_6 w70 hW hccr15_6 ac hA
      refine ⟨⟨fun _ => (hW.pick [1, 4] (by decide) rfl).pickG [0, 1, 2, 3, 4] rfl, fun h => absurd h (by decide)⟩, ?_⟩; have hC : Ws w No [Cel b39 #[vI .i64 u32, vI .u32 u33, vS Ao36 ((wE E y17)).length co37] 35, PlS n5 n6 n7 u24 n9 u25 1000 (stK (E ++ [y17])) (i + 1) n11 u26 (mK (E ++ [y17])) u29 u30 u28 u31] [roR Ao36 4 enAcc (wE E y17), nestR innerSV (NV [] u24 u25), nestR innerHit D, nestR innerSV (NV [] G T), roR (some ⟨b18, o19, none⟩) 9 enEvent l] w70 := (hW.pick [1, 4] (by decide) rfl).pickG [0, 1, 2, 3, 4] rfl
      refine sr_one (i := 9) (by kernel_rfl) (sr_d rfl hA (Runs.cells (fun b => vS (some ⟨b, 0, none⟩) 1 1) #[vI .i64 u32, vI .u32 u33, vS Ao36 ((wE E y17)).length co37] 35 (fun _ => by kernel_rfl) hW ?_)); clear hA ac hW; intro br15_9 w71 hW hbr15_9 hfw71 ac hA
      refine ⟨⟨fun _ => (hW.pick [2, 5] (by decide) rfl).pickG [0, 1, 2, 3, 4] rfl, fun h => absurd h (by decide)⟩, ?_⟩; have hC : Ws w No [Cel b39 #[vI .i64 u32, vI .u32 u33, vS Ao36 ((wE E y17)).length co37] 35, PlS n5 n6 n7 u24 n9 u25 1000 (stK (E ++ [y17])) (i + 1) n11 u26 (mK (E ++ [y17])) u29 u30 u28 u31] [roR Ao36 4 enAcc (wE E y17), nestR innerSV (NV [] u24 u25), nestR innerHit D, nestR innerSV (NV [] G T), roR (some ⟨b18, o19, none⟩) 9 enEvent l] w71 := (hW.pick [2, 5] (by decide) rfl).pickG [0, 1, 2, 3, 4] rfl
      have hW := hW.nestNil innerHit
      have hknq15_10 : ∀ x_ ∈ ([] : List Hit), capHit x_ := all_nil
      have hcq72 : (wE E y17).length ≤ co37 := (by first | assumption | omega | (simp; omega) | simp)
      have hW := Ws.nestCons (inner := innerHit) hW 0 rfl (⟨u32, u33, (wE E y17), Ao36, co37⟩ : Hit) (hW.getG 1 rfl) (fun _ hb_ => ⟨_, List.mem_of_getElem? (i := 1) rfl, hb_⟩)
      have hknq15_10x1 : ∀ x_ ∈ ([(⟨u32, u33, (wE E y17), Ao36, co37⟩ : Hit)] : List Hit), capHit x_ := all_cons hcq72 hknq15_10
      have hW := hW.nestApp 4 0 rfl rfl
      have hknq15_10x2 : ∀ x_ ∈ (D ++ ([(⟨u32, u33, (wE E y17), Ao36, co37⟩ : Hit)] : List Hit)), capHit x_ := all_app hkD hknq15_10x1
      refine sr_one (i := 10) (by kernel_rfl) (sr_d rfl hA (Runs.appOwn (B := (some ⟨br15_9, 0, none⟩)) (k := 1) (E := 35) (sz := 3) (en := enHit) (l := D) (m := ([(⟨u32, u33, (wE E y17), Ao36, co37⟩ : Hit)] : List Hit)) (i := 3) (by kernel_rfl) (by kernel_rfl) elt_Hit (by kernel_rfl) hW rfl (rowAt_cel ((hW).cel 0 rfl) ([(⟨u32, u33, (wE E y17), Ao36, co37⟩ : Hit)] : List Hit) (by rfl) elt_Hit.len) (by first | omega | (simp; done) | (simp; omega)) (by first | omega | (simp; done) | (simp; omega)) ?_)); clear hA ac hW; intro Ar15_10 cr15_10 w73 hW hccr15_10 ac hA
      refine qn <| sr_p 11 (vS Ar15_6 (E ++ ([y17] : List Event)).length cr15_6) hR rfl hA fun ac hA => sr_p 12 (vS Ar15_10 (D ++ ([(⟨u32, u33, (wE E y17), Ao36, co37⟩ : Hit)] : List Hit)).length cr15_10) hR rfl hA fun ac hA => sr_done (by kernel_rfl) ?_ _
      exact ⟨Ar15_10, Ar15_6, br15_5, br15_9, cr15_10, cr15_6, hccr15_10, hccr15_6, hknq15_10, hknq15_10x1, hknq15_10x2, hA.sub (by and_intros <;> first | kernel_rfl | trivial), (hW.pick [0, 1, 2, 3, 4, 5] (by decide) rfl).pickG [0, 1, 2, 3, 4, 5, 6, 7] rfl⟩
     ·
      refine (sr_d rfl hA (Runs.cells (fun b => vS (some ⟨b, 0, none⟩) 1 1) #[vI .i64 u32, vI .u32 u33, vS Ao36 ((wE E y17)).length co37] 35 (fun _ => by kernel_rfl) hW ?_)); clear hA ac hW; intro br15_9 w74 hW hbr15_9 hfw74 ac hA
      refine ⟨⟨fun _ => (hW.pick [2, 5] (by decide) rfl).pickG [0, 1, 2, 3, 4] rfl, fun h => absurd h (by decide)⟩, ?_⟩; have hC : Ws w No [Cel b39 #[vI .i64 u32, vI .u32 u33, vS Ao36 ((wE E y17)).length co37] 35, PlS n5 n6 n7 u24 n9 u25 1000 (stK (E ++ [y17])) (i + 1) n11 u26 (mK (E ++ [y17])) u29 u30 u28 u31] [roR Ao36 4 enAcc (wE E y17), nestR innerSV (NV [] u24 u25), nestR innerHit D, nestR innerSV (NV [] G T), roR (some ⟨b18, o19, none⟩) 9 enEvent l] w74 := (hW.pick [2, 5] (by decide) rfl).pickG [0, 1, 2, 3, 4] rfl
      refine sr_one (i := 6) (by kernel_rfl) (sr_d rfl hA (Runs.appOwn (B := (some ⟨br15_5, 0, none⟩)) (k := 1) (E := 43) (sz := 9) (en := enEvent) (l := E) (m := ([y17] : List Event)) (i := 4) (by kernel_rfl) (by kernel_rfl) elt_Event (by kernel_rfl) hW rfl (rowAt_cel ((hW).cel 1 rfl) ([y17] : List Event) (by rfl) elt_Event.len) (by first | omega | (simp; done) | (simp; omega)) (by first | omega | (simp; done) | (simp; omega)) ?_)); clear hA ac hW; intro Ar15_6 cr15_6 w75 hW hccr15_6 ac hA
      refine ⟨⟨fun _ => (hW.pick [2, 5] (by decide) rfl).pickG [0, 1, 2, 3, 4] rfl, fun h => absurd h (by decide)⟩, ?_⟩; have hC : Ws w No [Cel b39 #[vI .i64 u32, vI .u32 u33, vS Ao36 ((wE E y17)).length co37] 35, PlS n5 n6 n7 u24 n9 u25 1000 (stK (E ++ [y17])) (i + 1) n11 u26 (mK (E ++ [y17])) u29 u30 u28 u31] [roR Ao36 4 enAcc (wE E y17), nestR innerSV (NV [] u24 u25), nestR innerHit D, nestR innerSV (NV [] G T), roR (some ⟨b18, o19, none⟩) 9 enEvent l] w75 := (hW.pick [2, 5] (by decide) rfl).pickG [0, 1, 2, 3, 4] rfl
      have hW := hW.nestNil innerHit
      have hknq15_10 : ∀ x_ ∈ ([] : List Hit), capHit x_ := all_nil
      have hcq76 : (wE E y17).length ≤ co37 := (by first | assumption | omega | (simp; omega) | simp)
      have hW := Ws.nestCons (inner := innerHit) hW 0 rfl (⟨u32, u33, (wE E y17), Ao36, co37⟩ : Hit) (hW.getG 1 rfl) (fun _ hb_ => ⟨_, List.mem_of_getElem? (i := 1) rfl, hb_⟩)
      have hknq15_10x1 : ∀ x_ ∈ ([(⟨u32, u33, (wE E y17), Ao36, co37⟩ : Hit)] : List Hit), capHit x_ := all_cons hcq76 hknq15_10
      have hW := hW.nestApp 4 0 rfl rfl
      have hknq15_10x2 : ∀ x_ ∈ (D ++ ([(⟨u32, u33, (wE E y17), Ao36, co37⟩ : Hit)] : List Hit)), capHit x_ := all_app hkD hknq15_10x1
      refine sr_one (i := 10) (by kernel_rfl) (sr_d rfl hA (Runs.appOwn (B := (some ⟨br15_9, 0, none⟩)) (k := 1) (E := 35) (sz := 3) (en := enHit) (l := D) (m := ([(⟨u32, u33, (wE E y17), Ao36, co37⟩ : Hit)] : List Hit)) (i := 3) (by kernel_rfl) (by kernel_rfl) elt_Hit (by kernel_rfl) hW rfl (rowAt_cel ((hW).cel 0 rfl) ([(⟨u32, u33, (wE E y17), Ao36, co37⟩ : Hit)] : List Hit) (by rfl) elt_Hit.len) (by first | omega | (simp; done) | (simp; omega)) (by first | omega | (simp; done) | (simp; omega)) ?_)); clear hA ac hW; intro Ar15_10 cr15_10 w77 hW hccr15_10 ac hA
      refine qn <| sr_p 11 (vS Ar15_6 (E ++ ([y17] : List Event)).length cr15_6) hR rfl hA fun ac hA => sr_p 12 (vS Ar15_10 (D ++ ([(⟨u32, u33, (wE E y17), Ao36, co37⟩ : Hit)] : List Hit)).length cr15_10) hR rfl hA fun ac hA => sr_done (by kernel_rfl) ?_ _
      exact ⟨Ar15_10, Ar15_6, br15_5, br15_9, cr15_10, cr15_6, hccr15_10, hccr15_6, hknq15_10, hknq15_10x1, hknq15_10x2, hA.sub (by and_intros <;> first | kernel_rfl | trivial), (hW.pick [0, 1, 2, 3, 4, 5] (by decide) rfl).pickG [0, 1, 2, 3, 4, 5, 6, 7] rfl⟩
    ·
     refine (sr_d rfl hA (Runs.cells (fun b => vS (some ⟨b, 0, none⟩) 1 1) #[vI .i64 u32, vI .u32 u33, vS Ao36 ((wE E y17)).length co37] 35 (fun _ => by kernel_rfl) hW ?_)); clear hA ac hW; intro br15_9 w78 hW hbr15_9 hfw78 ac hA
     refine ⟨⟨fun _ => (hW.pick [1, 4] (by decide) rfl).pickG [0, 1, 2, 3, 4] rfl, fun h => absurd h (by decide)⟩, ?_⟩; have hC : Ws w No [Cel b39 #[vI .i64 u32, vI .u32 u33, vS Ao36 ((wE E y17)).length co37] 35, PlS n5 n6 n7 u24 n9 u25 1000 (stK (E ++ [y17])) (i + 1) n11 u26 (mK (E ++ [y17])) u29 u30 u28 u31] [roR Ao36 4 enAcc (wE E y17), nestR innerSV (NV [] u24 u25), nestR innerHit D, nestR innerSV (NV [] G T), roR (some ⟨b18, o19, none⟩) 9 enEvent l] w78 := (hW.pick [1, 4] (by decide) rfl).pickG [0, 1, 2, 3, 4] rfl
     refine sr_one (i := 5) (by kernel_rfl) (sr_d rfl hA (Runs.cells (fun b => vS (some ⟨b, 0, none⟩) 1 1) #[vI .i64 y17.g, vI .i64 y17.kind, vI .i64 y17.site.f, vI .i64 y17.site.pc, vI .u32 y17.addr, vI .i64 y17.child, vI .i64 y17.obj, vI .i64 y17.n, vI .i64 y17.trap] 43 (fun _ => by kernel_rfl) hW ?_)); clear hA ac hW; intro br15_5 w79 hW hbr15_5 hfw79 ac hA
     refine ⟨⟨fun _ => (hW.pick [2, 5] (by decide) rfl).pickG [0, 1, 2, 3, 4] rfl, fun h => absurd h (by decide)⟩, ?_⟩; have hC : Ws w No [Cel b39 #[vI .i64 u32, vI .u32 u33, vS Ao36 ((wE E y17)).length co37] 35, PlS n5 n6 n7 u24 n9 u25 1000 (stK (E ++ [y17])) (i + 1) n11 u26 (mK (E ++ [y17])) u29 u30 u28 u31] [roR Ao36 4 enAcc (wE E y17), nestR innerSV (NV [] u24 u25), nestR innerHit D, nestR innerSV (NV [] G T), roR (some ⟨b18, o19, none⟩) 9 enEvent l] w79 := (hW.pick [2, 5] (by decide) rfl).pickG [0, 1, 2, 3, 4] rfl
     refine sr_one (i := 6) (by kernel_rfl) (sr_d rfl hA (Runs.appOwn (B := (some ⟨br15_5, 0, none⟩)) (k := 1) (E := 43) (sz := 9) (en := enEvent) (l := E) (m := ([y17] : List Event)) (i := 4) (by kernel_rfl) (by kernel_rfl) elt_Event (by kernel_rfl) hW rfl (rowAt_cel ((hW).cel 0 rfl) ([y17] : List Event) (by rfl) elt_Event.len) (by first | omega | (simp; done) | (simp; omega)) (by first | omega | (simp; done) | (simp; omega)) ?_)); clear hA ac hW; intro Ar15_6 cr15_6 w80 hW hccr15_6 ac hA
     refine ⟨⟨fun _ => (hW.pick [2, 5] (by decide) rfl).pickG [0, 1, 2, 3, 4] rfl, fun h => absurd h (by decide)⟩, ?_⟩; have hC : Ws w No [Cel b39 #[vI .i64 u32, vI .u32 u33, vS Ao36 ((wE E y17)).length co37] 35, PlS n5 n6 n7 u24 n9 u25 1000 (stK (E ++ [y17])) (i + 1) n11 u26 (mK (E ++ [y17])) u29 u30 u28 u31] [roR Ao36 4 enAcc (wE E y17), nestR innerSV (NV [] u24 u25), nestR innerHit D, nestR innerSV (NV [] G T), roR (some ⟨b18, o19, none⟩) 9 enEvent l] w80 := (hW.pick [2, 5] (by decide) rfl).pickG [0, 1, 2, 3, 4] rfl
     have hW := hW.nestNil innerHit
     have hknq15_10 : ∀ x_ ∈ ([] : List Hit), capHit x_ := all_nil
     have hcq81 : (wE E y17).length ≤ co37 := (by first | assumption | omega | (simp; omega) | simp)
     have hW := Ws.nestCons (inner := innerHit) hW 0 rfl (⟨u32, u33, (wE E y17), Ao36, co37⟩ : Hit) (hW.getG 1 rfl) (fun _ hb_ => ⟨_, List.mem_of_getElem? (i := 1) rfl, hb_⟩)
     have hknq15_10x1 : ∀ x_ ∈ ([(⟨u32, u33, (wE E y17), Ao36, co37⟩ : Hit)] : List Hit), capHit x_ := all_cons hcq81 hknq15_10
     have hW := hW.nestApp 4 0 rfl rfl
     have hknq15_10x2 : ∀ x_ ∈ (D ++ ([(⟨u32, u33, (wE E y17), Ao36, co37⟩ : Hit)] : List Hit)), capHit x_ := all_app hkD hknq15_10x1
     refine sr_one (i := 10) (by kernel_rfl) (sr_d rfl hA (Runs.appOwn (B := (some ⟨br15_9, 0, none⟩)) (k := 1) (E := 35) (sz := 3) (en := enHit) (l := D) (m := ([(⟨u32, u33, (wE E y17), Ao36, co37⟩ : Hit)] : List Hit)) (i := 3) (by kernel_rfl) (by kernel_rfl) elt_Hit (by kernel_rfl) hW rfl (rowAt_cel ((hW).cel 1 rfl) ([(⟨u32, u33, (wE E y17), Ao36, co37⟩ : Hit)] : List Hit) (by rfl) elt_Hit.len) (by first | omega | (simp; done) | (simp; omega)) (by first | omega | (simp; done) | (simp; omega)) ?_)); clear hA ac hW; intro Ar15_10 cr15_10 w82 hW hccr15_10 ac hA
     refine qn <| sr_p 11 (vS Ar15_6 (E ++ ([y17] : List Event)).length cr15_6) hR rfl hA fun ac hA => sr_p 12 (vS Ar15_10 (D ++ ([(⟨u32, u33, (wE E y17), Ao36, co37⟩ : Hit)] : List Hit)).length cr15_10) hR rfl hA fun ac hA => sr_done (by kernel_rfl) ?_ _
     exact ⟨Ar15_10, Ar15_6, br15_5, br15_9, cr15_10, cr15_6, hccr15_10, hccr15_6, hknq15_10, hknq15_10x1, hknq15_10x2, hA.sub (by and_intros <;> first | kernel_rfl | trivial), (hW.pick [1, 0, 2, 3, 4, 5] (by decide) rfl).pickG [0, 1, 2, 3, 4, 5, 6, 7] rfl⟩
  clear hA ac hW; rintro ac w83 ⟨Ar15_10, Ar15_6, br15_5, br15_9, cr15_10, cr15_6, hccr15_10, hccr15_6, hknq15_10, hknq15_10x1, hknq15_10x2, hA, hW⟩
  refine blkN <| thenN <| wp_region_lit <| st_p (vI .i64 (i : Int)) hA fun ac hA => st_q (vI .i64 ((i + 1 : Nat) : Int)) hA hW.cls (Rd.pureE (v0 := vI .i64 (IntKind.i64.wrap ((i : Int) + 1))) (fun _ => by kernel_rfl) (congrArg (vI .i64) ((w_i64 (x := (i : Int) + 1) (by omega) (by omega)).trans (by omega)))) fun ac hA => st_p (vI .i64 ((i + 1 : Nat) : Int)) hA fun ac hA => wn ?_
  exact ⟨l.length - (i + 1), by omega, i + 1, E ++ ([y17] : List Event), Ar15_6, cr15_6, D ++ ([(⟨u32, u33, (wE E y17), Ao36, co37⟩ : Hit)] : List Hit), Ar15_10, cr15_10, u24, u25, u26, u29, u30, u28, u31, rfl, by omega, by exact hC2_, by exact hw20_hK, by exact hw20_hP, by rw [List.length_append, List.length_singleton]; omega, by rw [List.map_append, hD]; exact perE_snoc.symm, by rw [List.length_append, List.length_singleton]; omega, by exact (own_cap ((hW).get 4 rfl)), by exact (own_cap ((hW).get 3 rfl)), by exact hknq15_10x2, by intro x_ hx_; rcases List.mem_append.1 hx_ with hx_ | hx_; exact hEa x_ hx_; (rw [List.mem_singleton.1 hx_]; exact hyr_.1), hA.sub (by and_intros <;> first | kernel_rfl | trivial), (hW.pick [3, 4, 5] (by decide) rfl).pickG [0, 4, 7] rfl⟩
 have h16 := of_decide_eq_false h16
 refine wp_exit <| thenX <| thenX <| blkX <| thenN <| wr <| st_p (vS Ac E.length cc) hA ?_; clear hA ac; intro ac hA
 have hW := hW.share 1 rfl (H' := [rowR 35 3 enHit (vS Ad D.length cd) D, PlS n5 n6 n7 G n9 T 1000 (stK E) i n11 V (mK E) A c Hs mny]) rfl
 have hW := hW.nestG (roR Ac 9 enEvent E) (rowR_at (E := 43) (hW.getG 0 rfl) elt_Event.len) (fun _ hb_ => ⟨_, List.mem_of_getElem? (i := 0) rfl, rowR_fp _ hb_⟩)
 refine st_s hA (Runs.call (fun _ => by kernel_rfl) (e_rnew Ac cc E w15 ((hW).getG 0 rfl) (by first | assumption | omega | (simp; omega) | simp) (by first | omega | decide | assumption | exact ⟨by omega, by omega⟩ | exact hyr_.1.2 | exact hyr_.2 | exact hown_ | exact hC.ok | exact (hel _ (List.mem_of_getElem? (by assumption))).1) hC.ok hEa) ?_)
 rintro _ w84 ⟨g85, AoL86, coL87, AoB88, coB89, rfl, hw84_hB, hccoL87, hccoB89, hkcoB89, hfcoL87, hfcoB89, hnfcoB89, hfw84⟩; refine ⟨_, rfl, ?_⟩; have hW0 := hW; have hW := hW0.call hfw84
 have hW := hW0.addFromAt hW hfcoL87 (in_cons (in_at 0 rfl) in_nil)
 have hW := hW0.addFromAt hW hfcoB89 (in_cons (in_at 0 rfl) in_nil)
 have hW := hW0.addFromAt hW hnfcoB89 (in_cons (in_at 0 rfl) in_nil)
 clear hW0 hA ac; intro ac hA
 refine st_p (vT #[vA #[vS AoL86 E.length coL87, vS AoB88 g85.length coB89], vI .i64 0]) hA fun ac hA => st_p (vA #[vS AoL86 E.length coL87, vS AoB88 g85.length coB89]) hA fun ac hA => st_p (vI .i64 0) hA fun ac hA => st_s hA (Runs.cells (fun b => pA b 0) #[vS none 0 0, vS none 0 0] 46 (fun _ => by kernel_rfl) hW ?_); clear hA ac hW; intro b90 w91 hW hb90 hfw91 ac hA
 refine st_s hA (Runs.store (v := vA #[vS AoL86 E.length coL87, vS AoB88 g85.length coB89]) (b := b90) (j := 0) (n := 2) (cs' := #[vS AoL86 E.length coL87, vS AoB88 g85.length coB89]) (H' := [Cel b90 #[vS AoL86 E.length coL87, vS AoB88 g85.length coB89] 46, rowR 35 3 enHit (vS Ad D.length cd) D, PlS n5 n6 n7 G n9 T 1000 (stK E) i n11 V (mK E) A c Hs mny]) (by kernel_rfl) (by kernel_rfl) (by kernel_rfl) (by kernel_rfl) (by kernel_rfl) hW 0 (by rfl) (Nat.le_of_ble_eq_true (by kernel_rfl)) (by kernel_rfl) (by rfl) ?_); clear hA ac hW; intro w92 hW ac hA
 refine st_p (vI .i64 0) hA ?_; clear hA ac; intro ac hA
 refine wn <| wp_seq <| wr <| st_p (vI .i64 0) hA fun ac hA => st_p (vB false) hA fun ac hA => wn <| wp_cond_false (hA.eval (by kernel_rfl)) <| wp_skip <| thenN <| wp_seq <| wr <| st_p (vI .i64 0) hA ?_; clear hA ac; intro ac hA
 refine wn <| wp_block <| wp_loop_m (fun m_ ac_ wl_ => ∃ j : Nat, m_ = E.length - j ∧ (j ≤ E.length) ∧ Fm 219 [] [(0, vS A_l l.length c_l), (3, pA n5 0), (5, vS Ac E.length cc), (6, vS Ad D.length cd), (11, pA b90 0), (13, vI .i64 (j : Int))] ac_ ∧ Ws w No [Cel b90 #[vS AoL86 E.length coL87, vS AoB88 g85.length coB89] 46, rowR 35 3 enHit (vS Ad D.length cd) D, PlS n5 n6 n7 G n9 T 1000 (stK E) i n11 V (mK E) A c Hs mny] [nestR innerBV g85, roR AoB88 1 enBV g85, roR AoL86 9 enEvent E, roR Ac 9 enEvent E, rowR 43 9 enEvent (vS Ac E.length cc) E, nestR innerHit D, nestR innerSV (NV [] G T), roR A_l 9 enEvent l] wl_) _ ⟨0, rfl, by omega, hA.sub (by and_intros <;> first | kernel_rfl | trivial), (hW.pick [0, 1, 2] (by decide) rfl).pickG [0, 1, 2, 3, 4, 5, 6, 7] rfl⟩ ?_
 clear hA ac hW; rintro m_ ac w93 ⟨j, rfl, hj, hA, hW⟩
 refine wp_seq <| wr <| st_p (vI .i64 (j : Int)) hA fun ac hA => st_p (vS Ac E.length cc) hA fun ac hA => st_p (vI .i64 (E.length : Int)) hA fun ac hA => st_p (vB (decide ((j : Int) < (E.length : Int)))) hA fun ac hA => wn <| wp_cond_split (t := decide ((j : Int) < (E.length : Int))) (hA.eval (by kernel_rfl)) (fun h94 => ?_) (fun h94 => ?_)
 ·
  have h94 := of_decide_eq_true h94
  refine wp_skip <| thenN <| wp_seq <| wp_block <| wp_seq ?_
  obtain ⟨y95, hy95⟩ : ∃ y, E[j]? = some y := ⟨_, List.getElem?_eq_getElem (by omega)⟩
  obtain ⟨b96, o97, rfl, hbb96⟩ := row_some (rowR_at (E := 43) ((hW).getG 4 rfl) elt_Event.len) hy95
  have hdl_ : D.length = E.length := by { have q_ := congrArg List.length hD; unfold withL perE at q_; simpa using q_ }
  obtain ⟨y98, hy98⟩ : ∃ y, D[j]? = some y := ⟨_, List.getElem?_eq_getElem (by omega)⟩
  rcases y98 with ⟨y98_at_, y98_addr, y98_wi, y98_wi_A, y98_wi_c⟩
  obtain ⟨b99, o100, rfl, hbb99⟩ := row_some (rowR_at ((hW).get 1 rfl) elt_Hit.len) hy98
  have hwl0_ := wE_len (hC.get hy95).1 y95
  have hwj_ : y98_wi = wE (E.take j) y95 := perE_at hy95 (show (withL E)[j]? = _ by rw [← hD, List.getElem?_map, hy98]; rfl)
  rw [← hwj_] at hwl0_
  refine wp_region_lit <| st_p (vB false) hA ?_; clear hA ac; intro ac hA
  refine wn <| wp_seq <| wr <| st_p (vI .i64 0) hA ?_; clear hA ac; intro ac hA
  refine wn <| wp_block <| wp_loop_m (fun m_ ac_ wl_ => ∃ q : Nat, ∃ r : Bool, m_ = j - q ∧ (q ≤ j) ∧ (r = true ↔ anyR E y95 j q) ∧ Fm 219 [] [(0, vS A_l l.length c_l), (3, pA n5 0), (5, vS (some ⟨b96, o97, none⟩) E.length cc), (6, vS (some ⟨b99, o100, none⟩) D.length cd), (11, pA b90 0), (13, vI .i64 (j : Int)), (14, vB r), (15, vI .i64 (q : Int))] ac_ ∧ Ws w No [Cel b90 #[vS AoL86 E.length coL87, vS AoB88 g85.length coB89] 46, rowR 35 3 enHit (vS (some ⟨b99, o100, none⟩) D.length cd) D, PlS n5 n6 n7 G n9 T 1000 (stK E) i n11 V (mK E) A c Hs mny] [nestR innerBV g85, roR AoB88 1 enBV g85, roR AoL86 9 enEvent E, roR (some ⟨b96, o97, none⟩) 9 enEvent E, rowR 43 9 enEvent (vS (some ⟨b96, o97, none⟩) E.length cc) E, nestR innerHit D, nestR innerSV (NV [] G T), roR A_l 9 enEvent l] wl_) _ ⟨0, false, rfl, by omega, by exact anyR_0, hA.sub (by and_intros <;> first | kernel_rfl | trivial), (hW.pick [0, 1, 2] (by decide) rfl).pickG [0, 1, 2, 3, 4, 5, 6, 7] rfl⟩ ?_
  clear hA ac hW; rintro m_ ac w101 ⟨q, r, rfl, hq, hr, hA, hW⟩
  refine wp_seq <| wr <| st_p (vI .i64 (q : Int)) hA fun ac hA => st_p (vI .i64 (j : Int)) hA fun ac hA => st_p (vB (decide ((q : Int) < (j : Int)))) hA fun ac hA => wn <| wp_cond_split (t := decide ((q : Int) < (j : Int))) (hA.eval (by kernel_rfl)) (fun h102 => ?_) (fun h102 => ?_)
  ·
   have h102 := of_decide_eq_true h102
   refine wp_skip <| thenN <| wp_seq <| wp_block ?_
   obtain ⟨y103, hy103⟩ : ∃ y, E[q]? = some y := ⟨_, List.getElem?_eq_getElem (by omega)⟩
   refine q_region (by kernel_rfl) (by kernel_rfl) hW <| sq_p (vB r) hA fun ac hA => sq_p (vB r) hA fun ac hA => ?_
   rcases Bool.eq_false_or_eq_true (r) with h104 | h104
   ·
    rw [h104] at hA
    refine sq_k hA fun ac hA => sq_k hA fun ac hA => sq_k hA fun ac hA => sq_k hA fun ac hA => sq_k hA fun ac hA => sq_k hA fun ac hA => sq_k hA fun ac hA => sq_k hA fun ac hA => sq_k hA fun ac hA => sq_k hA fun ac hA => sq_k hA fun ac hA => sq_k hA fun ac hA => sq_k hA fun ac hA => sq_k hA fun ac hA => sq_k hA fun ac hA => sq_p (vB true) hA fun ac hA => sq_p (vB true) hA fun ac hA => sq_nil ?_; intro w105 hww105; have hW := hww105.1; have hfw105 := hww105.2; clear hww105
    refine blkN <| thenN <| wp_region_lit <| st_p (vI .i64 (q : Int)) hA fun ac hA => st_q (vI .i64 ((q + 1 : Nat) : Int)) hA hW.cls (Rd.pureE (v0 := vI .i64 (IntKind.i64.wrap ((q : Int) + 1))) (fun _ => by kernel_rfl) (congrArg (vI .i64) ((w_i64 (x := (q : Int) + 1) (by omega) (by omega)).trans (by omega)))) fun ac hA => st_p (vI .i64 ((q + 1 : Nat) : Int)) hA fun ac hA => wn ?_
    exact ⟨j - (q + 1), by omega, q + 1, true, rfl, by omega, by have q_ := anyR_step hC.ok (show q < j by omega) (show j < E.length by omega) hy103 hr; simpa [h104] using q_, hA.sub (by and_intros <;> first | kernel_rfl | trivial), (hW.pick [0, 1, 2] (by decide) rfl).pickG [0, 1, 2, 3, 4, 5, 6, 7] rfl⟩
   rw [h104] at hA
   refine sq_p (vS (some ⟨b96, o97, none⟩) E.length cc) hA fun ac hA => sq_p (vI .i64 (q : Int)) hA fun ac hA => sq_q (vP (some ⟨b96, o97 + q * 9, none⟩)) hA (Rd.indexAddr (e := 43) (sz := 9) (b := b96) (off := o97) (n := E.length) (c := cc) (k := q) (by kernel_rfl) (by kernel_rfl) (by first | omega | (simp; done) | (simp; omega)) (fun _ => by kernel_rfl) (fun _ => by kernel_rfl)) fun ac hA => sq_q (vA #[vI .i64 y103.g, vI .i64 y103.kind, vI .i64 y103.site.f, vI .i64 y103.site.pc, vI .u32 y103.addr, vI .i64 y103.child, vI .i64 y103.obj, vI .i64 y103.n, vI .i64 y103.trap]) hA (Rd.loadRow (b := b96) (i := o97 + q * 9) (xs := [vI .i64 y103.g, vI .i64 y103.kind, vI .i64 y103.site.f, vI .i64 y103.site.pc, vI .u32 y103.addr, vI .i64 y103.child, vI .i64 y103.obj, vI .i64 y103.n, vI .i64 y103.trap]) (by kernel_rfl) (fun _ hw => row_ld (rowR_at (E := 43) ((hw.1).getG 4 rfl) elt_Event.len) hy103 (Fr.refl No _) (fun h => h) 0 9 (by kernel_rfl)) (by kernel_rfl)) fun ac hA => sq_p (vS (some ⟨b96, o97, none⟩) E.length cc) hA fun ac hA => sq_p (vI .i64 (j : Int)) hA fun ac hA => sq_q (vP (some ⟨b96, o97 + j * 9, none⟩)) hA (Rd.indexAddr (e := 43) (sz := 9) (b := b96) (off := o97) (n := E.length) (c := cc) (k := j) (by kernel_rfl) (by kernel_rfl) (by first | omega | (simp; done) | (simp; omega)) (fun _ => by kernel_rfl) (fun _ => by kernel_rfl)) fun ac hA => sq_q (vA #[vI .i64 y95.g, vI .i64 y95.kind, vI .i64 y95.site.f, vI .i64 y95.site.pc, vI .u32 y95.addr, vI .i64 y95.child, vI .i64 y95.obj, vI .i64 y95.n, vI .i64 y95.trap]) hA (Rd.loadRow (b := b96) (i := o97 + j * 9) (xs := [vI .i64 y95.g, vI .i64 y95.kind, vI .i64 y95.site.f, vI .i64 y95.site.pc, vI .u32 y95.addr, vI .i64 y95.child, vI .i64 y95.obj, vI .i64 y95.n, vI .i64 y95.trap]) (by kernel_rfl) (fun _ hw => row_ld (rowR_at (E := 43) ((hw.1).getG 4 rfl) elt_Event.len) hy95 (Fr.refl No _) (fun h => h) 0 9 (by kernel_rfl)) (by kernel_rfl)) fun ac hA => sq_call (v := vB (evConf y103 y95)) hA (by kernel_rfl) (by kernel_rfl) (by kernel_rfl) (fun _ => by kernel_rfl) (Cls.callNC fun wx hwx => e_r16conf y103 y95 wx) ?_; clear hA ac; intro ac hA
   refine sq_p (vB (evConf y103 y95)) hA ?_; clear hA ac; intro ac hA
   rcases Bool.eq_false_or_eq_true (evConf y103 y95) with h106 | h106
   ·
    rw [h106] at hA
    refine sq_q (vA #[vS AoL86 E.length coL87, vS AoB88 g85.length coB89]) hA (rl b90 0 0) fun ac hA => sq_p (vI .i64 (q : Int)) hA fun ac hA => sq_p (vI .i64 (j : Int)) hA fun ac hA => sq_call (v := vB (apartE E (q : Int) (j : Int))) hA (by kernel_rfl) (by kernel_rfl) (by kernel_rfl) (fun _ => by kernel_rfl) (Cls.callNC fun wx hwx => e_rapart AoL86 coL87 E AoB88 coB89 g85 (q : Int) (j : Int) wx ((hwx.1).getG 2 rfl) (by first | assumption | omega | (simp; omega) | simp) ((hwx.1).getG 1 rfl) (by first | assumption | omega | (simp; omega) | simp) ((hwx.1).getG 0 rfl) hkcoB89 (by first | omega | decide | assumption | exact ⟨by omega, by omega⟩ | exact hyr_.1.2 | exact hyr_.2 | exact hown_ | exact hC.ok | exact (hel _ (List.mem_of_getElem? (by assumption))).1) hC.ok (by first | omega | decide | assumption | exact ⟨by omega, by omega⟩ | exact hyr_.1.2 | exact hyr_.2 | exact hown_ | exact hC.ok | exact (hel _ (List.mem_of_getElem? (by assumption))).1) (by first | omega | decide | assumption | exact ⟨by omega, by omega⟩ | exact hyr_.1.2 | exact hyr_.2 | exact hown_ | exact hC.ok | exact (hel _ (List.mem_of_getElem? (by assumption))).1) (by first | omega | decide | assumption | exact ⟨by omega, by omega⟩ | exact hyr_.1.2 | exact hyr_.2 | exact hown_ | exact hC.ok | exact (hel _ (List.mem_of_getElem? (by assumption))).1)) ?_; clear hA ac; intro ac hA
    refine sq_p (vB (apartE E (q : Int) (j : Int))) hA fun ac hA => sq_p (vB (apartE E (q : Int) (j : Int))) hA fun ac hA => sq_p (vB (apartE E (q : Int) (j : Int))) hA fun ac hA => sq_nil ?_; intro w107 hww107; have hW := hww107.1; have hfw107 := hww107.2; clear hww107
    refine blkN <| thenN <| wp_region_lit <| st_p (vI .i64 (q : Int)) hA fun ac hA => st_q (vI .i64 ((q + 1 : Nat) : Int)) hA hW.cls (Rd.pureE (v0 := vI .i64 (IntKind.i64.wrap ((q : Int) + 1))) (fun _ => by kernel_rfl) (congrArg (vI .i64) ((w_i64 (x := (q : Int) + 1) (by omega) (by omega)).trans (by omega)))) fun ac hA => st_p (vI .i64 ((q + 1 : Nat) : Int)) hA fun ac hA => wn ?_
    exact ⟨j - (q + 1), by omega, q + 1, apartE E (q : Int) (j : Int), rfl, by omega, by have q_ := anyR_step hC.ok (show q < j by omega) (show j < E.length by omega) hy103 hr; simpa [h104, h106] using q_, hA.sub (by and_intros <;> first | kernel_rfl | trivial), (hW.pick [0, 1, 2] (by decide) rfl).pickG [0, 1, 2, 3, 4, 5, 6, 7] rfl⟩
   rw [h106] at hA
   refine sq_k hA fun ac hA => sq_k hA fun ac hA => sq_k hA fun ac hA => sq_k hA fun ac hA => sq_p (vB false) hA fun ac hA => sq_p (vB false) hA fun ac hA => sq_p (vB false) hA fun ac hA => sq_nil ?_; intro w108 hww108; have hW := hww108.1; have hfw108 := hww108.2; clear hww108
   refine blkN <| thenN <| wp_region_lit <| st_p (vI .i64 (q : Int)) hA fun ac hA => st_q (vI .i64 ((q + 1 : Nat) : Int)) hA hW.cls (Rd.pureE (v0 := vI .i64 (IntKind.i64.wrap ((q : Int) + 1))) (fun _ => by kernel_rfl) (congrArg (vI .i64) ((w_i64 (x := (q : Int) + 1) (by omega) (by omega)).trans (by omega)))) fun ac hA => st_p (vI .i64 ((q + 1 : Nat) : Int)) hA fun ac hA => wn ?_
   exact ⟨j - (q + 1), by omega, q + 1, false, rfl, by omega, by have q_ := anyR_step hC.ok (show q < j by omega) (show j < E.length by omega) hy103 hr; simpa [h104, h106] using q_, hA.sub (by and_intros <;> first | kernel_rfl | trivial), (hW.pick [0, 1, 2] (by decide) rfl).pickG [0, 1, 2, 3, 4, 5, 6, 7] rfl⟩
  have h102 := of_decide_eq_false h102
  refine wp_exit <| thenX <| thenX <| blkX <| thenN <| wp_seq <| wp_seq ?_
  have hr2_ : r = true ↔ anyR E y95 j j := (show q = j by omega) ▸ hr; have hrl_ := race_len hC hy95 hwj_ hr2_
  refine wp_region_lit <| st_p (vB r) hA fun ac hA => st_p (vS (some ⟨b99, o100, none⟩) D.length cd) hA fun ac hA => st_p (vI .i64 (j : Int)) hA fun ac hA => st_q (vP (some ⟨b99, o100 + j * 3, none⟩)) hA hW.cls (Rd.indexAddr (e := 35) (sz := 3) (b := b99) (off := o100) (n := D.length) (c := cd) (k := j) (by kernel_rfl) (by kernel_rfl) (by first | omega | (simp; done) | (simp; omega)) (fun _ => by kernel_rfl) (fun _ => by kernel_rfl)) fun ac hA => st_p (vP (some ⟨b99, o100 + j * 3 + 2, none⟩)) hA fun ac hA => ?_
  have hW := hW.nestAt 5 rfl (List.mem_of_getElem? hy98)
  have hc_y98_wi : y98_wi.length ≤ y98_wi_c := hkD _ (List.mem_of_getElem? hy98)
  replace hW : Ws w No [Cel b90 #[vS AoL86 E.length coL87, vS AoB88 g85.length coB89] 46, rowR 35 3 enHit (vS (some ⟨b99, o100, none⟩) D.length cd) D, PlS n5 n6 n7 G n9 T 1000 (stK E) i n11 V (mK E) A c Hs mny] [roR y98_wi_A 4 enAcc y98_wi, nestR innerBV g85, roR AoB88 1 enBV g85, roR AoL86 9 enEvent E, roR (some ⟨b96, o97, none⟩) 9 enEvent E, rowR 43 9 enEvent (vS (some ⟨b96, o97, none⟩) E.length cc) E, nestR innerHit D, nestR innerSV (NV [] G T), roR A_l 9 enEvent l] w101 := hW
  refine st_q (vS y98_wi_A y98_wi.length y98_wi_c) hA hW.cls (Rd.loadRow (b := b99) (i := o100 + j * 3 + 2) (xs := [vS y98_wi_A y98_wi.length y98_wi_c]) (by kernel_rfl) (fun _ hw => row_ld (rowR_at ((hw.1).get 1 rfl) elt_Hit.len) hy98 (Fr.refl No _) (fun h => h) 2 1 (by kernel_rfl)) (by kernel_rfl)) fun ac hA => st_p (vI .i64 (y98_wi.length : Int)) hA fun ac hA => st_p (vB (decide ((y98_wi.length : Int) > (0 : Int)))) hA fun ac hA => st_p (vB (!(r == (decide ((y98_wi.length : Int) > (0 : Int)))))) hA fun ac hA => wn <| wp_cond_split (t := !(r == (decide ((y98_wi.length : Int) > (0 : Int))))) (hA.eval (by kernel_rfl)) (fun h109 => ?_) (fun h109 => ?_)
  ·
   have h109 := bbne_t h109
   exfalso; clear hA hW; exact h109 hrl_
  have h109 := bbne_f h109
  refine wp_skip <| thenN <| wr <| st_p (vI .i64 0) hA ?_; clear hA ac; intro ac hA
  refine wn <| wp_block <| wp_loop_m (fun m_ ac_ wl_ => ∃ k : Nat, m_ = y98_wi.length - k ∧ (k ≤ y98_wi.length) ∧ Fm 219 [] [(0, vS A_l l.length c_l), (3, pA n5 0), (5, vS (some ⟨b96, o97, none⟩) E.length cc), (6, vS (some ⟨b99, o100, none⟩) D.length cd), (11, pA b90 0), (13, vI .i64 (j : Int)), (16, vI .i64 (k : Int))] ac_ ∧ Ws w No [Cel b90 #[vS AoL86 E.length coL87, vS AoB88 g85.length coB89] 46, rowR 35 3 enHit (vS (some ⟨b99, o100, none⟩) D.length cd) D, PlS n5 n6 n7 G n9 T 1000 (stK E) i n11 V (mK E) A c Hs mny] [roR y98_wi_A 4 enAcc y98_wi, nestR innerBV g85, roR AoB88 1 enBV g85, roR AoL86 9 enEvent E, roR (some ⟨b96, o97, none⟩) 9 enEvent E, rowR 43 9 enEvent (vS (some ⟨b96, o97, none⟩) E.length cc) E, nestR innerHit D, nestR innerSV (NV [] G T), roR A_l 9 enEvent l] wl_) _ ⟨0, rfl, by omega, hA.sub (by and_intros <;> first | kernel_rfl | trivial), (hW.pick [0, 1, 2] (by decide) rfl).pickG [0, 1, 2, 3, 4, 5, 6, 7, 8] rfl⟩ ?_
  clear hA ac hW; rintro m_ ac w110 ⟨k, rfl, hk, hA, hW⟩
  refine wp_seq <| wr <| st_p (vI .i64 (k : Int)) hA fun ac hA => st_p (vS (some ⟨b99, o100, none⟩) D.length cd) hA fun ac hA => st_p (vI .i64 (j : Int)) hA fun ac hA => st_q (vP (some ⟨b99, o100 + j * 3, none⟩)) hA hW.cls (Rd.indexAddr (e := 35) (sz := 3) (b := b99) (off := o100) (n := D.length) (c := cd) (k := j) (by kernel_rfl) (by kernel_rfl) (by first | omega | (simp; done) | (simp; omega)) (fun _ => by kernel_rfl) (fun _ => by kernel_rfl)) fun ac hA => st_p (vP (some ⟨b99, o100 + j * 3 + 2, none⟩)) hA fun ac hA => st_q (vS y98_wi_A y98_wi.length y98_wi_c) hA hW.cls (Rd.loadRow (b := b99) (i := o100 + j * 3 + 2) (xs := [vS y98_wi_A y98_wi.length y98_wi_c]) (by kernel_rfl) (fun _ hw => row_ld (rowR_at ((hw.1).get 1 rfl) elt_Hit.len) hy98 (Fr.refl No _) (fun h => h) 2 1 (by kernel_rfl)) (by kernel_rfl)) fun ac hA => st_p (vI .i64 (y98_wi.length : Int)) hA fun ac hA => st_p (vB (decide ((k : Int) < (y98_wi.length : Int)))) hA fun ac hA => wn <| wp_cond_split (t := decide ((k : Int) < (y98_wi.length : Int))) (hA.eval (by kernel_rfl)) (fun h111 => ?_) (fun h111 => ?_)
  ·
   have h111 := of_decide_eq_true h111
   refine wp_skip <| thenN <| wp_seq <| wp_block <| wr <| st_p (vS (some ⟨b99, o100, none⟩) D.length cd) hA fun ac hA => st_p (vI .i64 (j : Int)) hA fun ac hA => st_q (vP (some ⟨b99, o100 + j * 3, none⟩)) hA hW.cls (Rd.indexAddr (e := 35) (sz := 3) (b := b99) (off := o100) (n := D.length) (c := cd) (k := j) (by kernel_rfl) (by kernel_rfl) (by first | omega | (simp; done) | (simp; omega)) (fun _ => by kernel_rfl) (fun _ => by kernel_rfl)) fun ac hA => st_p (vP (some ⟨b99, o100 + j * 3 + 2, none⟩)) hA fun ac hA => st_q (vS y98_wi_A y98_wi.length y98_wi_c) hA hW.cls (Rd.loadRow (b := b99) (i := o100 + j * 3 + 2) (xs := [vS y98_wi_A y98_wi.length y98_wi_c]) (by kernel_rfl) (fun _ hw => row_ld (rowR_at ((hw.1).get 1 rfl) elt_Hit.len) hy98 (Fr.refl No _) (fun h => h) 2 1 (by kernel_rfl)) (by kernel_rfl)) fun ac hA => st_p (vI .i64 (k : Int)) hA fun ac hA => ?_
   obtain ⟨y112, hy112⟩ : ∃ y, y98_wi[k]? = some y := ⟨_, List.getElem?_eq_getElem (by first | omega | (simp; done) | (simp; omega))⟩
   obtain ⟨b113, o114, rfl, hbb113⟩ := row_some ((hW).getG 0 rfl) hy112
   refine st_q (vP (some ⟨b113, o114 + k * 4, none⟩)) hA hW.cls (Rd.indexAddr (e := 52) (sz := 4) (b := b113) (off := o114) (n := y98_wi.length) (c := y98_wi_c) (k := k) (by kernel_rfl) (by kernel_rfl) (by first | omega | (simp; done) | (simp; omega)) (fun _ => by kernel_rfl) (fun _ => by kernel_rfl)) fun ac hA => st_q (vA #[vI .i64 y112.g, vI .i64 y112.s.f, vI .i64 y112.s.pc, vI .i64 y112.k]) hA hW.cls (Rd.loadRow (b := b113) (i := o114 + k * 4) (xs := [vI .i64 y112.g, vI .i64 y112.s.f, vI .i64 y112.s.pc, vI .i64 y112.k]) (by kernel_rfl) (fun _ hw => row_ld ((hw.1).getG 0 rfl) hy112 (Fr.refl No _) (fun h => h) 0 4 (by kernel_rfl)) (by kernel_rfl)) fun ac hA => st_s hA (Runs.cells (fun b => pA b 0) #[vI .i64 0, vI .i64 0, vI .i64 0, vI .i64 0] 52 (fun _ => by kernel_rfl) hW ?_); clear hA ac hW; intro b115 w116 hW hb115 hfw116 ac hA
   refine st_s hA (Runs.store (v := vA #[vI .i64 y112.g, vI .i64 y112.s.f, vI .i64 y112.s.pc, vI .i64 y112.k]) (b := b115) (j := 0) (n := 4) (cs' := #[vI .i64 y112.g, vI .i64 y112.s.f, vI .i64 y112.s.pc, vI .i64 y112.k]) (H' := [Cel b115 #[vI .i64 y112.g, vI .i64 y112.s.f, vI .i64 y112.s.pc, vI .i64 y112.k] 52, Cel b90 #[vS AoL86 E.length coL87, vS AoB88 g85.length coB89] 46, rowR 35 3 enHit (vS (some ⟨b99, o100, none⟩) D.length cd) D, PlS n5 n6 n7 G n9 T 1000 (stK E) i n11 V (mK E) A c Hs mny]) (by kernel_rfl) (by kernel_rfl) (by kernel_rfl) (by kernel_rfl) (by kernel_rfl) hW 0 (by rfl) (Nat.le_of_ble_eq_true (by kernel_rfl)) (by kernel_rfl) (by rfl) ?_); clear hA ac hW; intro w117 hW ac hA
   refine wn <| wp_seq ?_
   obtain ⟨n_, y118, hn_, hL_, hy118, hcf_, hnb_, hac_⟩ := (law_with hC hy95 y112).1 (by rw [← hwj_]; exact List.mem_of_getElem? hy112)
   have hk1_ : y112.k = y118.kind := by rw [hac_]
   have hk2_ : y112.g = y118.g := by rw [hac_]
   have hk3_ : y112.s = y118.site := by rw [hac_]
   rw [← hk1_, ← hk2_] at hL_
   have hap_ := (apart_hb hC.ok hn_ (show j < E.length by omega)).2 hnb_; have hcb_ : evConf y118 y95 = true := decide_eq_true hcf_
   refine wp_region_lit <| st_p (vI .i64 (-1)) hA ?_; clear hA ac; intro ac hA
   refine wn <| wp_seq <| wr <| st_p (vI .i64 0) hA ?_; clear hA ac; intro ac hA
   refine wn <| wp_block <| wp_loop_m (fun m_ ac_ wl_ => ∃ u : Nat, ∃ lst : Int, m_ = j - u ∧ (u ≤ j) ∧ (LastTo E u y112.k y95.addr y112.g lst) ∧ Fm 219 [] [(0, vS A_l l.length c_l), (3, pA n5 0), (5, vS (some ⟨b96, o97, none⟩) E.length cc), (6, vS (some ⟨b99, o100, none⟩) D.length cd), (11, pA b90 0), (13, vI .i64 (j : Int)), (16, vI .i64 (k : Int)), (17, pA b115 0), (18, vI .i64 lst), (19, vI .i64 (u : Int))] ac_ ∧ Ws w No [Cel b115 #[vI .i64 y112.g, vI .i64 y112.s.f, vI .i64 y112.s.pc, vI .i64 y112.k] 52, Cel b90 #[vS AoL86 E.length coL87, vS AoB88 g85.length coB89] 46, rowR 35 3 enHit (vS (some ⟨b99, o100, none⟩) D.length cd) D, PlS n5 n6 n7 G n9 T 1000 (stK E) i n11 V (mK E) A c Hs mny] [roR (some ⟨b113, o114, none⟩) 4 enAcc y98_wi, nestR innerBV g85, roR AoB88 1 enBV g85, roR AoL86 9 enEvent E, roR (some ⟨b96, o97, none⟩) 9 enEvent E, rowR 43 9 enEvent (vS (some ⟨b96, o97, none⟩) E.length cc) E, nestR innerHit D, nestR innerSV (NV [] G T), roR A_l 9 enEvent l] wl_) _ ⟨0, (-1), rfl, by omega, by exact LastTo.zero, hA.sub (by and_intros <;> first | kernel_rfl | trivial), (hW.pick [0, 1, 2, 3] (by decide) rfl).pickG [0, 1, 2, 3, 4, 5, 6, 7, 8] rfl⟩ ?_
   clear hA ac hW; rintro m_ ac w119 ⟨u, lst, rfl, hu, hlst, hA, hW⟩
   refine wp_seq <| wr <| st_p (vI .i64 (u : Int)) hA fun ac hA => st_p (vI .i64 (j : Int)) hA fun ac hA => st_p (vB (decide ((u : Int) < (j : Int)))) hA fun ac hA => wn <| wp_cond_split (t := decide ((u : Int) < (j : Int))) (hA.eval (by kernel_rfl)) (fun h120 => ?_) (fun h120 => ?_)
   ·
    have h120 := of_decide_eq_true h120
    refine wp_skip <| thenN <| wp_seq <| wp_block <| wp_seq ?_
    obtain ⟨y121, hy121⟩ : ∃ y, E[u]? = some y := ⟨_, List.getElem?_eq_getElem (by omega)⟩
    refine q_region (by kernel_rfl) (by kernel_rfl) hW <| sq_p (vS (some ⟨b96, o97, none⟩) E.length cc) hA fun ac hA => sq_p (vI .i64 (u : Int)) hA fun ac hA => sq_q (vP (some ⟨b96, o97 + u * 9, none⟩)) hA (Rd.indexAddr (e := 43) (sz := 9) (b := b96) (off := o97) (n := E.length) (c := cc) (k := u) (by kernel_rfl) (by kernel_rfl) (by first | omega | (simp; done) | (simp; omega)) (fun _ => by kernel_rfl) (fun _ => by kernel_rfl)) fun ac hA => sq_p (vP (some ⟨b96, o97 + u * 9, none⟩)) hA fun ac hA => sq_q (vI .i64 y121.g) hA (Rd.loadRow (b := b96) (i := o97 + u * 9) (xs := [vI .i64 y121.g]) (by kernel_rfl) (fun _ hw => row_ld (rowR_at (E := 43) ((hw.1).getG 5 rfl) elt_Event.len) hy121 (Fr.refl No _) (fun h => h) 0 1 (by kernel_rfl)) (by kernel_rfl)) fun ac hA => sq_p (pA b115 0) hA fun ac hA => sq_q (vI .i64 y112.g) hA (rl b115 0 0) fun ac hA => sq_p (vB ((y121.g : Int) == (y112.g : Int))) hA fun ac hA => sq_p (vB ((y121.g : Int) == (y112.g : Int))) hA fun ac hA => ?_
    rcases Bool.eq_false_or_eq_true ((y121.g : Int) == (y112.g : Int)) with h122 | h122
    ·
     rw [h122] at hA
     have h122 := eq_of_beq h122
     refine sq_p (vS (some ⟨b96, o97, none⟩) E.length cc) hA fun ac hA => sq_p (vI .i64 (u : Int)) hA fun ac hA => sq_q (vP (some ⟨b96, o97 + u * 9, none⟩)) hA (Rd.indexAddr (e := 43) (sz := 9) (b := b96) (off := o97) (n := E.length) (c := cc) (k := u) (by kernel_rfl) (by kernel_rfl) (by first | omega | (simp; done) | (simp; omega)) (fun _ => by kernel_rfl) (fun _ => by kernel_rfl)) fun ac hA => sq_p (vP (some ⟨b96, o97 + u * 9 + 1, none⟩)) hA fun ac hA => sq_q (vI .i64 y121.kind) hA (Rd.loadRow (b := b96) (i := o97 + u * 9 + 1) (xs := [vI .i64 y121.kind]) (by kernel_rfl) (fun _ hw => row_ld (rowR_at (E := 43) ((hw.1).getG 5 rfl) elt_Event.len) hy121 (Fr.refl No _) (fun h => h) 1 1 (by kernel_rfl)) (by kernel_rfl)) fun ac hA => sq_p (pA b115 3) hA fun ac hA => sq_q (vI .i64 y112.k) hA (rl b115 3 0) fun ac hA => sq_p (vB ((y121.kind : Int) == (y112.k : Int))) hA fun ac hA => sq_p (vB ((y121.kind : Int) == (y112.k : Int))) hA fun ac hA => sq_p (vB ((y121.kind : Int) == (y112.k : Int))) hA fun ac hA => ?_
     rcases Bool.eq_false_or_eq_true ((y121.kind : Int) == (y112.k : Int)) with h123 | h123
     ·
      rw [h123] at hA
      have h123 := eq_of_beq h123
      refine sq_p (vS (some ⟨b96, o97, none⟩) E.length cc) hA fun ac hA => sq_p (vI .i64 (u : Int)) hA fun ac hA => sq_q (vP (some ⟨b96, o97 + u * 9, none⟩)) hA (Rd.indexAddr (e := 43) (sz := 9) (b := b96) (off := o97) (n := E.length) (c := cc) (k := u) (by kernel_rfl) (by kernel_rfl) (by first | omega | (simp; done) | (simp; omega)) (fun _ => by kernel_rfl) (fun _ => by kernel_rfl)) fun ac hA => sq_p (vP (some ⟨b96, o97 + u * 9 + 4, none⟩)) hA fun ac hA => sq_q (vI .u32 y121.addr) hA (Rd.loadRow (b := b96) (i := o97 + u * 9 + 4) (xs := [vI .u32 y121.addr]) (by kernel_rfl) (fun _ hw => row_ld (rowR_at (E := 43) ((hw.1).getG 5 rfl) elt_Event.len) hy121 (Fr.refl No _) (fun h => h) 4 1 (by kernel_rfl)) (by kernel_rfl)) fun ac hA => sq_p (vS (some ⟨b96, o97, none⟩) E.length cc) hA fun ac hA => sq_p (vI .i64 (j : Int)) hA fun ac hA => sq_q (vP (some ⟨b96, o97 + j * 9, none⟩)) hA (Rd.indexAddr (e := 43) (sz := 9) (b := b96) (off := o97) (n := E.length) (c := cc) (k := j) (by kernel_rfl) (by kernel_rfl) (by first | omega | (simp; done) | (simp; omega)) (fun _ => by kernel_rfl) (fun _ => by kernel_rfl)) fun ac hA => sq_p (vP (some ⟨b96, o97 + j * 9 + 4, none⟩)) hA fun ac hA => sq_q (vI .u32 y95.addr) hA (Rd.loadRow (b := b96) (i := o97 + j * 9 + 4) (xs := [vI .u32 y95.addr]) (by kernel_rfl) (fun _ hw => row_ld (rowR_at (E := 43) ((hw.1).getG 5 rfl) elt_Event.len) hy95 (Fr.refl No _) (fun h => h) 4 1 (by kernel_rfl)) (by kernel_rfl)) fun ac hA => sq_p (vB ((y121.addr : Int) == (y95.addr : Int))) hA fun ac hA => sq_p (vB ((y121.addr : Int) == (y95.addr : Int))) hA fun ac hA => sq_nil ?_; intro w124 hww124; have hW := hww124.1; have hfw124 := hww124.2; clear hww124
      refine thenN <| wp_cond_split (t := (y121.addr : Int) == (y95.addr : Int)) (hA.eval (by kernel_rfl)) (fun h125 => ?_) (fun h125 => ?_)
      ·
       have h125 := eq_of_beq h125
       refine wp_region_lit <| st_p (vI .i64 (u : Int)) hA fun ac hA => st_p (vI .i64 (u : Int)) hA fun ac hA => wpList_nil <| blkN <| thenN <| wp_region_lit <| st_p (vI .i64 (u : Int)) hA fun ac hA => st_q (vI .i64 ((u + 1 : Nat) : Int)) hA hW.cls (Rd.pureE (v0 := vI .i64 (IntKind.i64.wrap ((u : Int) + 1))) (fun _ => by kernel_rfl) (congrArg (vI .i64) ((w_i64 (x := (u : Int) + 1) (by omega) (by omega)).trans (by omega)))) fun ac hA => st_p (vI .i64 ((u + 1 : Nat) : Int)) hA fun ac hA => wn ?_
       exact ⟨j - (u + 1), by omega, u + 1, (u : Int), rfl, by omega, by exact LastTo.hit hy121 ⟨by omega, by omega, by omega⟩, hA.sub (by and_intros <;> first | kernel_rfl | trivial), (hW.pick [0, 1, 2, 3] (by decide) rfl).pickG [0, 1, 2, 3, 4, 5, 6, 7, 8] rfl⟩
      have h125 := ne_of_beq_false h125
      refine wp_skip <| blkN <| thenN <| wp_region_lit <| st_p (vI .i64 (u : Int)) hA fun ac hA => st_q (vI .i64 ((u + 1 : Nat) : Int)) hA hW.cls (Rd.pureE (v0 := vI .i64 (IntKind.i64.wrap ((u : Int) + 1))) (fun _ => by kernel_rfl) (congrArg (vI .i64) ((w_i64 (x := (u : Int) + 1) (by omega) (by omega)).trans (by omega)))) fun ac hA => st_p (vI .i64 ((u + 1 : Nat) : Int)) hA fun ac hA => wn ?_
      exact ⟨j - (u + 1), by omega, u + 1, lst, rfl, by omega, by exact hlst.miss hy121 (fun q_ => by unfold AccAt at q_; omega), hA.sub (by and_intros <;> first | kernel_rfl | trivial), (hW.pick [0, 1, 2, 3] (by decide) rfl).pickG [0, 1, 2, 3, 4, 5, 6, 7, 8] rfl⟩
     rw [h123] at hA
     have h123 := ne_of_beq_false h123
     refine sq_k hA fun ac hA => sq_k hA fun ac hA => sq_k hA fun ac hA => sq_k hA fun ac hA => sq_k hA fun ac hA => sq_k hA fun ac hA => sq_k hA fun ac hA => sq_k hA fun ac hA => sq_k hA fun ac hA => sq_k hA fun ac hA => sq_k hA fun ac hA => sq_p (vB false) hA fun ac hA => sq_nil ?_; intro w126 hww126; have hW := hww126.1; have hfw126 := hww126.2; clear hww126
     refine thenN <| wp_cond_false (hA.eval (by kernel_rfl)) <| wp_skip <| blkN <| thenN <| wp_region_lit <| st_p (vI .i64 (u : Int)) hA fun ac hA => st_q (vI .i64 ((u + 1 : Nat) : Int)) hA hW.cls (Rd.pureE (v0 := vI .i64 (IntKind.i64.wrap ((u : Int) + 1))) (fun _ => by kernel_rfl) (congrArg (vI .i64) ((w_i64 (x := (u : Int) + 1) (by omega) (by omega)).trans (by omega)))) fun ac hA => st_p (vI .i64 ((u + 1 : Nat) : Int)) hA fun ac hA => wn ?_
     exact ⟨j - (u + 1), by omega, u + 1, lst, rfl, by omega, by exact hlst.miss hy121 (fun q_ => by unfold AccAt at q_; omega), hA.sub (by and_intros <;> first | kernel_rfl | trivial), (hW.pick [0, 1, 2, 3] (by decide) rfl).pickG [0, 1, 2, 3, 4, 5, 6, 7, 8] rfl⟩
    rw [h122] at hA
    have h122 := ne_of_beq_false h122
    refine sq_k hA fun ac hA => sq_k hA fun ac hA => sq_k hA fun ac hA => sq_k hA fun ac hA => sq_k hA fun ac hA => sq_k hA fun ac hA => sq_k hA fun ac hA => sq_k hA fun ac hA => sq_p (vB false) hA fun ac hA => sq_p (vB false) hA fun ac hA => sq_k hA fun ac hA => sq_k hA fun ac hA => sq_k hA fun ac hA => sq_k hA fun ac hA => sq_k hA fun ac hA => sq_k hA fun ac hA => sq_k hA fun ac hA => sq_k hA fun ac hA => sq_k hA fun ac hA => sq_k hA fun ac hA => sq_k hA fun ac hA => sq_p (vB false) hA fun ac hA => sq_nil ?_; intro w127 hww127; have hW := hww127.1; have hfw127 := hww127.2; clear hww127
    refine thenN <| wp_cond_false (hA.eval (by kernel_rfl)) <| wp_skip <| blkN <| thenN <| wp_region_lit <| st_p (vI .i64 (u : Int)) hA fun ac hA => st_q (vI .i64 ((u + 1 : Nat) : Int)) hA hW.cls (Rd.pureE (v0 := vI .i64 (IntKind.i64.wrap ((u : Int) + 1))) (fun _ => by kernel_rfl) (congrArg (vI .i64) ((w_i64 (x := (u : Int) + 1) (by omega) (by omega)).trans (by omega)))) fun ac hA => st_p (vI .i64 ((u + 1 : Nat) : Int)) hA fun ac hA => wn ?_
    exact ⟨j - (u + 1), by omega, u + 1, lst, rfl, by omega, by exact hlst.miss hy121 (fun q_ => by unfold AccAt at q_; omega), hA.sub (by and_intros <;> first | kernel_rfl | trivial), (hW.pick [0, 1, 2, 3] (by decide) rfl).pickG [0, 1, 2, 3, 4, 5, 6, 7, 8] rfl⟩
   have h120 := of_decide_eq_false h120
   refine wp_exit <| thenX <| thenX <| blkX <| thenN <| wp_seq ?_
   have hln_ : lst = (n_ : Int) := LastTo.fin ((show u = j by omega) ▸ hlst) hn_ hy118 hL_; subst hln_
   refine q_region (by kernel_rfl) (by kernel_rfl) hW <| sq_p (vI .i64 (n_ : Int)) hA fun ac hA => sq_p (vB (decide ((n_ : Int) < (0 : Int)))) hA fun ac hA => sq_p (vB (decide ((n_ : Int) < (0 : Int)))) hA fun ac hA => ?_
   rcases Bool.eq_false_or_eq_true (decide ((n_ : Int) < (0 : Int))) with h128 | h128
   ·
    rw [h128] at hA
    have h128 := of_decide_eq_true h128
    exfalso; clear hA hW; omega
   rw [h128] at hA
   have h128 := of_decide_eq_false h128
   refine sq_p (vS (some ⟨b96, o97, none⟩) E.length cc) hA fun ac hA => sq_p (vI .i64 (n_ : Int)) hA fun ac hA => sq_q (vP (some ⟨b96, o97 + n_ * 9, none⟩)) hA (Rd.indexAddr (e := 43) (sz := 9) (b := b96) (off := o97) (n := E.length) (c := cc) (k := n_) (by kernel_rfl) (by kernel_rfl) (by first | omega | (simp; done) | (simp; omega)) (fun _ => by kernel_rfl) (fun _ => by kernel_rfl)) fun ac hA => sq_p (vP (some ⟨b96, o97 + n_ * 9 + 2, none⟩)) hA fun ac hA => sq_q (vA #[vI .i64 y118.site.f, vI .i64 y118.site.pc]) hA (Rd.loadRow (b := b96) (i := o97 + n_ * 9 + 2) (xs := [vI .i64 y118.site.f, vI .i64 y118.site.pc]) (by kernel_rfl) (fun _ hw => row_ld (rowR_at (E := 43) ((hw.1).getG 5 rfl) elt_Event.len) hy118 (Fr.refl No _) (fun h => h) 2 2 (by kernel_rfl)) (by kernel_rfl)) fun ac hA => sq_p (pA b115 1) hA fun ac hA => sq_q (vA #[vI .i64 y112.s.f, vI .i64 y112.s.pc]) hA (rl b115 1 0) fun ac hA => sq_q (vB (!decide (y118.site = y112.s))) hA (Rd.neS (u := y118.site.v) (v := y112.s.v) (by kernel_rfl) (by kernel_rfl) rfl rfl (by kernel_rfl) (fun w => eq_Site w y118.site y112.s)) fun ac hA => sq_p (vB (!decide (y118.site = y112.s))) hA fun ac hA => sq_p (vB (!decide (y118.site = y112.s))) hA fun ac hA => ?_
   rcases Bool.eq_false_or_eq_true (!decide (y118.site = y112.s)) with h130 | h130
   ·
    rw [h130] at hA
    have h130 := not_t h130
    have h130 := of_decide_eq_false h130
    have h130e := fun e => h130 ((Site.eqi _ _).2 e)
    exfalso; clear hA hW; exact h130 hk3_.symm
   rw [h130] at hA
   have h130 := not_f h130
   have h130 := of_decide_eq_true h130
   have h130e := (Site.eqi _ _).1 h130
   refine sq_p (vS (some ⟨b96, o97, none⟩) E.length cc) hA fun ac hA => sq_p (vI .i64 (n_ : Int)) hA fun ac hA => sq_q (vP (some ⟨b96, o97 + n_ * 9, none⟩)) hA (Rd.indexAddr (e := 43) (sz := 9) (b := b96) (off := o97) (n := E.length) (c := cc) (k := n_) (by kernel_rfl) (by kernel_rfl) (by first | omega | (simp; done) | (simp; omega)) (fun _ => by kernel_rfl) (fun _ => by kernel_rfl)) fun ac hA => sq_q (vA #[vI .i64 y118.g, vI .i64 y118.kind, vI .i64 y118.site.f, vI .i64 y118.site.pc, vI .u32 y118.addr, vI .i64 y118.child, vI .i64 y118.obj, vI .i64 y118.n, vI .i64 y118.trap]) hA (Rd.loadRow (b := b96) (i := o97 + n_ * 9) (xs := [vI .i64 y118.g, vI .i64 y118.kind, vI .i64 y118.site.f, vI .i64 y118.site.pc, vI .u32 y118.addr, vI .i64 y118.child, vI .i64 y118.obj, vI .i64 y118.n, vI .i64 y118.trap]) (by kernel_rfl) (fun _ hw => row_ld (rowR_at (E := 43) ((hw.1).getG 5 rfl) elt_Event.len) hy118 (Fr.refl No _) (fun h => h) 0 9 (by kernel_rfl)) (by kernel_rfl)) fun ac hA => sq_p (vS (some ⟨b96, o97, none⟩) E.length cc) hA fun ac hA => sq_p (vI .i64 (j : Int)) hA fun ac hA => sq_q (vP (some ⟨b96, o97 + j * 9, none⟩)) hA (Rd.indexAddr (e := 43) (sz := 9) (b := b96) (off := o97) (n := E.length) (c := cc) (k := j) (by kernel_rfl) (by kernel_rfl) (by first | omega | (simp; done) | (simp; omega)) (fun _ => by kernel_rfl) (fun _ => by kernel_rfl)) fun ac hA => sq_q (vA #[vI .i64 y95.g, vI .i64 y95.kind, vI .i64 y95.site.f, vI .i64 y95.site.pc, vI .u32 y95.addr, vI .i64 y95.child, vI .i64 y95.obj, vI .i64 y95.n, vI .i64 y95.trap]) hA (Rd.loadRow (b := b96) (i := o97 + j * 9) (xs := [vI .i64 y95.g, vI .i64 y95.kind, vI .i64 y95.site.f, vI .i64 y95.site.pc, vI .u32 y95.addr, vI .i64 y95.child, vI .i64 y95.obj, vI .i64 y95.n, vI .i64 y95.trap]) (by kernel_rfl) (fun _ hw => row_ld (rowR_at (E := 43) ((hw.1).getG 5 rfl) elt_Event.len) hy95 (Fr.refl No _) (fun h => h) 0 9 (by kernel_rfl)) (by kernel_rfl)) fun ac hA => sq_call (v := vB (evConf y118 y95)) hA (by kernel_rfl) (by kernel_rfl) (by kernel_rfl) (fun _ => by kernel_rfl) (Cls.callNC fun wx hwx => e_r16conf y118 y95 wx) ?_; clear hA ac; intro ac hA
   refine sq_p (vB (!(evConf y118 y95))) hA fun ac hA => sq_p (vB (!(evConf y118 y95))) hA fun ac hA => sq_p (vB (!(evConf y118 y95))) hA fun ac hA => ?_
   rcases Bool.eq_false_or_eq_true (!(evConf y118 y95)) with h132 | h132
   ·
    rw [h132] at hA
    have h132 := not_t h132
    exfalso; clear hA hW; exact Bool.noConfusion (hcb_.symm.trans h132)
   rw [h132] at hA
   have h132 := not_f h132
   refine sq_q (vA #[vS AoL86 E.length coL87, vS AoB88 g85.length coB89]) hA (rl b90 0 1) fun ac hA => sq_p (vI .i64 (n_ : Int)) hA fun ac hA => sq_p (vI .i64 (j : Int)) hA fun ac hA => sq_call (v := vB (apartE E (n_ : Int) (j : Int))) hA (by kernel_rfl) (by kernel_rfl) (by kernel_rfl) (fun _ => by kernel_rfl) (Cls.callNC fun wx hwx => e_rapart AoL86 coL87 E AoB88 coB89 g85 (n_ : Int) (j : Int) wx ((hwx.1).getG 3 rfl) (by first | assumption | omega | (simp; omega) | simp) ((hwx.1).getG 2 rfl) (by first | assumption | omega | (simp; omega) | simp) ((hwx.1).getG 1 rfl) hkcoB89 (by first | omega | decide | assumption | exact ⟨by omega, by omega⟩ | exact hyr_.1.2 | exact hyr_.2 | exact hown_ | exact hC.ok | exact (hel _ (List.mem_of_getElem? (by assumption))).1) hC.ok (by first | omega | decide | assumption | exact ⟨by omega, by omega⟩ | exact hyr_.1.2 | exact hyr_.2 | exact hown_ | exact hC.ok | exact (hel _ (List.mem_of_getElem? (by assumption))).1) (by first | omega | decide | assumption | exact ⟨by omega, by omega⟩ | exact hyr_.1.2 | exact hyr_.2 | exact hown_ | exact hC.ok | exact (hel _ (List.mem_of_getElem? (by assumption))).1) (by first | omega | decide | assumption | exact ⟨by omega, by omega⟩ | exact hyr_.1.2 | exact hyr_.2 | exact hown_ | exact hC.ok | exact (hel _ (List.mem_of_getElem? (by assumption))).1)) ?_; clear hA ac; intro ac hA
   refine sq_p (vB (!(apartE E (n_ : Int) (j : Int)))) hA fun ac hA => sq_p (vB (!(apartE E (n_ : Int) (j : Int)))) hA fun ac hA => sq_nil ?_; intro w134 hww134; have hW := hww134.1; have hfw134 := hww134.2; clear hww134
   refine thenN <| wp_cond_split (t := !(apartE E (n_ : Int) (j : Int))) (hA.eval (by kernel_rfl)) (fun h135 => ?_) (fun h135 => ?_)
   ·
    have h135 := not_t h135
    exfalso; clear hA hW; exact Bool.noConfusion (hap_.symm.trans h135)
   have h135 := not_f h135
   refine wp_skip <| blkN <| thenN <| wp_region_lit <| st_p (vI .i64 (k : Int)) hA fun ac hA => st_q (vI .i64 ((k + 1 : Nat) : Int)) hA hW.cls (Rd.pureE (v0 := vI .i64 (IntKind.i64.wrap ((k : Int) + 1))) (fun _ => by kernel_rfl) (congrArg (vI .i64) ((w_i64 (x := (k : Int) + 1) (by omega) (by omega)).trans (by omega)))) fun ac hA => st_p (vI .i64 ((k + 1 : Nat) : Int)) hA fun ac hA => wn ?_
   exact ⟨y98_wi.length - (k + 1), by omega, k + 1, rfl, by omega, hA.sub (by and_intros <;> first | kernel_rfl | trivial), (hW.pick [1, 2, 3] (by decide) rfl).pickG [0, 1, 2, 3, 4, 5, 6, 7, 8] rfl⟩
  have h111 := of_decide_eq_false h111
  refine wp_exit <| thenX <| thenX <| blkX <| blkN <| thenN <| wp_region_lit <| st_p (vI .i64 (j : Int)) hA fun ac hA => st_q (vI .i64 ((j + 1 : Nat) : Int)) hA hW.cls (Rd.pureE (v0 := vI .i64 (IntKind.i64.wrap ((j : Int) + 1))) (fun _ => by kernel_rfl) (congrArg (vI .i64) ((w_i64 (x := (j : Int) + 1) (by omega) (by omega)).trans (by omega)))) fun ac hA => st_p (vI .i64 ((j + 1 : Nat) : Int)) hA fun ac hA => wn ?_
  exact ⟨E.length - (j + 1), by omega, j + 1, rfl, by omega, hA.sub (by and_intros <;> first | kernel_rfl | trivial), (hW.pick [0, 1, 2] (by decide) rfl).pickG [1, 2, 3, 4, 5, 6, 7, 8] rfl⟩
 have h94 := of_decide_eq_false h94
 refine wp_exit <| thenX <| thenX <| blkX <| thenN <| wr <| st_s hA (Runs.callN (v := vB true) (fun _ => by kernel_rfl) hW (e_works26 w93) ?_); clear hA ac hW; intro w136 hW hfw136 ac hA
 refine st_p (vB true) hA ?_; clear hA ac; intro ac hA
 refine wn <| wp_ret <| r1 (vB true) hA ?_
 clear hA
 exact ⟨retv (by rfl), hW.fr⟩

theorem vectorsHold_walk (A : Option Addr) (len cap : Nat) (l : List Event) (w : World) (hl : l.length = len) (hc : len ≤ cap) (hm : cap ≤ maxLen) (hw : ∀ x ∈ l, wfEvent x) (hr : RowAt w A 9 enEvent l) :
    Calls Tryz.prog 3 #[.slice A len cap] w fun e w' => e = .returned (.bool true) ∧ Fr No w w' := by
  subst hl
  exact e_vectorsHold A cap l w hr hc (by have : maxLen ≤ 9223372036854775807 := by decide
                                          omega) (fun x hx => wf_event (hw x hx))

end Go.Proofs.YtoakhhilmnfpkaaGreatDoor.L
