/- Contracts, walked by program over the engine's laws. -/
import Derived.Test.YtjegpelofdopmaaGreatDoorProg
import Derived.Test.YtjegpelofdopmaaGreatDoorT15
namespace Go.Proofs.YtjegpelofdopmaaGreatDoor.L
open Go.RowKit
open Go.Value renaming int → vI, slice → vS, bool → vB, pointer → vP, func → vF, agg → vA, map → vM, tuple → vT

def deEvent : List Value → Event
  | [.int _ a0, .int _ a1, .int _ a2, .int _ a3, .int _ a4, .int _ a5, .int _ a6, .int _ a7, .int _ a8] => ⟨a0, a1, ⟨a2, a3⟩, a4, a5, a6, a7, a8⟩
  | _ => ⟨0, 0, ⟨0, 0⟩, 0, 0, 0, 0, 0⟩
def wfEvent (x : Event) : Prop := (Lit.int .i64 x.g).wf = true ∧ (Lit.int .i64 x.kind).wf = true ∧ (Lit.int .i64 x.site.f).wf = true ∧ (Lit.int .i64 x.site.pc).wf = true ∧ (Lit.int .u32 x.addr).wf = true ∧ (Lit.int .i64 x.child).wf = true ∧ (Lit.int .i64 x.obj).wf = true ∧ (Lit.int .i64 x.n).wf = true ∧ (Lit.int .i64 x.trap).wf = true ∧ True
theorem deEvent_ok (cs : List Value) (h : cksOk [.int .i64, .int .i64, .int .i64, .int .i64, .int .u32, .int .i64, .int .i64, .int .i64, .int .i64] cs) : enEvent (deEvent cs) = cs ∧ wfEvent (deEvent cs) := by
  have hl := cksOk_length h
  match cs, hl, h with
  | [c0, c1, c2, c3, c4, c5, c6, c7, c8], _, ⟨⟨_, h0, w0⟩, ⟨_, h1, w1⟩, ⟨_, h2, w2⟩, ⟨_, h3, w3⟩, ⟨_, h4, w4⟩, ⟨_, h5, w5⟩, ⟨_, h6, w6⟩, ⟨_, h7, w7⟩, ⟨_, h8, w8⟩, _⟩ =>
    subst h0 h1 h2 h3 h4 h5 h6 h7 h8
    exact ⟨rfl, w0, w1, w2, w3, w4, w5, w6, w7, w8, trivial⟩
theorem flatEvent {v : Value} (h : cksOk [.int .i64, .int .i64, .int .i64, .int .i64, .int .u32, .int .i64, .int .i64, .int .i64, .int .i64] v.cells.toList) : ∃ x : Event, v = x.v ∧ wfEvent x := by
  have hl := cksOk_length h
  cases v with
  | agg a => exact ⟨deEvent a.toList, by have := (deEvent_ok _ h).1; have h2 := congrArg List.toArray this; exact congrArg vA (h2.symm), (deEvent_ok _ h).2⟩
  | _ => simp [Value.cells] at hl
theorem few_len {l : List Event} {m : Int} (h : fewOk l m = true) : (l.length : Int) ≤ m := by unfold fewOk at h; rw [Bool.and_eq_true] at h; exact of_decide_eq_true h.2
theorem wf_event {x : Event} (h : wfEvent x) : ((-9223372036854775808 ≤ x.kind ∧ x.kind ≤ 9223372036854775807) ∧ 0 ≤ x.addr ∧ x.addr ≤ 4294967295) ∧ -9223372036854775808 ≤ x.g ∧ x.g ≤ 9223372036854775807 ∧ -9223372036854775808 ≤ x.child ∧ x.child ≤ 9223372036854775807 := by
  obtain ⟨h0, h1, -, -, h2, h3, -⟩ := h
  simp [Lit.wf, IntKind.min, IntKind.max] at h0 h1 h2 h3
  simp only [IntKind.bits, IntKind.signed] at h0 h1 h2 h3
  simp at h0 h1 h2 h3
  omega
def enEpo (x : Int) : List Value := [.int .u64 x]
theorem elt_Epo : Elt Tryz.prog 43 1 enEpo := ⟨⟨vI .u64 0, 8, by kernel_rfl, rfl, by decide⟩, by decide, fun _ => rfl, fun x u hu => List.all_eq_true.1 (show (enEpo x).all (·.oneCell') = true from rfl) u hu⟩
/-- What each event brings, by those ahead of it. -/
def perE {α : Type} (f : List Event → Event → α) (d : α) (E : List Event) : List α := (List.range E.length).map fun j => match E[j]? with
  | some x => f (E.take j) x
  | none => d
theorem perE_snoc {α : Type} {f : List Event → Event → α} {d : α} {E : List Event} {x : Event} : perE f d (E ++ [x]) = perE f d E ++ [f E x] := by
  unfold perE
  rw [List.length_append, List.length_singleton, List.range_succ, List.map_append]
  congr 1
  · refine List.map_congr_left fun j hj => ?_
    have hj := List.mem_range.1 hj
    rw [at_old hj, List.take_append_of_le_length (by omega)]
  · simp
theorem perE_at {α : Type} {f : List Event → Event → α} {d : α} {E : List Event} {j : Nat} {y : α} {x : Event} (hx : E[j]? = some x) (h : (perE f d E)[j]? = some y) : y = f (E.take j) x := by
  unfold perE at h
  rw [List.getElem?_map, List.getElem?_range (List.getElem?_eq_some_iff.1 hx).1] at h
  simp [hx] at h; exact h.symm
def epL : List Event → List Int := perE (fun E x => comeAt (stK E) x) 0
def hadL : List Event → List (List Int) := perE hadE []
theorem come_no0 {en : Int} {s s' : KSt} {a er : Int} {x : Event} (h : (s', a, er) = comeK en s x) (her : er ≠ 0) : s' = s := by
  unfold comeK at h; split at h
  · rename_i q; exact absurd (congrArg (fun z => z.2.2) h) her
  · exact congrArg Prod.fst h
theorem come_is0 {en : Int} {s s' : KSt} {a er : Int} {x : Event} (h : (s', a, er) = comeK en s x) (her : er = 0) : comeErr en s x = 0 ∧ s' = comeS s x ∧ a = comeAt s x := by
  unfold comeK at h; split at h
  · rename_i q; exact ⟨q, congrArg Prod.fst h, congrArg (fun z => z.2.1) h⟩
  · rename_i q; exact absurd ((congrArg (fun z => z.2.2) h).symm.trans her) q
theorem getC_lt {c : List Int} {g : Int} (h : getC c g ≠ 0) : g < (c.length : Int) := by
  rcases Int.lt_or_le g (c.length : Int) with q | q
  · exact q
  · exact absurd (getC_no (.inr q)) h
theorem ClkOk.gvlen {en N s G T} (h : ClkOk en N s G T) (i : Int) : (L.gv s i).length ≤ 65536 := by rw [← h.gv i]; exact (h.bd _ (nv_g _)).1
/-- All that the law asks of an event that came. -/
theorem came_facts {en : Int} {E : List Event} (h : Came en E) {x : Event} (hx : comeErr en (stK E) x = 0) : EvOk x ∧ getC (gv (stK E) x.g) x.g = rels E x.g + 1 ∧ comeAt (stK E) x = x.g * 281474976710656 + (rels E x.g + 1) ∧ x.g < ((gv (comeS (stK E) x) x.g).length : Int) ∧ 0 ≤ rels E x.g ∧ rels E x.g ≤ E.length := by
  obtain ⟨h1, h2, _, _⟩ := comeErr_0 hx
  obtain ⟨o1, o2⟩ := h.inv.own h2
  have hg : 0 ≤ x.g := by unfold EvOk at h1; omega
  refine ⟨h1, o2, by unfold comeAt; rw [o1], getC_lt ?_, rels_nn _ _, rels_le _ _⟩
  have := rels_nn E x.g
  rw [gv_come]
  split
  · rw [getC_tick _ hg, if_pos rfl, o1]; omega
  · rw [o1]; omega
theorem law_pair {en : Int} {E : List Event} (h : Came en E) (hl : E.length ≤ 4096) {i j : Nat} {a b : Event} (hij : i < j) (ha : E[i]? = some a) (hb : E[j]? = some b) (hg : a.g ≠ b.g) {p : Int} {c : List Int} (hp : (epL E)[i]? = some p) (hc : (hadL E)[j]? = some c) : befE E (i : Int) (j : Int) = decide (p % 281474976710656 ≤ getC c (p / 281474976710656)) := by
  have e1 := perE_at ha hp
  have e2 := perE_at hb hc
  obtain ⟨q1, q2⟩ := h.get ha
  obtain ⟨r1, _, r3, _, r5, r6⟩ := came_facts q1 q2
  rw [List.length_take] at r6
  have r1' : 0 ≤ a.g ∧ a.g ≤ 65535 := by unfold EvOk at r1; omega
  rw [r3] at e1
  have w1 : p % 281474976710656 = rels (E.take i) a.g + 1 := by omega
  have w2 : p / 281474976710656 = a.g := by omega
  rw [w1, w2, e2, Bool.eq_iff_iff, bef_iff h.ok hij (List.getElem?_eq_some_iff.1 hb).1, h.had hij ha hb hg, decide_eq_true_eq]; rfl
theorem ep_rng {en : Int} {E : List Event} (h : Came en E) (hl : E.length ≤ 4096) {i : Nat} {a : Event} (ha : E[i]? = some a) {p : Int} (hp : (epL E)[i]? = some p) : 0 ≤ p ∧ p ≤ 18446744073709551615 := by
  have e1 := perE_at ha hp
  obtain ⟨q1, q2⟩ := h.get ha
  obtain ⟨r1, _, r3, _, r5, r6⟩ := came_facts q1 q2
  rw [List.length_take] at r6
  have r1' : 0 ≤ a.g ∧ a.g ≤ 65535 := by unfold EvOk at r1; omega
  rw [r3] at e1; omega
theorem map_at {D : List SV} {L : List (List Int)} (h : D.map SV.l = L) {j : Nat} {y : SV} (hy : D[j]? = some y) : L[j]? = some y.l := by rw [← h, List.getElem?_map, hy]; rfl
set_option maxRecDepth 100000 in
theorem e_r16rel (x : Event) (w : World)  : Calls Tryz.prog 13 #[x.v] w (fun e w' => e = .returned (vB (evRel x)) ∧ Fr No w w') := by
 refine enter_E 29 Tryz.func13 rfl rfl (by kernel_rfl) (L := [(0, x.v)]) (by kernel_rfl) ?_
 intro ac hA
 have hW := Ws.start w No
 refine wr <| st_s hA (Runs.cells (fun b => pA b 0) #[vI .i64 x.g, vI .i64 x.kind, vI .i64 x.site.f, vI .i64 x.site.pc, vI .u32 x.addr, vI .i64 x.child, vI .i64 x.obj, vI .i64 x.n, vI .i64 x.trap] 42 (fun _ => by kernel_rfl) hW ?_); clear hA ac hW; intro b1 w2 hW hb1 hfw2 ac hA
 refine st_p (vB false) hA ?_; clear hA ac; intro ac hA
 refine wn <| wr <| st_p (pA b1 1) hA fun ac hA => st_q (vI .i64 x.kind) hA hW.cls (rl b1 1 0) fun ac hA => st_p (vI .i64 x.kind) hA fun ac hA => wn <| wr <| st_p (vI .i64 x.kind) hA fun ac hA => st_p (vB ((x.kind : Int) == (4 : Int))) hA fun ac hA => st_p (vB ((x.kind : Int) == (4 : Int))) hA fun ac hA => ?_
 rcases Bool.eq_false_or_eq_true ((x.kind : Int) == (4 : Int)) with h3 | h3
 ·
  rw [h3] at hA
  have h3 := eq_of_beq h3
  first
  | (exfalso; clear hA hW; omega)
  | (
   refine st_k hA fun ac hA => st_k hA fun ac hA => st_p (vB true) hA fun ac hA => st_p (vB true) hA fun ac hA => st_k hA fun ac hA => st_k hA fun ac hA => st_p (vB true) hA fun ac hA => st_p (vB true) hA fun ac hA => st_k hA fun ac hA => st_k hA fun ac hA => st_p (vB true) hA fun ac hA => st_p (vB true) hA fun ac hA => st_k hA fun ac hA => st_k hA fun ac hA => st_k hA fun ac hA => st_k hA fun ac hA => st_k hA fun ac hA => st_k hA fun ac hA => st_k hA fun ac hA => st_p (vB true) hA fun ac hA => st_p (vB true) hA fun ac hA => wn <| wp_ret <| r1 (vB true) hA ?_
   clear hA
   exact ⟨retv (congrArg vB (decide_eq_true (by unfold EvRel; omega)).symm), hW.fr⟩)
 rw [h3] at hA
 have h3 := ne_of_beq_false h3
 first
 | (exfalso; clear hA hW; omega)
 | (
  refine st_p (vI .i64 x.kind) hA fun ac hA => st_p (vB ((x.kind : Int) == (6 : Int))) hA fun ac hA => st_p (vB ((x.kind : Int) == (6 : Int))) hA fun ac hA => st_p (vB ((x.kind : Int) == (6 : Int))) hA fun ac hA => ?_
  rcases Bool.eq_false_or_eq_true ((x.kind : Int) == (6 : Int)) with h4 | h4
  ·
   rw [h4] at hA
   have h4 := eq_of_beq h4
   first
   | (exfalso; clear hA hW; omega)
   | (
    refine st_k hA fun ac hA => st_k hA fun ac hA => st_p (vB true) hA fun ac hA => st_p (vB true) hA fun ac hA => st_k hA fun ac hA => st_k hA fun ac hA => st_p (vB true) hA fun ac hA => st_p (vB true) hA fun ac hA => st_k hA fun ac hA => st_k hA fun ac hA => st_k hA fun ac hA => st_k hA fun ac hA => st_k hA fun ac hA => st_k hA fun ac hA => st_k hA fun ac hA => st_p (vB true) hA fun ac hA => st_p (vB true) hA fun ac hA => wn <| wp_ret <| r1 (vB true) hA ?_
    clear hA
    exact ⟨retv (congrArg vB (decide_eq_true (by unfold EvRel; omega)).symm), hW.fr⟩)
  rw [h4] at hA
  have h4 := ne_of_beq_false h4
  first
  | (exfalso; clear hA hW; omega)
  | (
   refine st_p (vI .i64 x.kind) hA fun ac hA => st_p (vB ((x.kind : Int) == (8 : Int))) hA fun ac hA => st_p (vB ((x.kind : Int) == (8 : Int))) hA fun ac hA => st_p (vB ((x.kind : Int) == (8 : Int))) hA fun ac hA => ?_
   rcases Bool.eq_false_or_eq_true ((x.kind : Int) == (8 : Int)) with h5 | h5
   ·
    rw [h5] at hA
    have h5 := eq_of_beq h5
    first
    | (exfalso; clear hA hW; omega)
    | (
     refine st_k hA fun ac hA => st_k hA fun ac hA => st_p (vB true) hA fun ac hA => st_p (vB true) hA fun ac hA => st_k hA fun ac hA => st_k hA fun ac hA => st_k hA fun ac hA => st_k hA fun ac hA => st_k hA fun ac hA => st_k hA fun ac hA => st_k hA fun ac hA => st_p (vB true) hA fun ac hA => st_p (vB true) hA fun ac hA => wn <| wp_ret <| r1 (vB true) hA ?_
     clear hA
     exact ⟨retv (congrArg vB (decide_eq_true (by unfold EvRel; omega)).symm), hW.fr⟩)
   rw [h5] at hA
   have h5 := ne_of_beq_false h5
   first
   | (exfalso; clear hA hW; omega)
   | (
    refine st_p (vI .i64 x.kind) hA fun ac hA => st_p (vB ((x.kind : Int) == (10 : Int))) hA fun ac hA => st_p (vB ((x.kind : Int) == (10 : Int))) hA fun ac hA => st_p (vB ((x.kind : Int) == (10 : Int))) hA fun ac hA => ?_
    rcases Bool.eq_false_or_eq_true ((x.kind : Int) == (10 : Int)) with h6 | h6
    ·
     rw [h6] at hA
     have h6 := eq_of_beq h6
     first
     | (exfalso; clear hA hW; omega)
     | (
      refine st_k hA fun ac hA => st_k hA fun ac hA => st_k hA fun ac hA => st_k hA fun ac hA => st_k hA fun ac hA => st_k hA fun ac hA => st_k hA fun ac hA => st_p (vB true) hA fun ac hA => st_p (vB true) hA fun ac hA => wn <| wp_ret <| r1 (vB true) hA ?_
      clear hA
      exact ⟨retv (congrArg vB (decide_eq_true (by unfold EvRel; omega)).symm), hW.fr⟩)
    rw [h6] at hA
    have h6 := ne_of_beq_false h6
    first
    | (exfalso; clear hA hW; omega)
    | (
     refine st_p (vI .i64 x.kind) hA fun ac hA => st_p (vB ((x.kind : Int) == (11 : Int))) hA fun ac hA => st_p (vB ((x.kind : Int) == (11 : Int))) hA fun ac hA => ?_
     rcases Bool.eq_false_or_eq_true ((x.kind : Int) == (11 : Int)) with h7 | h7
     ·
      rw [h7] at hA
      have h7 := eq_of_beq h7
      first
      | (exfalso; clear hA hW; omega)
      | (
       refine st_p (pA b1 7) hA fun ac hA => st_q (vI .i64 x.n) hA hW.cls (rl b1 7 0) fun ac hA => st_p (vB (decide ((x.n : Int) < (0 : Int)))) hA fun ac hA => st_p (vB (decide ((x.n : Int) < (0 : Int)))) hA fun ac hA => st_p (vB (decide ((x.n : Int) < (0 : Int)))) hA fun ac hA => st_p (vB (decide ((x.n : Int) < (0 : Int)))) hA fun ac hA => wn <| wp_ret <| r1 (vB (decide ((x.n : Int) < (0 : Int)))) hA ?_
       clear hA
       refine ⟨retv (congrArg vB ?_), hW.fr⟩
       rcases Bool.eq_false_or_eq_true (decide ((x.n : Int) < (0 : Int))) with q_ | q_
       · rw [q_]
         have q_ := of_decide_eq_true q_
         exact (decide_eq_true (by unfold EvRel; omega)).symm
       · rw [q_]
         have q_ := of_decide_eq_false q_
         exact (decide_eq_false (by unfold EvRel; omega)).symm)
     rw [h7] at hA
     have h7 := ne_of_beq_false h7
     first
     | (exfalso; clear hA hW; omega)
     | (
      refine st_k hA fun ac hA => st_k hA fun ac hA => st_k hA fun ac hA => st_p (vB false) hA fun ac hA => st_p (vB false) hA fun ac hA => st_p (vB false) hA fun ac hA => wn <| wp_ret <| r1 (vB false) hA ?_
      clear hA
      exact ⟨retv (congrArg vB (decide_eq_false (by unfold EvRel; omega)).symm), hW.fr⟩)))))

set_option maxHeartbeats 4000000 in
set_option maxRecDepth 100000 in
theorem e_clocksHolds (A_l : Option Addr) (c_l : Nat) (l : List Event) (w : World) (hr_l : RowAt w A_l 9 enEvent l) (hc_l : l.length ≤ c_l) (hl : l.length ≤ 9223372036854775807) (hel : ∀ x ∈ l, ((-9223372036854775808 ≤ x.kind ∧ x.kind ≤ 9223372036854775807) ∧ 0 ≤ x.addr ∧ x.addr ≤ 4294967295) ∧ -9223372036854775808 ≤ x.g ∧ x.g ≤ 9223372036854775807 ∧ -9223372036854775808 ≤ x.child ∧ x.child ≤ 9223372036854775807) : Calls Tryz.prog 3 #[vS A_l l.length c_l] w (fun e w' => e = .returned (vB true) ∧ Fr No w w') := by
 have _hu := hc_l; have _hv := hr_l; clear _hu _hv
 have _hu := hl; clear _hu
 have _hu := hel; clear _hu
 refine enter_E 186 Tryz.func3 rfl rfl (by kernel_rfl) (L := [(0, vS A_l l.length c_l)]) (by kernel_rfl) ?_
 intro ac hA
 have hW := Ws.start w No
 have hW := hW.arg hr_l
 refine wr <| st_p (vB false) hA ?_; clear hA ac; intro ac hA
 refine wn <| wp_seq <| wr <| st_p (vS A_l l.length c_l) hA ?_; clear hA ac; intro ac hA
 refine st_s hA (Runs.callN (v := vB (fewOk l (40))) (fun _ => by kernel_rfl) hW (e_lfew A_l c_l l (40) w ((hW).getG 0 rfl) (by first | assumption | omega | (simp; omega) | simp) hl (fun x hx => (hel x hx).1) (by decide) (by decide)) ?_); clear hA ac hW; intro w1 hW hfw1 ac hA
 refine st_p (vB (!(fewOk l (40)))) hA ?_; clear hA ac; intro ac hA
 refine wn <| wp_cond_split (t := !(fewOk l (40))) (hA.eval (by kernel_rfl)) (fun h2 => ?_) (fun h2 => ?_)
 ·
  have h2 := not_t h2
  first
  | (exfalso; clear hA hW; omega)
  | (
   refine wr <| st_s hA (Runs.callN (v := vB true) (fun _ => by kernel_rfl) hW (e_works w1) ?_); clear hA ac hW; intro w3 hW hfw3 ac hA
   refine st_p (vB true) hA ?_; clear hA ac; intro ac hA
   refine wn <| wp_ret <| thenR <| r1 (vB true) hA ?_
   clear hA
   exact ⟨retv (by rfl), hW.fr⟩)
 have h2 := not_f h2
 first
 | (exfalso; clear hA hW; omega)
 | (
  refine wp_skip <| thenN <| wp_seq ?_
  have hfl_ := few_len (show fewOk l 40 = true from h2)
  refine wp_region_lit <| st_s hA (Runs.call (fun _ => by kernel_rfl) (e_knew (1000) w1 (by first | omega | decide | assumption | exact ⟨by omega, by omega⟩ | exact hyr_.1.2 | exact hyr_.2 | exact hown_ | exact hC.ok | exact (hel _ (List.mem_of_getElem? (by assumption))).1)) ?_)
  rintro _ w4 ⟨n5, n6, n7, n8, n9, rfl, hw4_hK, hu_⟩; refine ⟨_, rfl, ?_⟩; replace hW := hW.made hu_; clear hA ac; intro ac hA
  refine st_p (vT #[pA n5 0, vI .i64 0]) hA fun ac hA => st_p (pA n5 0) hA fun ac hA => st_p (vI .i64 0) hA fun ac hA => st_p (pA n5 0) hA fun ac hA => st_p (vI .i64 0) hA fun ac hA => wn <| wp_seq <| wr <| st_p (vI .i64 0) hA ?_; clear hA ac; intro ac hA
  refine st_s hA (Runs.callN (v := vI .i64 (0)) (fun _ => by kernel_rfl) hW (e_num (0) w4) ?_); clear hA ac hW; intro w10 hW hfw10 ac hA
  refine st_p (vB (((0) : Int) != (0 : Int))) hA ?_; clear hA ac; intro ac hA
  refine wn <| wp_cond_split (t := ((0) : Int) != (0 : Int)) (hA.eval (by kernel_rfl)) (fun h11 => ?_) (fun h11 => ?_)
  ·
   have h11 := bne_iff_ne.1 h11
   first
   | (exfalso; clear hA hW; omega)
   | (
    refine wr <| st_p (vB false) hA ?_; clear hA ac; intro ac hA
    refine wn <| wp_ret <| thenR <| r1 (vB false) hA ?_
    clear hA
    exact ⟨retv (by rfl), hW.fr⟩)
  have h11 := of_bne_f h11
  first
  | (exfalso; clear hA hW; omega)
  | (
   refine wp_skip <| thenN <| wr <| st_p (vS none 0 0) hA ?_; clear hA ac; intro ac hA
   refine wn <| wr <| st_p (vS none 0 0) hA ?_; clear hA ac; intro ac hA
   refine wn <| wr <| st_p (vS none 0 0) hA ?_; clear hA ac; intro ac hA
   refine wn <| wp_seq <| wr <| st_p (vI .i64 0) hA ?_; clear hA ac; intro ac hA
   refine wn <| wp_block ?_
   have hok0_ := hw4_hK
   have hW := hW.addNil 42 9 enEvent
   have hW := hW.addNil 43 1 enEpo
   have hW := hW.addNil 34 1 enSV
   have hW := hW.nestNil innerSV
   have hknq12 : ∀ x_ ∈ ([] : List SV), capSV x_ := all_nil
   refine wp_loop_m (fun m_ ac_ wl_ => ∃ i : Nat, ∃ E : List Event, ∃ Ac : Option Addr, ∃ cc : Nat, ∃ P : List Int, ∃ Ap : Option Addr, ∃ cp : Nat, ∃ D : List SV, ∃ Ad : Option Addr, ∃ cd : Nat, ∃ G : List (Int × SV), ∃ T : List (Thing × SV), m_ = l.length - i ∧ (i ≤ l.length) ∧ (Came 1000 E) ∧ (ClkOk 1000 i (stK E) G T) ∧ (P = epL E) ∧ (D.map SV.l = hadL E) ∧ (E.length ≤ i) ∧ (E.length ≤ cc) ∧ (P.length ≤ cp) ∧ (D.length ≤ cd) ∧ (∀ x_ ∈ D, capSV x_) ∧ (∀ x ∈ E, (-9223372036854775808 ≤ x.kind ∧ x.kind ≤ 9223372036854775807) ∧ 0 ≤ x.addr ∧ x.addr ≤ 4294967295) ∧ (∀ x ∈ D, x.l.length ≤ 65536) ∧ Fm 186 [] [(0, vS A_l l.length c_l), (3, pA n5 0), (4, vI .i64 0), (5, vS Ac E.length cc), (6, vS Ap P.length cp), (7, vS Ad D.length cd), (8, vI .i64 (i : Int))] ac_ ∧ Ws w No [rowR 34 1 enSV (vS Ad D.length cd) D, rowR 43 1 enEpo (vS Ap P.length cp) P, rowR 42 9 enEvent (vS Ac E.length cc) E, ClkR n5 n6 G n8 T 1000 (stK E) i] [nestR innerSV D, roR A_l 9 enEvent l] wl_) _ ⟨0, ([] : List Event), none, 0, ([] : List Int), none, 0, ([] : List SV), none, 0, n7, n9, rfl, by omega, by exact .nil, by exact hok0_, by rfl, by rfl, by simp, by simp, by simp, by simp, by exact all_nil, by simp, by simp, hA.sub (by and_intros <;> first | kernel_rfl | trivial), (hW.pick [0, 1, 2, 3] (by decide) rfl).pickG [0, 1] rfl⟩ ?_
   clear hA ac hW; rintro m_ ac w13 ⟨i, E, Ac, cc, P, Ap, cp, D, Ad, cd, G, T, rfl, hi, hC, hok, hP, hD, hEl, hcc_, hcp_, hcd_, hkD, hEa, hDl, hA, hW⟩
   refine wp_seq <| wr <| st_p (vI .i64 (i : Int)) hA fun ac hA => st_p (vS A_l l.length c_l) hA fun ac hA => st_p (vI .i64 (l.length : Int)) hA fun ac hA => st_p (vB (decide ((i : Int) < (l.length : Int)))) hA fun ac hA => wn <| wp_cond_split (t := decide ((i : Int) < (l.length : Int))) (hA.eval (by kernel_rfl)) (fun h14 => ?_) (fun h14 => ?_)
   ·
    have h14 := of_decide_eq_true h14
    first
    | (exfalso; clear hA hW; omega)
    | (
     refine wp_skip <| thenN <| wp_seq <| wp_block <| wp_seq ?_
     obtain ⟨y15, hy15⟩ : ∃ y, l[i]? = some y := ⟨_, List.getElem?_eq_getElem (by omega)⟩
     obtain ⟨b16, o17, rfl, hbb16⟩ := row_some ((hW).getG 1 rfl) hy15
     have hyr_ := hel _ (List.mem_of_getElem? hy15); have hgl_ := hok.gvlen y15.g
     refine wp_region_lit <| st_p (pA n5 0) hA fun ac hA => st_p (vS (some ⟨b16, o17, none⟩) l.length c_l) hA fun ac hA => st_p (vI .i64 (i : Int)) hA fun ac hA => st_q (vP (some ⟨b16, o17 + i * 9, none⟩)) hA hW.cls (Rd.indexAddr (e := 42) (sz := 9) (b := b16) (off := o17) (n := l.length) (c := c_l) (k := i) (by kernel_rfl) (by kernel_rfl) (by first | omega | (simp; done) | (simp; omega)) (fun _ => by kernel_rfl) (fun _ => by kernel_rfl)) fun ac hA => st_p (vP (some ⟨b16, o17 + i * 9, none⟩)) hA fun ac hA => st_q (vI .i64 y15.g) hA hW.cls (Rd.loadRow (b := b16) (i := o17 + i * 9) (xs := [vI .i64 y15.g]) (by kernel_rfl) (fun _ hw => row_ld ((hw.1).getG 1 rfl) hy15 (Fr.refl No _) (fun h => h) 0 1 (by kernel_rfl)) (by kernel_rfl)) fun ac hA => st_s hA (Runs.callRow (E := 29) (sz := 1) (en := enU8) (l := (gv (stK E) (y15.g))) (fun _ => by kernel_rfl) hW (e_kof n5 n6 G n8 T 1000 (stK E) i (y15.g) w13 ((hW).get 3 rfl) ((hW).lt _ (List.mem_of_getElem? (i := 3) rfl)) (by first | omega | decide | assumption | exact ⟨by omega, by omega⟩ | exact hyr_.1.2 | exact hyr_.2 | exact hown_ | exact hC.ok | exact (hel _ (List.mem_of_getElem? (by assumption))).1) (by first | omega | decide | assumption | exact ⟨by omega, by omega⟩ | exact hyr_.1.2 | exact hyr_.2 | exact hown_ | exact hC.ok | exact (hel _ (List.mem_of_getElem? (by assumption))).1)) ?_); clear hA ac hW; intro A19 c20 w18 hW hcc20 hfw18 ac hA
     refine st_p (vS A19 (gv (stK E) (y15.g)).length c20) hA ?_; clear hA ac; intro ac hA
     refine wn <| wp_seq ?_
     have hown_ : (stK E).g y15.g ≠ none → getC (kacc (stK E) y15) y15.g = getC (gv (stK E) y15.g) y15.g := fun h_ => (hC.inv.own h_).1.trans (hC.inv.own h_).2.symm
     refine wp_region_lit <| st_p (pA n5 0) hA fun ac hA => st_p (vS (some ⟨b16, o17, none⟩) l.length c_l) hA fun ac hA => st_p (vI .i64 (i : Int)) hA fun ac hA => st_q (vP (some ⟨b16, o17 + i * 9, none⟩)) hA hW.cls (Rd.indexAddr (e := 42) (sz := 9) (b := b16) (off := o17) (n := l.length) (c := c_l) (k := i) (by kernel_rfl) (by kernel_rfl) (by first | omega | (simp; done) | (simp; omega)) (fun _ => by kernel_rfl) (fun _ => by kernel_rfl)) fun ac hA => st_q (vA #[vI .i64 y15.g, vI .i64 y15.kind, vI .i64 y15.site.f, vI .i64 y15.site.pc, vI .u32 y15.addr, vI .i64 y15.child, vI .i64 y15.obj, vI .i64 y15.n, vI .i64 y15.trap]) hA hW.cls (Rd.loadRow (b := b16) (i := o17 + i * 9) (xs := [vI .i64 y15.g, vI .i64 y15.kind, vI .i64 y15.site.f, vI .i64 y15.site.pc, vI .u32 y15.addr, vI .i64 y15.child, vI .i64 y15.obj, vI .i64 y15.n, vI .i64 y15.trap]) (by kernel_rfl) (fun _ hw => row_ld ((hw.1).getG 1 rfl) hy15 (Fr.refl No _) (fun h => h) 0 9 (by kernel_rfl)) (by kernel_rfl)) fun ac hA => st_s hA (Runs.call (fun _ => by kernel_rfl) (e_kcome n5 n6 G n8 T 1000 (stK E) i y15 w18 ((hW).get 4 rfl) ((hW).lt _ (List.mem_of_getElem? (i := 4) rfl)) (by first | omega | decide | assumption | exact ⟨by omega, by omega⟩ | exact hyr_.1.2 | exact hyr_.2 | exact hown_ | exact hC.ok | exact (hel _ (List.mem_of_getElem? (by assumption))).1) (by first | omega | decide | assumption | exact ⟨by omega, by omega⟩ | exact hyr_.1.2 | exact hyr_.2 | exact hown_ | exact hC.ok | exact (hel _ (List.mem_of_getElem? (by assumption))).1) (by first | omega | decide | assumption | exact ⟨by omega, by omega⟩ | exact hyr_.1.2 | exact hyr_.2 | exact hown_ | exact hC.ok | exact (hel _ (List.mem_of_getElem? (by assumption))).1) (by first | omega | decide | assumption | exact ⟨by omega, by omega⟩ | exact hyr_.1.2 | exact hyr_.2 | exact hown_ | exact hC.ok | exact (hel _ (List.mem_of_getElem? (by assumption))).1) (by first | omega | decide | assumption | exact ⟨by omega, by omega⟩ | exact hyr_.1.2 | exact hyr_.2 | exact hown_ | exact hC.ok | exact (hel _ (List.mem_of_getElem? (by assumption))).1)) ?_)
     rintro _ w22 ⟨u23, u24, u25, u26, u27, rfl, hw22_hE, hw22_hK, hu_⟩; refine ⟨_, rfl, ?_⟩; replace hW := hW.upd (H' := [rowR 29 1 enU8 (vS A19 (gv (stK E) (y15.g)).length c20) (gv (stK E) (y15.g)), rowR 34 1 enSV (vS Ad D.length cd) D, rowR 43 1 enEpo (vS Ap P.length cp) P, rowR 42 9 enEvent (vS Ac E.length cc) E, ClkR n5 n6 u26 n8 u27 1000 u23 (i + 1)]) 4 rfl hu_ rfl; clear hA ac; intro ac hA
     refine st_p (vT #[vI .u64 u24, vI .i64 u25]) hA fun ac hA => st_p (vI .u64 u24) hA fun ac hA => st_p (vI .i64 u25) hA fun ac hA => st_p (vI .u64 u24) hA fun ac hA => st_p (vI .i64 u25) hA fun ac hA => wn <| wp_seq <| wr <| st_p (vI .i64 u25) hA ?_; clear hA ac; intro ac hA
     refine st_s hA (Runs.callN (v := vI .i64 (u25)) (fun _ => by kernel_rfl) hW (e_num (u25) w22) ?_); clear hA ac hW; intro w28 hW hfw28 ac hA
     refine st_p (vB (((u25) : Int) != (0 : Int))) hA ?_; clear hA ac; intro ac hA
     refine wn <| wp_cond_split (t := ((u25) : Int) != (0 : Int)) (hA.eval (by kernel_rfl)) (fun h29 => ?_) (fun h29 => ?_)
     ·
      have h29 := bne_iff_ne.1 h29
      first
      | (exfalso; clear hA hW; omega)
      | (
       refine wp_exit <| thenX <| blkX <| thenN ?_
       have hs2_ := come_no0 hw22_hE h29; subst hs2_
       replace hW : Ws w No [rowR 29 1 enU8 (vS A19 (gv (stK E) (y15.g)).length c20) (gv (stK E) (y15.g)), rowR 34 1 enSV (vS Ad D.length cd) D, rowR 43 1 enEpo (vS Ap P.length cp) P, rowR 42 9 enEvent (vS Ac E.length cc) E, ClkR n5 n6 u26 n8 u27 1000 (stK E) (i + 1)] [nestR innerSV D, roR (some ⟨b16, o17, none⟩) 9 enEvent l] w28 := hW
       refine wp_region_lit <| st_p (vI .i64 (i : Int)) hA fun ac hA => st_q (vI .i64 ((i + 1 : Nat) : Int)) hA hW.cls (Rd.pureE (v0 := vI .i64 (IntKind.i64.wrap ((i : Int) + 1))) (fun _ => by kernel_rfl) (congrArg (vI .i64) ((w_i64 (x := (i : Int) + 1) (by omega) (by omega)).trans (by omega)))) fun ac hA => st_p (vI .i64 ((i + 1 : Nat) : Int)) hA fun ac hA => wn ?_
       exact ⟨l.length - (i + 1), by omega, i + 1, E, Ac, cc, P, Ap, cp, D, Ad, cd, u26, u27, rfl, by omega, by exact hC, by exact hw22_hK, by exact hP, by exact hD, by omega, by exact hcc_, by exact hcp_, by exact hcd_, by exact hkD, by exact hEa, by exact hDl, hA.sub (by and_intros <;> first | kernel_rfl | trivial), (hW.pick [1, 2, 3, 4] (by decide) rfl).pickG [0, 1] rfl⟩)
     have h29 := of_bne_f h29
     first
     | (exfalso; clear hA hW; omega)
     | (
      refine wp_skip <| thenN <| wp_seq ?_
      obtain ⟨hz_, hs2_, ha2_⟩ := come_is0 hw22_hE h29; have hs3_ := hs2_.trans (stK_snoc E y15).symm; subst hs3_ ha2_; clear hs2_; have hC2_ := hC.snoc hz_; obtain ⟨hyo_, hg1_, hat_, hln_, hr0_, hr1_⟩ := came_facts hC hz_
      rw [← stK_snoc] at hln_; have hyo2_ : 0 ≤ y15.g ∧ y15.g ≤ 65535 := by unfold EvOk at hyo_; omega
      have hok2_ := hw22_hK; have hgl2_ := hok2_.gvlen y15.g; replace hW : Ws w No [rowR 29 1 enU8 (vS A19 (gv (stK E) (y15.g)).length c20) (gv (stK E) (y15.g)), rowR 34 1 enSV (vS Ad D.length cd) D, rowR 43 1 enEpo (vS Ap P.length cp) P, rowR 42 9 enEvent (vS Ac E.length cc) E, ClkR n5 n6 u26 n8 u27 1000 (stK (E ++ [y15])) (i + 1)] [nestR innerSV D, roR (some ⟨b16, o17, none⟩) 9 enEvent l] w28 := hW
      refine wp_region_lit <| st_p (vI .u64 1) hA ?_; clear hA ac; intro ac hA
      refine wn <| wp_seq <| wr <| st_p (vI .i64 0) hA ?_; clear hA ac; intro ac hA
      refine wn <| wp_block <| wp_loop_m (fun m_ ac_ wl_ => ∃ k : Nat, ∃ r : Int, m_ = E.length - k ∧ (k ≤ E.length) ∧ (r = rels (E.take k) y15.g + 1) ∧ Fm 186 [] [(0, vS (some ⟨b16, o17, none⟩) l.length c_l), (3, pA n5 0), (4, vI .i64 0), (5, vS Ac E.length cc), (6, vS Ap P.length cp), (7, vS Ad D.length cd), (8, vI .i64 (i : Int)), (9, vS A19 (gv (stK E) (y15.g)).length c20), (10, vI .u64 (comeAt (stK E) y15)), (11, vI .i64 u25), (12, vI .u64 r), (13, vI .i64 (k : Int))] ac_ ∧ Ws w No [rowR 29 1 enU8 (vS A19 (gv (stK E) (y15.g)).length c20) (gv (stK E) (y15.g)), rowR 34 1 enSV (vS Ad D.length cd) D, rowR 43 1 enEpo (vS Ap P.length cp) P, rowR 42 9 enEvent (vS Ac E.length cc) E, ClkR n5 n6 u26 n8 u27 1000 (stK (E ++ [y15])) (i + 1)] [nestR innerSV D, roR (some ⟨b16, o17, none⟩) 9 enEvent l] wl_) _ ⟨0, 1, rfl, by omega, by rw [List.take_zero]; rfl, hA.sub (by and_intros <;> first | kernel_rfl | trivial), (hW.pick [0, 1, 2, 3, 4] (by decide) rfl).pickG [0, 1] rfl⟩ ?_
      clear hA ac hW; rintro m_ ac w30 ⟨k, r, rfl, hk, hr, hA, hW⟩
      have hrb_ := rels_le (E.take k) y15.g; rw [List.length_take] at hrb_; have hrn_ := rels_nn (E.take k) y15.g
      refine wp_seq <| wr <| st_p (vI .i64 (k : Int)) hA fun ac hA => st_p (vS Ac E.length cc) hA fun ac hA => st_p (vI .i64 (E.length : Int)) hA fun ac hA => st_p (vB (decide ((k : Int) < (E.length : Int)))) hA fun ac hA => wn <| wp_cond_split (t := decide ((k : Int) < (E.length : Int))) (hA.eval (by kernel_rfl)) (fun h31 => ?_) (fun h31 => ?_)
      ·
       have h31 := of_decide_eq_true h31
       first
       | (exfalso; clear hA hW; omega)
       | (
        refine wp_skip <| thenN <| wp_seq <| wp_block <| wp_seq <| q_region (by kernel_rfl) (by kernel_rfl) hW <| sq_p (vS Ac E.length cc) hA fun ac hA => sq_p (vI .i64 (k : Int)) hA fun ac hA => ?_
        obtain ⟨y32, hy32⟩ : ∃ y, E[k]? = some y := ⟨_, List.getElem?_eq_getElem (by first | omega | (simp; done) | (simp; omega))⟩
        obtain ⟨b33, o34, rfl, hbb33⟩ := row_some (rowR_at ((hW).get 3 rfl) elt_Event.len) hy32
        refine sq_q (vP (some ⟨b33, o34 + k * 9, none⟩)) hA (Rd.indexAddr (e := 42) (sz := 9) (b := b33) (off := o34) (n := E.length) (c := cc) (k := k) (by kernel_rfl) (by kernel_rfl) (by first | omega | (simp; done) | (simp; omega)) (fun _ => by kernel_rfl) (fun _ => by kernel_rfl)) fun ac hA => sq_p (vP (some ⟨b33, o34 + k * 9, none⟩)) hA fun ac hA => sq_q (vI .i64 y32.g) hA (Rd.loadRow (b := b33) (i := o34 + k * 9) (xs := [vI .i64 y32.g]) (by kernel_rfl) (fun _ hw => row_ld (rowR_at ((hw.1).get 3 rfl) elt_Event.len) hy32 (Fr.refl No _) (fun h => h) 0 1 (by kernel_rfl)) (by kernel_rfl)) fun ac hA => sq_p (vS (some ⟨b16, o17, none⟩) l.length c_l) hA fun ac hA => sq_p (vI .i64 (i : Int)) hA fun ac hA => sq_q (vP (some ⟨b16, o17 + i * 9, none⟩)) hA (Rd.indexAddr (e := 42) (sz := 9) (b := b16) (off := o17) (n := l.length) (c := c_l) (k := i) (by kernel_rfl) (by kernel_rfl) (by first | omega | (simp; done) | (simp; omega)) (fun _ => by kernel_rfl) (fun _ => by kernel_rfl)) fun ac hA => sq_p (vP (some ⟨b16, o17 + i * 9, none⟩)) hA fun ac hA => sq_q (vI .i64 y15.g) hA (Rd.loadRow (b := b16) (i := o17 + i * 9) (xs := [vI .i64 y15.g]) (by kernel_rfl) (fun _ hw => row_ld ((hw.1).getG 1 rfl) hy15 (Fr.refl No _) (fun h => h) 0 1 (by kernel_rfl)) (by kernel_rfl)) fun ac hA => sq_p (vB ((y32.g : Int) == (y15.g : Int))) hA fun ac hA => sq_p (vB ((y32.g : Int) == (y15.g : Int))) hA fun ac hA => ?_
        rcases Bool.eq_false_or_eq_true ((y32.g : Int) == (y15.g : Int)) with h35 | h35
        ·
         rw [h35] at hA
         have h35 := eq_of_beq h35
         first
         | (exfalso; clear hA hW; omega)
         | (
          refine sq_p (vS (some ⟨b33, o34, none⟩) E.length cc) hA fun ac hA => sq_p (vI .i64 (k : Int)) hA fun ac hA => sq_q (vP (some ⟨b33, o34 + k * 9, none⟩)) hA (Rd.indexAddr (e := 42) (sz := 9) (b := b33) (off := o34) (n := E.length) (c := cc) (k := k) (by kernel_rfl) (by kernel_rfl) (by first | omega | (simp; done) | (simp; omega)) (fun _ => by kernel_rfl) (fun _ => by kernel_rfl)) fun ac hA => sq_q (vA #[vI .i64 y32.g, vI .i64 y32.kind, vI .i64 y32.site.f, vI .i64 y32.site.pc, vI .u32 y32.addr, vI .i64 y32.child, vI .i64 y32.obj, vI .i64 y32.n, vI .i64 y32.trap]) hA (Rd.loadRow (b := b33) (i := o34 + k * 9) (xs := [vI .i64 y32.g, vI .i64 y32.kind, vI .i64 y32.site.f, vI .i64 y32.site.pc, vI .u32 y32.addr, vI .i64 y32.child, vI .i64 y32.obj, vI .i64 y32.n, vI .i64 y32.trap]) (by kernel_rfl) (fun _ hw => row_ld (rowR_at ((hw.1).get 3 rfl) elt_Event.len) hy32 (Fr.refl No _) (fun h => h) 0 9 (by kernel_rfl)) (by kernel_rfl)) fun ac hA => sq_call (v := vB (evRel y32)) hA (by kernel_rfl) (by kernel_rfl) (by kernel_rfl) (fun _ => by kernel_rfl) (Cls.callNC fun wx hwx => e_r16rel y32 wx) ?_; clear hA ac; intro ac hA
          refine sq_p (vB (evRel y32)) hA ?_; clear hA ac; intro ac hA
          refine sq_nil ?_; intro w36 hww36; have hW := hww36.1; have hfw36 := hww36.2; clear hww36
          refine thenN <| wp_cond_split (t := evRel y32) (hA.eval (by kernel_rfl)) (fun h37 => ?_) (fun h37 => ?_)
          ·
           first
           | (exfalso; clear hA hW; omega)
           | (
            refine wp_region_lit <| st_p (vI .u64 r) hA fun ac hA => st_q (vI .u64 ((r : Int) + 1)) hA hW.cls (Rd.pureE (v0 := vI .u64 (IntKind.u64.wrap ((r : Int) + 1))) (fun _ => by kernel_rfl) (congrArg (vI .u64) ((w_u64 (x := (r : Int) + 1) (by omega) (by omega)).trans (by omega)))) fun ac hA => st_p (vI .u64 ((r : Int) + 1)) hA fun ac hA => wpList_nil <| blkN <| thenN <| wp_region_lit <| st_p (vI .i64 (k : Int)) hA fun ac hA => st_q (vI .i64 ((k + 1 : Nat) : Int)) hA hW.cls (Rd.pureE (v0 := vI .i64 (IntKind.i64.wrap ((k : Int) + 1))) (fun _ => by kernel_rfl) (congrArg (vI .i64) ((w_i64 (x := (k : Int) + 1) (by omega) (by omega)).trans (by omega)))) fun ac hA => st_p (vI .i64 ((k + 1 : Nat) : Int)) hA fun ac hA => wn ?_
            exact ⟨E.length - (k + 1), by omega, k + 1, (r : Int) + 1, rfl, by omega, by rw [tk_snoc hy32, rels_snoc, if_pos (show y32.g = y15.g ∧ EvRel y32 from ⟨by omega, of_decide_eq_true h37⟩)]; omega, hA.sub (by and_intros <;> first | kernel_rfl | trivial), (hW.pick [0, 1, 2, 3, 4] (by decide) rfl).pickG [0, 1] rfl⟩)
          first
          | (exfalso; clear hA hW; omega)
          | (
           refine wp_skip <| blkN <| thenN <| wp_region_lit <| st_p (vI .i64 (k : Int)) hA fun ac hA => st_q (vI .i64 ((k + 1 : Nat) : Int)) hA hW.cls (Rd.pureE (v0 := vI .i64 (IntKind.i64.wrap ((k : Int) + 1))) (fun _ => by kernel_rfl) (congrArg (vI .i64) ((w_i64 (x := (k : Int) + 1) (by omega) (by omega)).trans (by omega)))) fun ac hA => st_p (vI .i64 ((k + 1 : Nat) : Int)) hA fun ac hA => wn ?_
           exact ⟨E.length - (k + 1), by omega, k + 1, r, rfl, by omega, by rw [tk_snoc hy32, rels_snoc, if_neg (show ¬ (y32.g = y15.g ∧ EvRel y32) from fun q_ => absurd q_.2 (of_decide_eq_false h37))]; omega, hA.sub (by and_intros <;> first | kernel_rfl | trivial), (hW.pick [0, 1, 2, 3, 4] (by decide) rfl).pickG [0, 1] rfl⟩))
        rw [h35] at hA
        have h35 := ne_of_beq_false h35
        first
        | (exfalso; clear hA hW; omega)
        | (
         refine sq_k hA fun ac hA => sq_k hA fun ac hA => sq_k hA fun ac hA => sq_k hA fun ac hA => sq_k hA fun ac hA => sq_p (vB false) hA fun ac hA => sq_nil ?_; intro w38 hww38; have hW := hww38.1; have hfw38 := hww38.2; clear hww38
         refine thenN <| wp_cond_false (hA.eval (by kernel_rfl)) <| wp_skip <| blkN <| thenN <| wp_region_lit <| st_p (vI .i64 (k : Int)) hA fun ac hA => st_q (vI .i64 ((k + 1 : Nat) : Int)) hA hW.cls (Rd.pureE (v0 := vI .i64 (IntKind.i64.wrap ((k : Int) + 1))) (fun _ => by kernel_rfl) (congrArg (vI .i64) ((w_i64 (x := (k : Int) + 1) (by omega) (by omega)).trans (by omega)))) fun ac hA => st_p (vI .i64 ((k + 1 : Nat) : Int)) hA fun ac hA => wn ?_
         exact ⟨E.length - (k + 1), by omega, k + 1, r, rfl, by omega, by rw [tk_snoc hy32, rels_snoc, if_neg (show ¬ (y32.g = y15.g ∧ EvRel y32) from fun q_ => absurd q_.1 (by omega))]; omega, hA.sub (by and_intros <;> first | kernel_rfl | trivial), (hW.pick [0, 1, 2, 3, 4] (by decide) rfl).pickG [0, 1] rfl⟩))
      have h31 := of_decide_eq_false h31
      first
      | (exfalso; clear hA hW; omega)
      | (
       refine wp_exit <| thenX <| thenX <| blkX <| thenN <| wp_seq <| wp_seq ?_
       have htk_ : E.take k = E := List.take_of_length_le (by omega); rw [htk_] at hr hrb_ hrn_
       refine wp_region_lit <| st_p (vI .u64 (comeAt (stK E) y15)) hA ?_; clear hA ac; intro ac hA
       refine st_s hA (Runs.callN (v := vT #[vI .i64 (((comeAt (stK E) y15) : Int) / 281474976710656), vI .u64 (((comeAt (stK E) y15) : Int) % 281474976710656)]) (fun _ => by kernel_rfl) hW (e_r3parts (comeAt (stK E) y15) w30 (by first | omega | decide | assumption | exact ⟨by omega, by omega⟩ | exact hyr_.1.2 | exact hyr_.2 | exact hown_ | exact hC.ok | exact (hel _ (List.mem_of_getElem? (by assumption))).1)) ?_); clear hA ac hW; intro w39 hW hfw39 ac hA
       refine st_p (vT #[vI .i64 (((comeAt (stK E) y15) : Int) / 281474976710656), vI .u64 (((comeAt (stK E) y15) : Int) % 281474976710656)]) hA fun ac hA => st_p (vI .i64 (((comeAt (stK E) y15) : Int) / 281474976710656)) hA fun ac hA => st_p (vI .u64 (((comeAt (stK E) y15) : Int) % 281474976710656)) hA fun ac hA => st_p (vI .i64 (((comeAt (stK E) y15) : Int) / 281474976710656)) hA fun ac hA => st_p (vI .u64 (((comeAt (stK E) y15) : Int) % 281474976710656)) hA fun ac hA => wn <| wp_seq ?_
       have hn_ : comeAt (stK E) y15 % 281474976710656 = rels E y15.g + 1 := by omega
       refine wp_region_lit <| st_p (vI .u64 (((comeAt (stK E) y15) : Int) % 281474976710656)) hA fun ac hA => st_p (vI .u64 r) hA fun ac hA => st_p (vB ((((comeAt (stK E) y15) : Int) % 281474976710656 : Int) != (r : Int))) hA fun ac hA => st_p (vB ((((comeAt (stK E) y15) : Int) % 281474976710656 : Int) != (r : Int))) hA fun ac hA => ?_
       rcases Bool.eq_false_or_eq_true ((((comeAt (stK E) y15) : Int) % 281474976710656 : Int) != (r : Int)) with h40 | h40
       ·
        rw [h40] at hA
        have h40 := bne_iff_ne.1 h40
        first
        | (exfalso; clear hA hW; omega)
        | (
         fail)
       rw [h40] at hA
       have h40 := of_bne_f h40
       first
       | (exfalso; clear hA hW; omega)
       | (
        refine st_p (vS A19 (gv (stK E) (y15.g)).length c20) hA fun ac hA => st_p (vS (some ⟨b16, o17, none⟩) l.length c_l) hA fun ac hA => st_p (vI .i64 (i : Int)) hA fun ac hA => st_q (vP (some ⟨b16, o17 + i * 9, none⟩)) hA hW.cls (Rd.indexAddr (e := 42) (sz := 9) (b := b16) (off := o17) (n := l.length) (c := c_l) (k := i) (by kernel_rfl) (by kernel_rfl) (by first | omega | (simp; done) | (simp; omega)) (fun _ => by kernel_rfl) (fun _ => by kernel_rfl)) fun ac hA => st_p (vP (some ⟨b16, o17 + i * 9, none⟩)) hA fun ac hA => st_q (vI .i64 y15.g) hA hW.cls (Rd.loadRow (b := b16) (i := o17 + i * 9) (xs := [vI .i64 y15.g]) (by kernel_rfl) (fun _ hw => row_ld ((hw.1).getG 1 rfl) hy15 (Fr.refl No _) (fun h => h) 0 1 (by kernel_rfl)) (by kernel_rfl)) fun ac hA => st_s hA (Runs.callN (v := vI .u64 (getC (gv (stK E) (y15.g)) (y15.g))) (fun _ => by kernel_rfl) hW (e_vget A19 c20 (gv (stK E) (y15.g)) (y15.g) w39 (rowR_at ((hW).get 0 rfl) elt_U8.len) (own_cap ((hW).get 0 rfl)) (by first | omega | decide | assumption | exact ⟨by omega, by omega⟩ | exact hyr_.1.2 | exact hyr_.2 | exact hown_ | exact hC.ok | exact (hel _ (List.mem_of_getElem? (by assumption))).1)) ?_); clear hA ac hW; intro w41 hW hfw41 ac hA
        refine st_p (vI .u64 r) hA fun ac hA => st_p (vB ((getC (gv (stK E) (y15.g)) (y15.g) : Int) != (r : Int))) hA fun ac hA => st_p (vB ((getC (gv (stK E) (y15.g)) (y15.g) : Int) != (r : Int))) hA fun ac hA => wn <| wp_cond_split (t := (getC (gv (stK E) (y15.g)) (y15.g) : Int) != (r : Int)) (hA.eval (by kernel_rfl)) (fun h42 => ?_) (fun h42 => ?_)
        ·
         have h42 := bne_iff_ne.1 h42
         first
         | (exfalso; clear hA hW; omega)
         | (
          fail)
        have h42 := of_bne_f h42
        first
        | (exfalso; clear hA hW; omega)
        | (
         refine wp_skip <| thenN <| wr <| st_p (pA n5 0) hA fun ac hA => st_p (vS (some ⟨b16, o17, none⟩) l.length c_l) hA fun ac hA => st_p (vI .i64 (i : Int)) hA fun ac hA => st_q (vP (some ⟨b16, o17 + i * 9, none⟩)) hA hW.cls (Rd.indexAddr (e := 42) (sz := 9) (b := b16) (off := o17) (n := l.length) (c := c_l) (k := i) (by kernel_rfl) (by kernel_rfl) (by first | omega | (simp; done) | (simp; omega)) (fun _ => by kernel_rfl) (fun _ => by kernel_rfl)) fun ac hA => st_p (vP (some ⟨b16, o17 + i * 9, none⟩)) hA fun ac hA => st_q (vI .i64 y15.g) hA hW.cls (Rd.loadRow (b := b16) (i := o17 + i * 9) (xs := [vI .i64 y15.g]) (by kernel_rfl) (fun _ hw => row_ld ((hw.1).getG 1 rfl) hy15 (Fr.refl No _) (fun h => h) 0 1 (by kernel_rfl)) (by kernel_rfl)) fun ac hA => st_s hA (Runs.callRow (E := 29) (sz := 1) (en := enU8) (l := (gv (stK (E ++ [y15])) (y15.g))) (fun _ => by kernel_rfl) hW (e_kof n5 n6 u26 n8 u27 1000 (stK (E ++ [y15])) (i + 1) (y15.g) w41 ((hW).get 4 rfl) ((hW).lt _ (List.mem_of_getElem? (i := 4) rfl)) (by first | omega | decide | assumption | exact ⟨by omega, by omega⟩ | exact hyr_.1.2 | exact hyr_.2 | exact hown_ | exact hC.ok | exact (hel _ (List.mem_of_getElem? (by assumption))).1) (by first | omega | decide | assumption | exact ⟨by omega, by omega⟩ | exact hyr_.1.2 | exact hyr_.2 | exact hown_ | exact hC.ok | exact (hel _ (List.mem_of_getElem? (by assumption))).1)) ?_); clear hA ac hW; intro A44 c45 w43 hW hcc45 hfw43 ac hA
         refine st_p (vS A44 (gv (stK (E ++ [y15])) (y15.g)).length c45) hA ?_; clear hA ac; intro ac hA
         refine wn <| wp_seq <| wr <| st_p (vS A44 (gv (stK (E ++ [y15])) (y15.g)).length c45) hA fun ac hA => st_p (vI .i64 (((gv (stK (E ++ [y15])) (y15.g)).length : Nat) : Int)) hA fun ac hA => st_p (vS (some ⟨b16, o17, none⟩) l.length c_l) hA fun ac hA => st_p (vI .i64 (i : Int)) hA fun ac hA => st_q (vP (some ⟨b16, o17 + i * 9, none⟩)) hA hW.cls (Rd.indexAddr (e := 42) (sz := 9) (b := b16) (off := o17) (n := l.length) (c := c_l) (k := i) (by kernel_rfl) (by kernel_rfl) (by first | omega | (simp; done) | (simp; omega)) (fun _ => by kernel_rfl) (fun _ => by kernel_rfl)) fun ac hA => st_p (vP (some ⟨b16, o17 + i * 9, none⟩)) hA fun ac hA => st_q (vI .i64 y15.g) hA hW.cls (Rd.loadRow (b := b16) (i := o17 + i * 9) (xs := [vI .i64 y15.g]) (by kernel_rfl) (fun _ hw => row_ld ((hw.1).getG 1 rfl) hy15 (Fr.refl No _) (fun h => h) 0 1 (by kernel_rfl)) (by kernel_rfl)) fun ac hA => st_p (vB (decide (((((gv (stK (E ++ [y15])) (y15.g)).length : Nat) : Int) : Int) ≤ (y15.g : Int)))) hA fun ac hA => wn <| wp_cond_split (t := decide (((((gv (stK (E ++ [y15])) (y15.g)).length : Nat) : Int) : Int) ≤ (y15.g : Int))) (hA.eval (by kernel_rfl)) (fun h47 => ?_) (fun h47 => ?_)
         ·
          have h47 := of_decide_eq_true h47
          first
          | (exfalso; clear hA hW; omega)
          | (
           refine wr <| st_p (vB false) hA ?_; clear hA ac; intro ac hA
           refine wn <| wp_ret <| thenR <| blkR <| thenR <| thenR <| blkR <| thenR <| r1 (vB false) hA ?_
           clear hA
           exact ⟨retv (by rfl), hW.fr⟩)
         have h47 := of_decide_eq_false h47
         first
         | (exfalso; clear hA hW; omega)
         | (
          refine wp_skip <| thenN <| wr <| st_p (vS A44 (gv (stK (E ++ [y15])) (y15.g)).length c45) hA fun ac hA => st_p (vS (some ⟨b16, o17, none⟩) l.length c_l) hA fun ac hA => st_p (vI .i64 (i : Int)) hA fun ac hA => st_q (vP (some ⟨b16, o17 + i * 9, none⟩)) hA hW.cls (Rd.indexAddr (e := 42) (sz := 9) (b := b16) (off := o17) (n := l.length) (c := c_l) (k := i) (by kernel_rfl) (by kernel_rfl) (by first | omega | (simp; done) | (simp; omega)) (fun _ => by kernel_rfl) (fun _ => by kernel_rfl)) fun ac hA => st_p (vP (some ⟨b16, o17 + i * 9, none⟩)) hA fun ac hA => st_q (vI .i64 y15.g) hA hW.cls (Rd.loadRow (b := b16) (i := o17 + i * 9) (xs := [vI .i64 y15.g]) (by kernel_rfl) (fun _ hw => row_ld ((hw.1).getG 1 rfl) hy15 (Fr.refl No _) (fun h => h) 0 1 (by kernel_rfl)) (by kernel_rfl)) fun ac hA => st_p (vI .u64 r) hA fun ac hA => ?_
          obtain ⟨y48, hy48⟩ : ∃ y, (gv (stK (E ++ [y15])) (y15.g))[Int.toNat (y15.g)]? = some y := ⟨_, List.getElem?_eq_getElem (by first | omega | (simp; done) | (simp; omega))⟩
          obtain ⟨b49, o50, rfl, hbb49⟩ := row_some (rowR_at ((hW).get 0 rfl) elt_U8.len) hy48
          refine st_q (vP (some ⟨b49, o50 + (Int.toNat (y15.g)) * 1, none⟩)) hA hW.cls (Rd.indexAddrI (e := 29) (sz := 1) (b := b49) (off := o50) (n := (gv (stK (E ++ [y15])) (y15.g)).length) (c := c45) (k := y15.g) (by kernel_rfl) (by kernel_rfl) (by omega) (by first | omega | (simp; done) | (simp; omega)) (fun _ => by kernel_rfl) (fun _ => by kernel_rfl)) ?_; clear hA ac; intro ac hA
          refine st_s hA (Runs.storeRow (E := 29) (sz := 1) (en := enU8) (b := b49) (off := o50) (k := Int.toNat (y15.g)) (n := (gv (stK (E ++ [y15])) (y15.g)).length) (c := c45) (v := vI .u64 r) (r : Int) elt_U8 (by kernel_rfl) (by kernel_rfl) (by kernel_rfl) (by kernel_rfl) hW (i := 0) rfl (by first | omega | (simp; done) | (simp; omega)) (by first | rfl | omega | (simp; done) | (simp; omega)) ?_); clear hA ac hW; intro w51 hW ac hA
          refine wn ?_
          have hpl_ : P.length = E.length := by { rw [hP]; unfold epL perE; simp }; have hdl_ : D.length = E.length := by { have q_ := congrArg List.length hD; unfold hadL perE at q_; simpa using q_ }
          have el_ : (gv (stK (E ++ [y15])) (y15.g)).length = (List.set (gv (stK (E ++ [y15])) (y15.g)) (Int.toNat (y15.g)) (r : Int)).length := by simp
          rw [el_] at hA hW
          replace hW : Ws w No [rowR 29 1 enU8 (vS (some ⟨b49, o50, none⟩) (List.set (gv (stK (E ++ [y15])) (y15.g)) (Int.toNat (y15.g)) (r : Int)).length c45) (List.set (gv (stK (E ++ [y15])) (y15.g)) (Int.toNat (y15.g)) (r : Int)), rowR 29 1 enU8 (vS A19 (gv (stK E) (y15.g)).length c20) (gv (stK E) (y15.g)), rowR 34 1 enSV (vS Ad D.length cd) D, rowR 43 1 enEpo (vS Ap P.length cp) P, rowR 42 9 enEvent (vS Ac E.length cc) E, ClkR n5 n6 u26 n8 u27 1000 (stK (E ++ [y15])) (i + 1)] [nestR innerSV D, roR (some ⟨b16, o17, none⟩) 9 enEvent l] w51 := hW
          have hrr_ : r = rels E y15.g + 1 := hr
          refine wp_region_lit <| st_p (vS Ac E.length cc) hA fun ac hA => st_p (vS (some ⟨b16, o17, none⟩) l.length c_l) hA fun ac hA => st_p (vI .i64 (i : Int)) hA fun ac hA => st_q (vP (some ⟨b16, o17 + i * 9, none⟩)) hA hW.cls (Rd.indexAddr (e := 42) (sz := 9) (b := b16) (off := o17) (n := l.length) (c := c_l) (k := i) (by kernel_rfl) (by kernel_rfl) (by first | omega | (simp; done) | (simp; omega)) (fun _ => by kernel_rfl) (fun _ => by kernel_rfl)) fun ac hA => st_q (vA #[vI .i64 y15.g, vI .i64 y15.kind, vI .i64 y15.site.f, vI .i64 y15.site.pc, vI .u32 y15.addr, vI .i64 y15.child, vI .i64 y15.obj, vI .i64 y15.n, vI .i64 y15.trap]) hA hW.cls (Rd.loadRow (b := b16) (i := o17 + i * 9) (xs := [vI .i64 y15.g, vI .i64 y15.kind, vI .i64 y15.site.f, vI .i64 y15.site.pc, vI .u32 y15.addr, vI .i64 y15.child, vI .i64 y15.obj, vI .i64 y15.n, vI .i64 y15.trap]) (by kernel_rfl) (fun _ hw => row_ld ((hw.1).getG 1 rfl) hy15 (Fr.refl No _) (fun h => h) 0 9 (by kernel_rfl)) (by kernel_rfl)) fun ac hA => st_s hA (Runs.cells (fun b => vS (some ⟨b, 0, none⟩) 1 1) #[vI .i64 y15.g, vI .i64 y15.kind, vI .i64 y15.site.f, vI .i64 y15.site.pc, vI .u32 y15.addr, vI .i64 y15.child, vI .i64 y15.obj, vI .i64 y15.n, vI .i64 y15.trap] 42 (fun _ => by kernel_rfl) hW ?_); clear hA ac hW; intro b52 w53 hW hb52 hfw53 ac hA
          refine st_s hA (Runs.appOwn (B := (some ⟨b52, 0, none⟩)) (k := 1) (E := 42) (sz := 9) (en := enEvent) (l := E) (m := ([y15] : List Event)) (i := 5) (by kernel_rfl) (by kernel_rfl) elt_Event (by kernel_rfl) hW rfl (rowAt_cel ((hW).cel 0 rfl) ([y15] : List Event) (by rfl) elt_Event.len) (by first | omega | (simp; done) | (simp; omega)) (by first | omega | (simp; done) | (simp; omega)) ?_); clear hA ac hW; intro A54 c55 w56 hW hcc55 ac hA
          refine st_p (vS Ap P.length cp) hA fun ac hA => st_p (vI .u64 (comeAt (stK E) y15)) hA fun ac hA => st_s hA (Runs.cells (fun b => vS (some ⟨b, 0, none⟩) 1 1) #[vI .u64 (comeAt (stK E) y15)] 43 (fun _ => by kernel_rfl) hW ?_); clear hA ac hW; intro b57 w58 hW hb57 hfw58 ac hA
          refine st_s hA (Runs.appOwn (B := (some ⟨b57, 0, none⟩)) (k := 1) (E := 43) (sz := 1) (en := enEpo) (l := P) (m := ([comeAt (stK E) y15] : List Int)) (i := 5) (by kernel_rfl) (by kernel_rfl) elt_Epo (by kernel_rfl) hW rfl (rowAt_cel ((hW).cel 0 rfl) ([comeAt (stK E) y15] : List Int) (by rfl) elt_Epo.len) (by first | omega | (simp; done) | (simp; omega)) (by first | omega | (simp; done) | (simp; omega)) ?_); clear hA ac hW; intro A59 c60 w61 hW hcc60 ac hA
          refine st_p (vS Ad D.length cd) hA fun ac hA => st_p (vS (some ⟨b49, o50, none⟩) (List.set (gv (stK (E ++ [y15])) (y15.g)) (Int.toNat (y15.g)) (r : Int)).length c45) hA fun ac hA => st_s hA (Runs.cells (fun b => vS (some ⟨b, 0, none⟩) 1 1) #[vS (some ⟨b49, o50, none⟩) (List.set (gv (stK (E ++ [y15])) (y15.g)) (Int.toNat (y15.g)) (r : Int)).length c45] 34 (fun _ => by kernel_rfl) hW ?_); clear hA ac hW; intro b62 w63 hW hb62 hfw63 ac hA
          have hW := hW.nestNil innerSV
          have hknq64 : ∀ x_ ∈ ([] : List SV), capSV x_ := all_nil
          have hW := hW.share 3 rfl (H' := [Cel b62 #[vS (some ⟨b49, o50, none⟩) (List.set (gv (stK (E ++ [y15])) (y15.g)) (Int.toNat (y15.g)) (r : Int)).length c45] 34, Cel b57 #[vI .u64 (comeAt (stK E) y15)] 43, Cel b52 #[vI .i64 y15.g, vI .i64 y15.kind, vI .i64 y15.site.f, vI .i64 y15.site.pc, vI .u32 y15.addr, vI .i64 y15.child, vI .i64 y15.obj, vI .i64 y15.n, vI .i64 y15.trap] 42, rowR 29 1 enU8 (vS A19 (gv (stK E) (y15.g)).length c20) (gv (stK E) (y15.g)), rowR 34 1 enSV (vS Ad D.length cd) D, rowR 43 1 enEpo (vS A59 (P ++ ([comeAt (stK E) y15] : List Int)).length c60) (P ++ ([comeAt (stK E) y15] : List Int)), rowR 42 9 enEvent (vS A54 (E ++ ([y15] : List Event)).length c55) (E ++ ([y15] : List Event)), ClkR n5 n6 u26 n8 u27 1000 (stK (E ++ [y15])) (i + 1)]) rfl
          have hcq65 : (List.set (gv (stK (E ++ [y15])) (y15.g)) (Int.toNat (y15.g)) (r : Int)).length ≤ c45 := (own_cap (E := 29) (sz := 1) (en := enU8) ((hW).getG 0 rfl))
          have hW := Ws.nestCons (inner := innerSV) hW 1 rfl (⟨List.set (gv (stK (E ++ [y15])) (y15.g)) (Int.toNat (y15.g)) (r : Int), (some ⟨b49, o50, none⟩), c45⟩ : SV) (rowR_at (E := 29) (hW.getG 0 rfl) elt_U8.len) (fun _ hb_ => ⟨_, List.mem_of_getElem? (i := 0) rfl, rowR_fp _ hb_⟩)
          have hknq66 : ∀ x_ ∈ ([(⟨List.set (gv (stK (E ++ [y15])) (y15.g)) (Int.toNat (y15.g)) (r : Int), (some ⟨b49, o50, none⟩), c45⟩ : SV)] : List SV), capSV x_ := all_cons hcq65 hknq64
          have hW := hW.nestApp 3 0 rfl rfl
          have hknq67 : ∀ x_ ∈ (D ++ ([(⟨List.set (gv (stK (E ++ [y15])) (y15.g)) (Int.toNat (y15.g)) (r : Int), (some ⟨b49, o50, none⟩), c45⟩ : SV)] : List SV)), capSV x_ := all_app hkD hknq66
          refine st_s hA (Runs.appOwn (B := (some ⟨b62, 0, none⟩)) (k := 1) (E := 34) (sz := 1) (en := enSV) (l := D) (m := ([(⟨List.set (gv (stK (E ++ [y15])) (y15.g)) (Int.toNat (y15.g)) (r : Int), (some ⟨b49, o50, none⟩), c45⟩ : SV)] : List SV)) (i := 4) (by kernel_rfl) (by kernel_rfl) elt_SV (by kernel_rfl) hW rfl (rowAt_cel ((hW).cel 0 rfl) ([(⟨List.set (gv (stK (E ++ [y15])) (y15.g)) (Int.toNat (y15.g)) (r : Int), (some ⟨b49, o50, none⟩), c45⟩ : SV)] : List SV) (by rfl) elt_SV.len) (by first | omega | (simp; done) | (simp; omega)) (by first | omega | (simp; done) | (simp; omega)) ?_); clear hA ac hW; intro A68 c69 w70 hW hcc69 ac hA
          refine st_p (vS A54 (E ++ ([y15] : List Event)).length c55) hA fun ac hA => st_p (vS A59 (P ++ ([comeAt (stK E) y15] : List Int)).length c60) hA fun ac hA => st_p (vS A68 (D ++ ([(⟨List.set (gv (stK (E ++ [y15])) (y15.g)) (Int.toNat (y15.g)) (r : Int), (some ⟨b49, o50, none⟩), c45⟩ : SV)] : List SV)).length c69) hA fun ac hA => wpList_nil <| blkN <| thenN ?_
          have hDn_ : (D ++ ([(⟨List.set (gv (stK (E ++ [y15])) (y15.g)) (Int.toNat (y15.g)) (r : Int), (some ⟨b49, o50, none⟩), c45⟩ : SV)] : List SV)).map SV.l = hadL (E ++ [y15]) := by rw [List.map_append, hD]; refine Eq.trans ?_ perE_snoc.symm; congr 1; show [_] = [hadE E y15]; unfold hadE; rw [← stK_snoc, hr]
          refine wp_region_lit <| st_p (vI .i64 (i : Int)) hA fun ac hA => st_q (vI .i64 ((i + 1 : Nat) : Int)) hA hW.cls (Rd.pureE (v0 := vI .i64 (IntKind.i64.wrap ((i : Int) + 1))) (fun _ => by kernel_rfl) (congrArg (vI .i64) ((w_i64 (x := (i : Int) + 1) (by omega) (by omega)).trans (by omega)))) fun ac hA => st_p (vI .i64 ((i + 1 : Nat) : Int)) hA fun ac hA => wn ?_
          exact ⟨l.length - (i + 1), by omega, i + 1, E ++ ([y15] : List Event), A54, c55, P ++ ([comeAt (stK E) y15] : List Int), A59, c60, D ++ ([(⟨List.set (gv (stK (E ++ [y15])) (y15.g)) (Int.toNat (y15.g)) (r : Int), (some ⟨b49, o50, none⟩), c45⟩ : SV)] : List SV), A68, c69, u26, u27, rfl, by omega, by exact hC2_, by exact hok2_, by rw [hP]; exact perE_snoc.symm, by exact hDn_, by simp; omega, by exact (own_cap ((hW).get 6 rfl)), by exact (own_cap ((hW).get 5 rfl)), by exact (own_cap ((hW).get 4 rfl)), by exact hknq67, by intro x_ hx_; rcases List.mem_append.1 hx_ with hx_ | hx_; exact hEa x_ hx_; (rw [List.mem_singleton.1 hx_]; exact hyr_.1), by intro x_ hx_; rcases List.mem_append.1 hx_ with hx_ | hx_; exact hDl x_ hx_; (rw [List.mem_singleton.1 hx_]; show (List.set _ _ _).length ≤ _; rw [List.length_set]; exact hgl2_), hA.sub (by and_intros <;> first | kernel_rfl | trivial), (hW.pick [4, 5, 6, 7] (by decide) rfl).pickG [0, 5] rfl⟩))))))
   have h14 := of_decide_eq_false h14
   first
   | (exfalso; clear hA hW; omega)
   | (
    refine wp_exit <| thenX <| thenX <| blkX <| thenN <| wr <| st_p (vS Ac E.length cc) hA ?_; clear hA ac; intro ac hA
    have hW := hW.share 2 rfl (H' := [rowR 34 1 enSV (vS Ad D.length cd) D, rowR 43 1 enEpo (vS Ap P.length cp) P, ClkR n5 n6 G n8 T 1000 (stK E) i]) rfl
    have hW := hW.nestG (roR Ac 9 enEvent E) (rowR_at (E := 42) (hW.getG 0 rfl) elt_Event.len) (fun _ hb_ => ⟨_, List.mem_of_getElem? (i := 0) rfl, rowR_fp _ hb_⟩)
    refine st_s hA (Runs.call (fun _ => by kernel_rfl) (e_rnew Ac cc E w13 ((hW).getG 0 rfl) (by first | assumption | omega | (simp; omega) | simp) (by first | omega | decide | assumption | exact ⟨by omega, by omega⟩ | exact hyr_.1.2 | exact hyr_.2 | exact hown_ | exact hC.ok | exact (hel _ (List.mem_of_getElem? (by assumption))).1) hC.ok hEa) ?_)
    rintro _ w71 ⟨g72, AoL73, coL74, AoB75, coB76, rfl, hw71_hB, hccoL74, hccoB76, hkcoB76, hfcoL74, hfcoB76, hnfcoB76, hfw71⟩; refine ⟨_, rfl, ?_⟩; have hW0 := hW; have hW := hW0.call hfw71
    have hW := hW0.addFromAt hW hfcoL74 (in_cons (in_at 0 rfl) in_nil)
    have hW := hW0.addFromAt hW hfcoB76 (in_cons (in_at 0 rfl) in_nil)
    have hW := hW0.addFromAt hW hnfcoB76 (in_cons (in_at 0 rfl) in_nil)
    clear hW0 hA ac; intro ac hA
    refine st_p (vT #[vA #[vS AoL73 E.length coL74, vS AoB75 g72.length coB76], vI .i64 0]) hA fun ac hA => st_p (vA #[vS AoL73 E.length coL74, vS AoB75 g72.length coB76]) hA fun ac hA => st_p (vI .i64 0) hA fun ac hA => st_s hA (Runs.cells (fun b => pA b 0) #[vS none 0 0, vS none 0 0] 52 (fun _ => by kernel_rfl) hW ?_); clear hA ac hW; intro b77 w78 hW hb77 hfw78 ac hA
    refine st_s hA (Runs.store (v := vA #[vS AoL73 E.length coL74, vS AoB75 g72.length coB76]) (b := b77) (j := 0) (n := 2) (cs' := #[vS AoL73 E.length coL74, vS AoB75 g72.length coB76]) (H' := [Cel b77 #[vS AoL73 E.length coL74, vS AoB75 g72.length coB76] 52, rowR 34 1 enSV (vS Ad D.length cd) D, rowR 43 1 enEpo (vS Ap P.length cp) P, ClkR n5 n6 G n8 T 1000 (stK E) i]) (by kernel_rfl) (by kernel_rfl) (by kernel_rfl) (by kernel_rfl) (by kernel_rfl) hW 0 (by rfl) (Nat.le_of_ble_eq_true (by kernel_rfl)) (by kernel_rfl) (by rfl) ?_); clear hA ac hW; intro w79 hW ac hA
    refine st_p (vI .i64 0) hA ?_; clear hA ac; intro ac hA
    refine wn <| wp_seq <| wr <| st_p (vI .i64 0) hA fun ac hA => st_p (vB false) hA fun ac hA => wn <| wp_cond_false (hA.eval (by kernel_rfl)) <| wp_skip <| thenN <| wp_seq <| wr <| st_p (vI .i64 0) hA ?_; clear hA ac; intro ac hA
    refine wn <| wp_block <| wp_loop_m (fun m_ ac_ wl_ => ∃ j : Nat, m_ = E.length - j ∧ (j ≤ E.length) ∧ Fm 186 [] [(0, vS A_l l.length c_l), (3, pA n5 0), (4, vI .i64 0), (5, vS Ac E.length cc), (6, vS Ap P.length cp), (7, vS Ad D.length cd), (17, pA b77 0), (18, vI .i64 0), (19, vI .i64 (j : Int))] ac_ ∧ Ws w No [Cel b77 #[vS AoL73 E.length coL74, vS AoB75 g72.length coB76] 52, rowR 34 1 enSV (vS Ad D.length cd) D, rowR 43 1 enEpo (vS Ap P.length cp) P, ClkR n5 n6 G n8 T 1000 (stK E) i] [nestR innerBV g72, roR AoB75 1 enBV g72, roR AoL73 9 enEvent E, roR Ac 9 enEvent E, rowR 42 9 enEvent (vS Ac E.length cc) E, nestR innerSV D, roR A_l 9 enEvent l] wl_) _ ⟨0, rfl, by omega, hA.sub (by and_intros <;> first | kernel_rfl | trivial), (hW.pick [0, 1, 2, 3] (by decide) rfl).pickG [0, 1, 2, 3, 4, 5, 6] rfl⟩ ?_
    clear hA ac hW; rintro m_ ac w80 ⟨j, rfl, hj, hA, hW⟩
    refine wp_seq <| wr <| st_p (vI .i64 (j : Int)) hA fun ac hA => st_p (vS Ac E.length cc) hA fun ac hA => st_p (vI .i64 (E.length : Int)) hA fun ac hA => st_p (vB (decide ((j : Int) < (E.length : Int)))) hA fun ac hA => wn <| wp_cond_split (t := decide ((j : Int) < (E.length : Int))) (hA.eval (by kernel_rfl)) (fun h81 => ?_) (fun h81 => ?_)
    ·
     have h81 := of_decide_eq_true h81
     first
     | (exfalso; clear hA hW; omega)
     | (
      refine wp_skip <| thenN <| wp_seq <| wp_block <| wr <| st_p (vI .i64 0) hA ?_; clear hA ac; intro ac hA
      refine wn <| wp_block <| wp_loop_m (fun m_ ac_ wl_ => ∃ q : Nat, m_ = j - q ∧ (q ≤ j) ∧ Fm 186 [] [(0, vS A_l l.length c_l), (3, pA n5 0), (4, vI .i64 0), (5, vS Ac E.length cc), (6, vS Ap P.length cp), (7, vS Ad D.length cd), (17, pA b77 0), (18, vI .i64 0), (19, vI .i64 (j : Int)), (20, vI .i64 (q : Int))] ac_ ∧ Ws w No [Cel b77 #[vS AoL73 E.length coL74, vS AoB75 g72.length coB76] 52, rowR 34 1 enSV (vS Ad D.length cd) D, rowR 43 1 enEpo (vS Ap P.length cp) P, ClkR n5 n6 G n8 T 1000 (stK E) i] [nestR innerBV g72, roR AoB75 1 enBV g72, roR AoL73 9 enEvent E, roR Ac 9 enEvent E, rowR 42 9 enEvent (vS Ac E.length cc) E, nestR innerSV D, roR A_l 9 enEvent l] wl_) _ ⟨0, rfl, by omega, hA.sub (by and_intros <;> first | kernel_rfl | trivial), (hW.pick [0, 1, 2, 3] (by decide) rfl).pickG [0, 1, 2, 3, 4, 5, 6] rfl⟩ ?_
      clear hA ac hW; rintro m_ ac w82 ⟨q, rfl, hq, hA, hW⟩
      refine wp_seq <| wr <| st_p (vI .i64 (q : Int)) hA fun ac hA => st_p (vI .i64 (j : Int)) hA fun ac hA => st_p (vB (decide ((q : Int) < (j : Int)))) hA fun ac hA => wn <| wp_cond_split (t := decide ((q : Int) < (j : Int))) (hA.eval (by kernel_rfl)) (fun h83 => ?_) (fun h83 => ?_)
      ·
       have h83 := of_decide_eq_true h83
       first
       | (exfalso; clear hA hW; omega)
       | (
        refine wp_skip <| thenN <| wp_seq <| wp_block <| wp_seq ?_
        obtain ⟨y84, hy84⟩ : ∃ y, E[q]? = some y := ⟨_, List.getElem?_eq_getElem (by omega)⟩
        obtain ⟨b85, o86, rfl, hbb85⟩ := row_some (rowR_at (E := 42) ((hW).getG 4 rfl) elt_Event.len) hy84
        obtain ⟨y87, hy87⟩ : ∃ y, E[j]? = some y := ⟨_, List.getElem?_eq_getElem (by omega)⟩
        have hpl_ : P.length = E.length := by { rw [hP]; unfold epL perE; simp }; have hdl_ : D.length = E.length := by { have q_ := congrArg List.length hD; unfold hadL perE at q_; simpa using q_ }
        obtain ⟨y88, hy88⟩ : ∃ y, P[q]? = some y := ⟨_, List.getElem?_eq_getElem (by omega)⟩
        obtain ⟨b89, o90, rfl, hbb89⟩ := row_some (rowR_at ((hW).get 2 rfl) elt_Epo.len) hy88
        obtain ⟨y91, hy91⟩ : ∃ y, D[j]? = some y := ⟨_, List.getElem?_eq_getElem (by omega)⟩
        rcases y91 with ⟨y91_l, y91_l_A, y91_l_c⟩
        obtain ⟨b92, o93, rfl, hbb92⟩ := row_some (rowR_at ((hW).get 1 rfl) elt_SV.len) hy91
        have hlp_ : y84.g ≠ y87.g → befE E (q : Int) (j : Int) = decide (y88 % 281474976710656 ≤ getC y91_l (y88 / 281474976710656)) := fun g_ => law_pair hC (by omega) (by omega) hy84 hy87 g_ (by rw [← hP]; exact hy88) (map_at hD hy91)
        have hdl2_ : y91_l.length ≤ 65536 := hDl _ (List.mem_of_getElem? hy91); have hpr_ := ep_rng hC (by omega) hy84 (by rw [← hP]; exact hy88)
        refine q_region (by kernel_rfl) (by kernel_rfl) hW <| sq_p (vS (some ⟨b85, o86, none⟩) E.length cc) hA fun ac hA => sq_p (vI .i64 (q : Int)) hA fun ac hA => sq_q (vP (some ⟨b85, o86 + q * 9, none⟩)) hA (Rd.indexAddr (e := 42) (sz := 9) (b := b85) (off := o86) (n := E.length) (c := cc) (k := q) (by kernel_rfl) (by kernel_rfl) (by first | omega | (simp; done) | (simp; omega)) (fun _ => by kernel_rfl) (fun _ => by kernel_rfl)) fun ac hA => sq_p (vP (some ⟨b85, o86 + q * 9, none⟩)) hA fun ac hA => sq_q (vI .i64 y84.g) hA (Rd.loadRow (b := b85) (i := o86 + q * 9) (xs := [vI .i64 y84.g]) (by kernel_rfl) (fun _ hw => row_ld (rowR_at (E := 42) ((hw.1).getG 4 rfl) elt_Event.len) hy84 (Fr.refl No _) (fun h => h) 0 1 (by kernel_rfl)) (by kernel_rfl)) fun ac hA => sq_p (vS (some ⟨b85, o86, none⟩) E.length cc) hA fun ac hA => sq_p (vI .i64 (j : Int)) hA fun ac hA => sq_q (vP (some ⟨b85, o86 + j * 9, none⟩)) hA (Rd.indexAddr (e := 42) (sz := 9) (b := b85) (off := o86) (n := E.length) (c := cc) (k := j) (by kernel_rfl) (by kernel_rfl) (by first | omega | (simp; done) | (simp; omega)) (fun _ => by kernel_rfl) (fun _ => by kernel_rfl)) fun ac hA => sq_p (vP (some ⟨b85, o86 + j * 9, none⟩)) hA fun ac hA => sq_q (vI .i64 y87.g) hA (Rd.loadRow (b := b85) (i := o86 + j * 9) (xs := [vI .i64 y87.g]) (by kernel_rfl) (fun _ hw => row_ld (rowR_at (E := 42) ((hw.1).getG 4 rfl) elt_Event.len) hy87 (Fr.refl No _) (fun h => h) 0 1 (by kernel_rfl)) (by kernel_rfl)) fun ac hA => sq_p (vB ((y84.g : Int) != (y87.g : Int))) hA fun ac hA => sq_p (vB ((y84.g : Int) != (y87.g : Int))) hA fun ac hA => ?_
        rcases Bool.eq_false_or_eq_true ((y84.g : Int) != (y87.g : Int)) with h94 | h94
        ·
         rw [h94] at hA
         have h94 := bne_iff_ne.1 h94
         first
         | (exfalso; clear hA hW; omega)
         | (
          refine sq_q (vA #[vS AoL73 E.length coL74, vS AoB75 g72.length coB76]) hA (rl b77 0 0) fun ac hA => sq_p (vI .i64 (q : Int)) hA fun ac hA => sq_p (vI .i64 (j : Int)) hA fun ac hA => sq_call (v := vB (befE E (q : Int) (j : Int))) hA (by kernel_rfl) (by kernel_rfl) (by kernel_rfl) (fun _ => by kernel_rfl) (Cls.callNC fun wx hwx => e_rbefore AoL73 coL74 E AoB75 coB76 g72 (q : Int) (j : Int) wx ((hwx.1).getG 2 rfl) (by first | assumption | omega | (simp; omega) | simp) ((hwx.1).getG 1 rfl) (by first | assumption | omega | (simp; omega) | simp) ((hwx.1).getG 0 rfl) hkcoB76 (by first | omega | decide | assumption | exact ⟨by omega, by omega⟩ | exact hyr_.1.2 | exact hyr_.2 | exact hown_ | exact hC.ok | exact (hel _ (List.mem_of_getElem? (by assumption))).1) hC.ok (by first | omega | decide | assumption | exact ⟨by omega, by omega⟩ | exact hyr_.1.2 | exact hyr_.2 | exact hown_ | exact hC.ok | exact (hel _ (List.mem_of_getElem? (by assumption))).1) (by first | omega | decide | assumption | exact ⟨by omega, by omega⟩ | exact hyr_.1.2 | exact hyr_.2 | exact hown_ | exact hC.ok | exact (hel _ (List.mem_of_getElem? (by assumption))).1) (by first | omega | decide | assumption | exact ⟨by omega, by omega⟩ | exact hyr_.1.2 | exact hyr_.2 | exact hown_ | exact hC.ok | exact (hel _ (List.mem_of_getElem? (by assumption))).1)) ?_; clear hA ac; intro ac hA
          refine sq_p (vS (some ⟨b92, o93, none⟩) D.length cd) hA fun ac hA => sq_p (vI .i64 (j : Int)) hA fun ac hA => sq_q (vP (some ⟨b92, o93 + j * 1, none⟩)) hA (Rd.indexAddr (e := 34) (sz := 1) (b := b92) (off := o93) (n := D.length) (c := cd) (k := j) (by kernel_rfl) (by kernel_rfl) (by first | omega | (simp; done) | (simp; omega)) (fun _ => by kernel_rfl) (fun _ => by kernel_rfl)) fun ac hA => sq_q (vS y91_l_A y91_l.length y91_l_c) hA (Rd.loadRow (b := b92) (i := o93 + j * 1) (xs := [vS y91_l_A y91_l.length y91_l_c]) (by kernel_rfl) (fun _ hw => row_ld (rowR_at ((hw.1).get 1 rfl) elt_SV.len) hy91 (Fr.refl No _) (fun h => h) 0 1 (by kernel_rfl)) (by kernel_rfl)) fun ac hA => sq_p (vS (some ⟨b89, o90, none⟩) P.length cp) hA fun ac hA => sq_p (vI .i64 (q : Int)) hA fun ac hA => sq_q (vP (some ⟨b89, o90 + q * 1, none⟩)) hA (Rd.indexAddr (e := 43) (sz := 1) (b := b89) (off := o90) (n := P.length) (c := cp) (k := q) (by kernel_rfl) (by kernel_rfl) (by first | omega | (simp; done) | (simp; omega)) (fun _ => by kernel_rfl) (fun _ => by kernel_rfl)) fun ac hA => sq_q (vI .u64 y88) hA (Rd.loadRow (b := b89) (i := o90 + q * 1) (xs := [vI .u64 y88]) (by kernel_rfl) (fun _ hw => row_ld (rowR_at ((hw.1).get 2 rfl) elt_Epo.len) hy88 (Fr.refl No _) (fun h => h) 0 1 (by kernel_rfl)) (by kernel_rfl)) fun ac hA => sq_call (v := vB (decide (((y88) : Int) % 281474976710656 ≤ getC y91_l (((y88) : Int) / 281474976710656)))) hA (by kernel_rfl) (by kernel_rfl) (by kernel_rfl) (fun _ => by kernel_rfl) (Cls.callNC fun wx hwx => e_vhas y91_l_A y91_l_c y91_l (y88) wx (nest_at (inner := innerSV) (x := (⟨y91_l, y91_l_A, y91_l_c⟩ : SV)) ((hwx.1).getG 5 rfl) (List.mem_of_getElem? hy91)) (hkD _ (List.mem_of_getElem? hy91)) (by first | omega | decide | assumption | exact ⟨by omega, by omega⟩ | exact hyr_.1.2 | exact hyr_.2 | exact hown_ | exact hC.ok | exact (hel _ (List.mem_of_getElem? (by assumption))).1) (by first | omega | decide | assumption | exact ⟨by omega, by omega⟩ | exact hyr_.1.2 | exact hyr_.2 | exact hown_ | exact hC.ok | exact (hel _ (List.mem_of_getElem? (by assumption))).1)) ?_; clear hA ac; intro ac hA
          refine sq_p (vB (!((befE E (q : Int) (j : Int)) == (decide (((y88) : Int) % 281474976710656 ≤ getC y91_l (((y88) : Int) / 281474976710656)))))) hA fun ac hA => sq_p (vB (!((befE E (q : Int) (j : Int)) == (decide (((y88) : Int) % 281474976710656 ≤ getC y91_l (((y88) : Int) / 281474976710656)))))) hA fun ac hA => sq_nil ?_; intro w95 hww95; have hW := hww95.1; have hfw95 := hww95.2; clear hww95
          refine thenN <| wp_cond_split (t := !((befE E (q : Int) (j : Int)) == (decide (((y88) : Int) % 281474976710656 ≤ getC y91_l (((y88) : Int) / 281474976710656))))) (hA.eval (by kernel_rfl)) (fun h96 => ?_) (fun h96 => ?_)
          ·
           have h96 := bbne_t h96
           first
           | (exfalso; clear hA hW; omega)
           | (exfalso; clear hA hW; exact absurd (hlp_ (by assumption)) h96; done)
           | (
            fail)
          have h96 := bbne_f h96
          first
          | (exfalso; clear hA hW; omega)
          | (
           refine wp_skip <| blkN <| thenN <| wp_region_lit <| st_p (vI .i64 (q : Int)) hA fun ac hA => st_q (vI .i64 ((q + 1 : Nat) : Int)) hA hW.cls (Rd.pureE (v0 := vI .i64 (IntKind.i64.wrap ((q : Int) + 1))) (fun _ => by kernel_rfl) (congrArg (vI .i64) ((w_i64 (x := (q : Int) + 1) (by omega) (by omega)).trans (by omega)))) fun ac hA => st_p (vI .i64 ((q + 1 : Nat) : Int)) hA fun ac hA => wn ?_
           exact ⟨j - (q + 1), by omega, q + 1, rfl, by omega, hA.sub (by and_intros <;> first | kernel_rfl | trivial), (hW.pick [0, 1, 2, 3] (by decide) rfl).pickG [0, 1, 2, 3, 4, 5, 6] rfl⟩))
        rw [h94] at hA
        have h94 := of_bne_f h94
        first
        | (exfalso; clear hA hW; omega)
        | (
         refine sq_k hA fun ac hA => sq_k hA fun ac hA => sq_k hA fun ac hA => sq_k hA fun ac hA => sq_k hA fun ac hA => sq_k hA fun ac hA => sq_k hA fun ac hA => sq_k hA fun ac hA => sq_k hA fun ac hA => sq_k hA fun ac hA => sq_k hA fun ac hA => sq_k hA fun ac hA => sq_k hA fun ac hA => sq_k hA fun ac hA => sq_p (vB false) hA fun ac hA => sq_nil ?_; intro w97 hww97; have hW := hww97.1; have hfw97 := hww97.2; clear hww97
         refine thenN <| wp_cond_false (hA.eval (by kernel_rfl)) <| wp_skip <| blkN <| thenN <| wp_region_lit <| st_p (vI .i64 (q : Int)) hA fun ac hA => st_q (vI .i64 ((q + 1 : Nat) : Int)) hA hW.cls (Rd.pureE (v0 := vI .i64 (IntKind.i64.wrap ((q : Int) + 1))) (fun _ => by kernel_rfl) (congrArg (vI .i64) ((w_i64 (x := (q : Int) + 1) (by omega) (by omega)).trans (by omega)))) fun ac hA => st_p (vI .i64 ((q + 1 : Nat) : Int)) hA fun ac hA => wn ?_
         exact ⟨j - (q + 1), by omega, q + 1, rfl, by omega, hA.sub (by and_intros <;> first | kernel_rfl | trivial), (hW.pick [0, 1, 2, 3] (by decide) rfl).pickG [0, 1, 2, 3, 4, 5, 6] rfl⟩))
      have h83 := of_decide_eq_false h83
      first
      | (exfalso; clear hA hW; omega)
      | (
       refine wp_exit <| thenX <| thenX <| blkX <| blkN <| thenN <| wp_region_lit <| st_p (vI .i64 (j : Int)) hA fun ac hA => st_q (vI .i64 ((j + 1 : Nat) : Int)) hA hW.cls (Rd.pureE (v0 := vI .i64 (IntKind.i64.wrap ((j : Int) + 1))) (fun _ => by kernel_rfl) (congrArg (vI .i64) ((w_i64 (x := (j : Int) + 1) (by omega) (by omega)).trans (by omega)))) fun ac hA => st_p (vI .i64 ((j + 1 : Nat) : Int)) hA fun ac hA => wn ?_
       exact ⟨E.length - (j + 1), by omega, j + 1, rfl, by omega, hA.sub (by and_intros <;> first | kernel_rfl | trivial), (hW.pick [0, 1, 2, 3] (by decide) rfl).pickG [0, 1, 2, 3, 4, 5, 6] rfl⟩))
    have h81 := of_decide_eq_false h81
    first
    | (exfalso; clear hA hW; omega)
    | (
     refine wp_exit <| thenX <| thenX <| blkX <| thenN <| wr <| st_s hA (Runs.callN (v := vB true) (fun _ => by kernel_rfl) hW (e_works w80) ?_); clear hA ac hW; intro w98 hW hfw98 ac hA
     refine st_p (vB true) hA ?_; clear hA ac; intro ac hA
     refine wn <| wp_ret <| r1 (vB true) hA ?_
     clear hA
     exact ⟨retv (by rfl), hW.fr⟩))))

theorem clocksHolds_walk (A : Option Addr) (len cap : Nat) (l : List Event) (w : World) (hl : l.length = len) (hc : len ≤ cap) (hm : cap ≤ maxLen) (hw : ∀ x ∈ l, wfEvent x) (hr : RowAt w A 9 enEvent l) :
    Calls Tryz.prog 3 #[.slice A len cap] w fun e w' => e = .returned (.bool true) ∧ Fr No w w' := by
  subst hl
  exact e_clocksHolds A cap l w hr hc (by have : maxLen ≤ 9223372036854775807 := by decide
                                          omega) (fun x hx => wf_event (hw x hx))

end Go.Proofs.YtjegpelofdopmaaGreatDoor.L
