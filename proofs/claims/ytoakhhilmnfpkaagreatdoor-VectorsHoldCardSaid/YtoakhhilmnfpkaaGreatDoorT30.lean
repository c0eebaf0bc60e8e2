/- Contracts, walked by program over the engine's laws. -/
import Derived.Test.YtoakhhilmnfpkaaGreatDoorProg
import Derived.Test.YtoakhhilmnfpkaaGreatDoorT11
import Derived.Test.YtoakhhilmnfpkaaGreatDoorRel24
namespace Go.Proofs.YtoakhhilmnfpkaaGreatDoor.L
open Go.RowKit
open Go.Value renaming int → vI, slice → vS, bool → vB, pointer → vP, func → vF, agg → vA, map → vM, tuple → vT

/-- Is one before another one? By steps, at most so many. -/
def befF (E : List Event) (i : Nat) : Nat → Nat → Bool
  | 0, _ => false
  | n + 1, j => match E[j]? with
    | none => false
    | some b => (List.range j).any fun k => match E[k]? with
      | none => false
      | some a => decide (EvLeads a b) && (decide (k = i) || befF E i n k)
theorem befF_iff {E : List Event} {i : Nat} : ∀ n j, j < n → (befF E i n j = true ↔ Hb E i j)
  | 0, j, h => by omega
  | n + 1, j, h => by
    rw [Hb.iff]
    unfold befF
    cases hj : E[j]? with
    | none => simp
    | some b =>
      simp only [List.any_eq_true, List.mem_range]
      constructor
      · rintro ⟨k, hk, q⟩
        cases hk' : E[k]? with
        | none => rw [hk'] at q; cases q
        | some a =>
          rw [hk'] at q; simp only [Bool.and_eq_true, Bool.or_eq_true, decide_eq_true_eq] at q
          exact ⟨k, a, b, hk, hk', rfl, q.1, q.2.imp id (fun r => (befF_iff n k (by omega)).1 r)⟩
      · rintro ⟨k, a, b', hk, ha, hb, hl, hi⟩
        cases hb
        refine ⟨k, hk, ?_⟩
        rw [ha]; simp only [Bool.and_eq_true, Bool.or_eq_true, decide_eq_true_eq]
        exact ⟨hl, hi.imp id (fun r => (befF_iff n k (by omega)).2 r)⟩
def befE (E : List Event) (i j : Int) : Bool := decide (0 ≤ i ∧ i < j ∧ j < (E.length : Int)) && befF E i.toNat E.length j.toNat
theorem bef_iff {E : List Event} (_h : ∀ e ∈ E, EvOk e) {i j : Nat} (hij : i < j) (hj : j < E.length) : befE E (i : Int) (j : Int) = true ↔ Hb E i j := by
  unfold befE
  rw [decide_eq_true (by omega), Bool.true_and, Int.toNat_natCast, Int.toNat_natCast]; exact befF_iff _ _ hj
def apartE (E : List Event) (i j : Int) : Bool := decide (0 ≤ i ∧ i < (E.length : Int) ∧ 0 ≤ j ∧ j < (E.length : Int) ∧ i ≠ j) && !befE E i j && !befE E j i
theorem bef_nat {E : List Event} {i j : Int} (h : befE E i j = true) : ∃ a b : Nat, i = (a : Int) ∧ j = (b : Int) ∧ a < b ∧ b < E.length := by
  unfold befE at h; rw [Bool.and_eq_true] at h; have := of_decide_eq_true h.1; exact ⟨i.toNat, j.toNat, by omega, by omega, by omega, by omega⟩
theorem bef_leads {E : List Event} (h : ∀ e ∈ E, EvOk e) {i j : Nat} {a b : Event} (hij : i < j) (ha : E[i]? = some a) (hb : E[j]? = some b) (hl : EvLeads a b) : befE E (i : Int) (j : Int) = true :=
  (bef_iff h hij (List.getElem?_eq_some_iff.1 hb).1).2 (.one ha hb hij hl)
theorem bef_trans {E : List Event} (h : ∀ e ∈ E, EvOk e) {i k j : Int} (h1 : befE E i k = true) (h2 : befE E k j = true) : befE E i j = true := by
  obtain ⟨a, b, rfl, rfl, q1, q2⟩ := bef_nat h1
  obtain ⟨b', c, q0, rfl, q3, q4⟩ := bef_nat h2
  obtain rfl : b' = b := by omega
  exact (bef_iff h (by omega) q4).2 (((bef_iff h q1 q2).1 h1).trans ((bef_iff h q3 q4).1 h2))
theorem bef_led {E : List Event} (h : ∀ e ∈ E, EvOk e) {i j : Nat} (hb : befE E (i : Int) (j : Int) = true) : ∃ k a b, k < j ∧ E[k]? = some a ∧ E[j]? = some b ∧ EvLeads a b ∧ (k = i ∨ befE E (i : Int) (k : Int) = true) := by
  obtain ⟨i', j', e1, e2, q1, q2⟩ := bef_nat hb
  obtain rfl : i' = i := by omega
  obtain rfl : j' = j := by omega
  obtain ⟨k, a, b, hk, ha, hb', hl, hi⟩ := Hb.iff.1 ((bef_iff h q1 q2).1 hb)
  exact ⟨k, a, b, hk, ha, hb', hl, hi.imp id (fun q => (bef_iff h q.lt q.rng).2 q)⟩
def addE (E : List Event) (x : Event) : Int × List Event := if 4096 ≤ E.length then (3, E) else if EvOk x then (0, E ++ [x]) else (2, E)
theorem addE_no3 {E : List Event} {x : Event} (h : 4096 ≤ E.length) : (3, E) = addE E x := by unfold addE; rw [if_pos h]
theorem addE_no2 {E : List Event} {x : Event} (h : ¬ 4096 ≤ E.length) (hx : ¬ EvOk x) : (2, E) = addE E x := by unfold addE; rw [if_neg h, if_neg hx]
theorem addE_yes {E : List Event} {x : Event} (h : ¬ 4096 ≤ E.length) (hx : EvOk x) : (0, E ++ [x]) = addE E x := by unfold addE; rw [if_neg h, if_pos hx]
def newOk (l : List Event) : Prop := l.length ≤ 4096 ∧ ∀ x ∈ l, EvOk x
instance (l : List Event) : Decidable (newOk l) := by unfold newOk; infer_instance
def newErr (l : List Event) : Int := if 4096 < l.length then 3 else 2
def enBo (x : Bool) : List Value := [.bool x]
structure BV where
  l : List Bool
  l_A : Option Addr
  l_c : Nat
def BV.v (x : BV) : Value := .slice x.l_A x.l.length x.l_c
def enBV (x : BV) : List Value := [.slice x.l_A x.l.length x.l_c]
theorem elt_Bo : Elt Tryz.prog 4 1 enBo := ⟨⟨vB false, 1, by kernel_rfl, rfl, by decide⟩, by decide, fun _ => rfl, fun x u hu => List.all_eq_true.1 (show (enBo x).all (·.oneCell') = true from rfl) u hu⟩
theorem elt_BV : Elt Tryz.prog 179 1 enBV := ⟨⟨vS none 0 0, 24, by kernel_rfl, rfl, by decide⟩, by decide, fun _ => rfl, fun x u hu => List.all_eq_true.1 (show (enBV x).all (·.oneCell') = true from rfl) u hu⟩
def innerBV (x : BV) : Res := roR x.l_A 1 enBo x.l
def capBV (x : BV) : Prop := x.l.length ≤ x.l_c
theorem nest_ltBV {V : List BV} {w : World} (h : (nestR innerBV V).p w) : ∀ b ∈ (nestR innerBV V).fp, b < w.heap.size := nest_lt (A := fun x : BV => x.l_A) (sz := fun _ => 1) (L := fun x : BV => x.l) (en := enBo) h
def rowM (E : List Event) (j : Nat) : List Bool := (List.range j).map fun i : Nat => befE E (i : Int) (j : Int)
/-- Of each event which are before it. -/
def ahM (E : List Event) : List (List Bool) := (List.range E.length).map (rowM E)
theorem bef_snoc {E : List Event} {x : Event} (h : ∀ e ∈ E, EvOk e) (hx : EvOk x) {i j : Nat} (hj : j < E.length) : befE (E ++ [x]) (i : Int) (j : Int) = befE E (i : Int) (j : Int) := by
  have h' : ∀ e ∈ E ++ [x], EvOk e := fun e he => by rcases List.mem_append.1 he with q | q; exact h e q; (rw [List.mem_singleton.1 q]; exact hx)
  by_cases hij : i < j
  · rw [Bool.eq_iff_iff, bef_iff h' hij (by simp; omega), bef_iff h hij hj, hb_old hj]
  · unfold befE; rw [decide_eq_false (by omega), decide_eq_false (by omega)]; rfl
theorem led_new {E : List Event} {x : Event} (h : ∀ e ∈ E, EvOk e) (hx : EvOk x) {k : Nat} (hk : k < E.length) : befE (E ++ [x]) (k : Int) (E.length : Int) = true ↔ ∃ q a, E[q]? = some a ∧ EvLeads a x ∧ (k = q ∨ befE E (k : Int) (q : Int) = true) := by
  have h' : ∀ e ∈ E ++ [x], EvOk e := fun e he => by rcases List.mem_append.1 he with q | q; exact h e q; (rw [List.mem_singleton.1 q]; exact hx)
  rw [bef_iff h' hk (by simp), Hb.iff]
  constructor
  · rintro ⟨q, a, b, hq, ha, hb, hl, hi⟩
    rw [at_old hq] at ha; rw [at_new] at hb; cases hb
    exact ⟨q, a, ha, hl, hi.imp Eq.symm (fun r => (bef_iff h r.lt hq).2 (r.old hq))⟩
  · rintro ⟨q, a, ha, hl, hi⟩
    have hq := (List.getElem?_eq_some_iff.1 ha).1
    exact ⟨q, a, x, hq, by rw [at_old hq]; exact ha, at_new, hl, hi.imp Eq.symm (fun r => ((bef_iff h (by obtain ⟨_, _, e1, e2, q1, _⟩ := bef_nat r; omega) hq).1 r).snoc)⟩
theorem ah_snoc {E : List Event} {x : Event} (h : ∀ e ∈ E, EvOk e) (hx : EvOk x) : ahM (E ++ [x]) = ahM E ++ [rowM (E ++ [x]) E.length] := by
  unfold ahM
  rw [List.length_append, List.length_singleton, List.range_succ, List.map_append]
  congr 1
  refine List.map_congr_left fun j hj => ?_
  unfold rowM
  exact List.map_congr_left fun i _ => bef_snoc h hx (List.mem_range.1 hj)
theorem ah_at {E : List Event} {B : List BV} (hB : B.map BV.l = ahM E) {j : Nat} {r : List Bool} {A : Option Addr} {c : Nat} (hj : B[j]? = some (⟨r, A, c⟩ : BV)) : r = rowM E j ∧ j < E.length := by
  have h1 : (B.map BV.l)[j]? = some r := by rw [List.getElem?_map, hj]; rfl
  rw [hB] at h1; unfold ahM at h1
  have hl := (List.getElem?_eq_some_iff.1 h1).1
  rw [List.length_map, List.length_range] at hl
  rw [List.getElem?_map, List.getElem?_range hl] at h1
  exact ⟨(Option.some.inj h1).symm, hl⟩
theorem ah_len {E : List Event} {B : List BV} (hB : B.map BV.l = ahM E) {j : Nat} {r : List Bool} {A : Option Addr} {c : Nat} (hj : B[j]? = some (⟨r, A, c⟩ : BV)) : r.length = j := by rw [(ah_at hB hj).1]; simp [rowM]
theorem ah_el {E : List Event} {B : List BV} (hB : B.map BV.l = ahM E) {i j : Nat} {r : List Bool} {A : Option Addr} {c : Nat} {b : Bool} (hj : B[j]? = some (⟨r, A, c⟩ : BV)) (hi : r[i]? = some b) : b = befE E (i : Int) (j : Int) := by
  obtain ⟨rfl, -⟩ := ah_at hB hj
  have hl := (List.getElem?_eq_some_iff.1 hi).1
  unfold rowM at hi hl
  rw [List.length_map, List.length_range] at hl
  rw [List.getElem?_map, List.getElem?_range hl] at hi
  exact (Option.some.inj hi).symm
theorem ah_el' {E : List Event} {B : List BV} (hB : B.map BV.l = ahM E) {i j : Int} {r : List Bool} {A : Option Addr} {c : Nat} {b : Bool} (h0 : 0 ≤ i) (h1 : 0 ≤ j) (hj : B[j.toNat]? = some (⟨r, A, c⟩ : BV)) (hi : r[i.toNat]? = some b) : b = befE E i j := by
  have := ah_el hB hj hi; rwa [Int.toNat_of_nonneg h0, Int.toNat_of_nonneg h1] at this
theorem ah_blen {E : List Event} {B : List BV} (hB : B.map BV.l = ahM E) : B.length = E.length := by have := congrArg List.length hB; simpa [ahM] using this
theorem ah_cap {E : List Event} {B : List BV} (hB : B.map BV.l = ahM E) (hl : E.length ≤ 4096) : ∀ x ∈ B, x.l.length ≤ 4096 := fun x hx => by
  obtain ⟨j, hj⟩ := List.getElem?_of_mem hx
  obtain ⟨r, A, c⟩ := x
  have := ah_len hB hj; have := (ah_at hB hj).2; show r.length ≤ 4096; omega
/-! ### a row under way -/
def Under (L : List Event) (x : Event) (u : Nat) (d : List Bool) : Prop := ∀ k, k < L.length → (d[k]? = some true ↔ ∃ q a, u ≤ q ∧ L[q]? = some a ∧ EvLeads a x ∧ (k = q ∨ befE L (k : Int) (q : Int) = true))
theorem Under.start (L : List Event) (x : Event) : Under L x L.length (List.replicate L.length false) := fun k hk => by
  rw [List.getElem?_replicate, if_pos hk]
  constructor
  · intro h; cases h
  · rintro ⟨q, a, hq, ha, -⟩; have := (List.getElem?_eq_some_iff.1 ha).1; omega
theorem Under.skip {L : List Event} {x y : Event} {u : Nat} {d : List Bool} (h : Under L x (u + 1) d) (hy : L[u]? = some y) (hn : ¬ EvLeads y x) : Under L x u d := fun k hk => by
  rw [h k hk]
  constructor
  · rintro ⟨q, a, hq, r⟩; exact ⟨q, a, by omega, r⟩
  · rintro ⟨q, a, hq, ha, hl, r⟩
    by_cases e : q = u
    · rw [e, hy] at ha; cases ha; exact absurd hl hn
    · exact ⟨q, a, by omega, ha, hl, r⟩
def Under2 (L : List Event) (u v : Nat) (d d2 : List Bool) : Prop := ∀ k, k < L.length → (d2[k]? = some true ↔ d[k]? = some true ∨ k = u ∨ (k < v ∧ befE L (k : Int) (u : Int) = true))
theorem Under2.start {L : List Event} {u : Nat} {d : List Bool} (hl : d.length = L.length) (hu : u < L.length) : Under2 L u 0 d (d.set u true) := fun k hk => by
  by_cases e : k = u
  · subst e; rw [List.getElem?_set_self (by omega)]; simp
  · rw [List.getElem?_set_ne (fun q => e q.symm)]; simp [e]
theorem Under2.step {L : List Event} {u v : Nat} {d d2 : List Bool} (h : Under2 L u v d d2) (hl : d2.length = L.length) (hv : v < L.length) {b : Bool} (hb : b = true ↔ (d2[v]? = some true ∨ befE L (v : Int) (u : Int) = true)) : Under2 L u (v + 1) d (d2.set v b) := fun k hk => by
  by_cases e : k = v
  · subst e
    rw [List.getElem?_set_self (by omega), Option.some.injEq, hb, h k hk]
    constructor
    · rintro ((q | q | ⟨q, r⟩) | q)
      · exact .inl q
      · exact .inr (.inl q)
      · exact .inr (.inr ⟨by omega, r⟩)
      · exact .inr (.inr ⟨by omega, q⟩)
    · rintro (q | q | ⟨q, r⟩)
      · exact .inl (.inl q)
      · exact .inl (.inr (.inl q))
      · exact .inr r
  · rw [List.getElem?_set_ne (fun q => e q.symm), h k hk]
    constructor
    · rintro (q | q | ⟨q, r⟩)
      · exact .inl q
      · exact .inr (.inl q)
      · exact .inr (.inr ⟨by omega, r⟩)
    · rintro (q | q | ⟨q, r⟩)
      · exact .inl q
      · exact .inr (.inl q)
      · exact .inr (.inr ⟨by omega, r⟩)
theorem Under.next {L : List Event} {x y : Event} {u v : Nat} {d d2 : List Bool} (h : Under L x (u + 1) d) (hy : L[u]? = some y) (hn : EvLeads y x) (h2 : Under2 L u v d d2) (hv : u ≤ v) : Under L x u d2 := fun k hk => by
  rw [h2 k hk, h k hk]
  constructor
  · rintro (⟨q, a, hq, r⟩ | q | ⟨-, q⟩)
    · exact ⟨q, a, by omega, r⟩
    · exact ⟨u, y, Nat.le_refl _, hy, hn, .inl q⟩
    · exact ⟨u, y, Nat.le_refl _, hy, hn, .inr q⟩
  · rintro ⟨q, a, hq, ha, hl, r⟩
    by_cases e : q = u
    · subst e
      rcases r with r | r
      · exact .inr (.inl r)
      · exact .inr (.inr ⟨by obtain ⟨_, _, e1, e2, q1, _⟩ := bef_nat r; omega, r⟩)
    · exact .inl ⟨q, a, by omega, ha, hl, r⟩
theorem Under.done {L : List Event} {x : Event} {d : List Bool} (h : ∀ e ∈ L, EvOk e) (hx : EvOk x) (hd : Under L x 0 d) (hl : d.length = L.length) : d = rowM (L ++ [x]) L.length := by
  refine List.ext_getElem? fun k => ?_
  unfold rowM
  by_cases hk : k < L.length
  · rw [List.getElem?_map, List.getElem?_range hk]
    have h1 := hd k hk
    have h2 := led_new h hx hk
    obtain ⟨b, hb⟩ : ∃ b, d[k]? = some b := ⟨_, List.getElem?_eq_getElem (by omega)⟩
    rw [hb] at h1 ⊢
    show some b = some (befE (L ++ [x]) (k : Int) (L.length : Int))
    rw [Option.some.injEq, Bool.eq_iff_iff, h2, ← Option.some.injEq, h1]
    constructor
    · rintro ⟨q, a, -, r⟩; exact ⟨q, a, r⟩
    · rintro ⟨q, a, r⟩; exact ⟨q, a, Nat.zero_le _, r⟩
  · rw [List.getElem?_eq_none (by omega), List.getElem?_eq_none (by simp; omega)]
set_option maxRecDepth 100000 in
theorem e_rbefore (A_L : Option Addr) (c_L : Nat) (L : List Event) (A_B : Option Addr) (c_B : Nat) (B : List BV) (i : Int) (j : Int) (w : World) (hr_L : RowAt w A_L 9 enEvent L) (hc_L : L.length ≤ c_L) (hr_B : RowAt w A_B 1 enBV B) (hc_B : B.length ≤ c_B) (hn_B : (nestR innerBV B).p w) (hk_B : ∀ x_ ∈ B, capBV x_) (hL : L.length ≤ 4096) (hev : ∀ e ∈ L, EvOk e) (hB : B.map BV.l = ahM L) (hi : -9223372036854775808 ≤ i ∧ i ≤ 9223372036854775807) (hj : -9223372036854775808 ≤ j ∧ j ≤ 9223372036854775807) : Calls Tryz.prog 44 #[vA #[vS A_L L.length c_L, vS A_B B.length c_B], vI .i64 i, vI .i64 j] w (fun e w' => e = .returned (vB (befE L i j)) ∧ Fr No w w') := by
 have _hu := hc_L; have _hv := hr_L; clear _hu _hv
 have _hu := hc_B; have _hv := hr_B; clear _hu _hv
 have _hu := hk_B; have _hv := hn_B; clear _hu _hv
 have _hu := hL; clear _hu
 have _hu := hev; clear _hu
 have _hu := hB; clear _hu
 have _hu := hi; clear _hu
 have _hu := hj; clear _hu
 have hbl_ := ah_blen hB
 refine enter_E 31 Tryz.func44 rfl rfl (by kernel_rfl) (L := [(0, vA #[vS A_L L.length c_L, vS A_B B.length c_B]), (1, vI .i64 i), (2, vI .i64 j)]) (by kernel_rfl) ?_
 intro ac hA
 have hW := Ws.start w No
 have hW := hW.arg hr_L
 have hW := hW.arg hr_B
 have hW := hW.addG _ hn_B (nest_ltBV hn_B) (by simp)
 refine wr <| st_s hA (Runs.cells (fun b => pA b 0) #[vS A_L L.length c_L, vS A_B B.length c_B] 46 (fun _ => by kernel_rfl) hW ?_); clear hA ac hW; intro b1 w2 hW hb1 hfw2 ac hA
 refine st_p (vB false) hA ?_; clear hA ac; intro ac hA
 refine wn <| wr <| st_p (vI .i64 i) hA fun ac hA => st_p (vB (decide ((i : Int) ≥ (0 : Int)))) hA fun ac hA => st_p (vB (decide ((i : Int) ≥ (0 : Int)))) hA fun ac hA => ?_
 rcases Bool.eq_false_or_eq_true (decide ((i : Int) ≥ (0 : Int))) with h3 | h3
 ·
  rw [h3] at hA
  have h3 := of_decide_eq_true h3
  refine st_p (vI .i64 i) hA fun ac hA => st_p (vI .i64 j) hA fun ac hA => st_p (vB (decide ((i : Int) < (j : Int)))) hA fun ac hA => st_p (vB (decide ((i : Int) < (j : Int)))) hA fun ac hA => st_p (vB (decide ((i : Int) < (j : Int)))) hA fun ac hA => ?_
  rcases Bool.eq_false_or_eq_true (decide ((i : Int) < (j : Int))) with h4 | h4
  ·
   rw [h4] at hA
   have h4 := of_decide_eq_true h4
   refine st_p (vI .i64 j) hA fun ac hA => st_p (pA b1 0) hA fun ac hA => st_q (vS A_L L.length c_L) hA hW.cls (rl b1 0 0) fun ac hA => st_p (vI .i64 (L.length : Int)) hA fun ac hA => st_p (vB (decide ((j : Int) < (L.length : Int)))) hA fun ac hA => st_p (vB (decide ((j : Int) < (L.length : Int)))) hA fun ac hA => st_p (vB (decide ((j : Int) < (L.length : Int)))) hA fun ac hA => ?_
   rcases Bool.eq_false_or_eq_true (decide ((j : Int) < (L.length : Int))) with h5 | h5
   ·
    rw [h5] at hA
    have h5 := of_decide_eq_true h5
    refine st_p (pA b1 1) hA fun ac hA => st_q (vS A_B B.length c_B) hA hW.cls (rl b1 1 0) fun ac hA => st_p (vI .i64 j) hA fun ac hA => ?_
    obtain ⟨y6, hy6⟩ : ∃ y, B[Int.toNat (j)]? = some y := ⟨_, List.getElem?_eq_getElem (by first | omega | (simp; done) | (simp; omega) | (have := ah_len hB (by assumption); omega))⟩
    rcases y6 with ⟨y6_l, y6_l_A, y6_l_c⟩
    obtain ⟨b7, o8, rfl, hbb7⟩ := row_some ((hW).getG 1 rfl) hy6
    refine st_q (vP (some ⟨b7, o8 + (Int.toNat (j)) * 1, none⟩)) hA hW.cls (Rd.indexAddrI (e := 179) (sz := 1) (b := b7) (off := o8) (n := B.length) (c := c_B) (k := j) (by kernel_rfl) (by kernel_rfl) (by omega) (by first | omega | (simp; done) | (simp; omega) | (have := ah_len hB (by assumption); omega)) (fun _ => by kernel_rfl) (fun _ => by kernel_rfl)) ?_; clear hA ac; intro ac hA
    have hW := hW.nestAt 0 rfl (List.mem_of_getElem? hy6)
    have hc_y6_l : y6_l.length ≤ y6_l_c := hk_B _ (List.mem_of_getElem? hy6)
    replace hW : Ws w No [Cel b1 #[vS A_L L.length c_L, vS (some ⟨b7, o8, none⟩) B.length c_B] 46] [roR y6_l_A 1 enBo y6_l, nestR innerBV B, roR (some ⟨b7, o8, none⟩) 1 enBV B, roR A_L 9 enEvent L] w2 := hW
    refine st_q (vS y6_l_A y6_l.length y6_l_c) hA hW.cls (Rd.loadRow (b := b7) (i := o8 + (Int.toNat (j)) * 1) (xs := [vS y6_l_A y6_l.length y6_l_c]) (by kernel_rfl) (fun _ hw => row_ld ((hw.1).getG 2 rfl) hy6 (Fr.refl No _) (fun h => h) 0 1 (by kernel_rfl)) (by kernel_rfl)) fun ac hA => st_p (vI .i64 i) hA fun ac hA => ?_
    obtain ⟨y9, hy9⟩ : ∃ y, y6_l[Int.toNat (i)]? = some y := ⟨_, List.getElem?_eq_getElem (by first | omega | (simp; done) | (simp; omega) | (have := ah_len hB (by assumption); omega))⟩
    obtain ⟨b10, o11, rfl, hbb10⟩ := row_some ((hW).getG 0 rfl) hy9
    refine st_q (vP (some ⟨b10, o11 + (Int.toNat (i)) * 1, none⟩)) hA hW.cls (Rd.indexAddrI (e := 4) (sz := 1) (b := b10) (off := o11) (n := y6_l.length) (c := y6_l_c) (k := i) (by kernel_rfl) (by kernel_rfl) (by omega) (by first | omega | (simp; done) | (simp; omega) | (have := ah_len hB (by assumption); omega)) (fun _ => by kernel_rfl) (fun _ => by kernel_rfl)) fun ac hA => st_q (vB y9) hA hW.cls (Rd.loadRow (b := b10) (i := o11 + (Int.toNat (i)) * 1) (xs := [vB y9]) (by kernel_rfl) (fun _ hw => row_ld ((hw.1).getG 0 rfl) hy9 (Fr.refl No _) (fun h => h) 0 1 (by kernel_rfl)) (by kernel_rfl)) fun ac hA => st_p (vB y9) hA fun ac hA => st_p (vB y9) hA fun ac hA => wn <| wp_ret <| r1 (vB y9) hA ?_
    clear hA
    exact ⟨retv (congrArg vB (ah_el' hB (by omega) (by omega) hy6 hy9)), hW.fr⟩
   rw [h5] at hA
   have h5 := of_decide_eq_false h5
   refine st_k hA fun ac hA => st_k hA fun ac hA => st_k hA fun ac hA => st_k hA fun ac hA => st_k hA fun ac hA => st_k hA fun ac hA => st_k hA fun ac hA => st_k hA fun ac hA => st_p (vB false) hA fun ac hA => st_p (vB false) hA fun ac hA => wn <| wp_ret <| r1 (vB false) hA ?_
   clear hA
   exact ⟨retv (congrArg vB (by unfold befE; rw [decide_eq_false (by omega)]; rfl)), hW.fr⟩
  rw [h4] at hA
  have h4 := of_decide_eq_false h4
  refine st_k hA fun ac hA => st_k hA fun ac hA => st_k hA fun ac hA => st_k hA fun ac hA => st_k hA fun ac hA => st_p (vB false) hA fun ac hA => st_p (vB false) hA fun ac hA => st_k hA fun ac hA => st_k hA fun ac hA => st_k hA fun ac hA => st_k hA fun ac hA => st_k hA fun ac hA => st_k hA fun ac hA => st_k hA fun ac hA => st_k hA fun ac hA => st_p (vB false) hA fun ac hA => st_p (vB false) hA fun ac hA => wn <| wp_ret <| r1 (vB false) hA ?_
  clear hA
  exact ⟨retv (congrArg vB (by unfold befE; rw [decide_eq_false (by omega)]; rfl)), hW.fr⟩
 rw [h3] at hA
 have h3 := of_decide_eq_false h3
 refine st_k hA fun ac hA => st_k hA fun ac hA => st_k hA fun ac hA => st_p (vB false) hA fun ac hA => st_p (vB false) hA fun ac hA => st_k hA fun ac hA => st_k hA fun ac hA => st_k hA fun ac hA => st_k hA fun ac hA => st_k hA fun ac hA => st_p (vB false) hA fun ac hA => st_p (vB false) hA fun ac hA => st_k hA fun ac hA => st_k hA fun ac hA => st_k hA fun ac hA => st_k hA fun ac hA => st_k hA fun ac hA => st_k hA fun ac hA => st_k hA fun ac hA => st_k hA fun ac hA => st_p (vB false) hA fun ac hA => st_p (vB false) hA fun ac hA => wn <| wp_ret <| r1 (vB false) hA ?_
 clear hA
 exact ⟨retv (congrArg vB (by unfold befE; rw [decide_eq_false (by omega)]; rfl)), hW.fr⟩

set_option maxRecDepth 100000 in
theorem e_rapart (A_L : Option Addr) (c_L : Nat) (L : List Event) (A_B : Option Addr) (c_B : Nat) (B : List BV) (i : Int) (j : Int) (w : World) (hr_L : RowAt w A_L 9 enEvent L) (hc_L : L.length ≤ c_L) (hr_B : RowAt w A_B 1 enBV B) (hc_B : B.length ≤ c_B) (hn_B : (nestR innerBV B).p w) (hk_B : ∀ x_ ∈ B, capBV x_) (hL : L.length ≤ 4096) (hev : ∀ e ∈ L, EvOk e) (hB : B.map BV.l = ahM L) (hi : -9223372036854775808 ≤ i ∧ i ≤ 9223372036854775807) (hj : -9223372036854775808 ≤ j ∧ j ≤ 9223372036854775807) : Calls Tryz.prog 15 #[vA #[vS A_L L.length c_L, vS A_B B.length c_B], vI .i64 i, vI .i64 j] w (fun e w' => e = .returned (vB (apartE L i j)) ∧ Fr No w w') := by
 have _hu := hc_L; have _hv := hr_L; clear _hu _hv
 have _hu := hc_B; have _hv := hr_B; clear _hu _hv
 have _hu := hk_B; have _hv := hn_B; clear _hu _hv
 have _hu := hL; clear _hu
 have _hu := hev; clear _hu
 have _hu := hB; clear _hu
 have _hu := hi; clear _hu
 have _hu := hj; clear _hu
 have hbl_ := ah_blen hB
 refine enter_E 46 Tryz.func15 rfl rfl (by kernel_rfl) (L := [(0, vA #[vS A_L L.length c_L, vS A_B B.length c_B]), (1, vI .i64 i), (2, vI .i64 j)]) (by kernel_rfl) ?_
 intro ac hA
 have hW := Ws.start w No
 have hW := hW.arg hr_L
 have hW := hW.arg hr_B
 have hW := hW.addG _ hn_B (nest_ltBV hn_B) (by simp)
 refine wr <| st_s hA (Runs.cells (fun b => pA b 0) #[vS A_L L.length c_L, vS A_B B.length c_B] 46 (fun _ => by kernel_rfl) hW ?_); clear hA ac hW; intro b1 w2 hW hb1 hfw2 ac hA
 refine st_p (vB false) hA ?_; clear hA ac; intro ac hA
 refine wn <| wr <| st_p (vI .i64 i) hA fun ac hA => st_p (vB (decide ((i : Int) ≥ (0 : Int)))) hA fun ac hA => st_p (vB (decide ((i : Int) ≥ (0 : Int)))) hA fun ac hA => ?_
 rcases Bool.eq_false_or_eq_true (decide ((i : Int) ≥ (0 : Int))) with h3 | h3
 ·
  rw [h3] at hA
  have h3 := of_decide_eq_true h3
  refine st_p (vI .i64 j) hA fun ac hA => st_p (vB (decide ((j : Int) ≥ (0 : Int)))) hA fun ac hA => st_p (vB (decide ((j : Int) ≥ (0 : Int)))) hA fun ac hA => st_p (vB (decide ((j : Int) ≥ (0 : Int)))) hA fun ac hA => ?_
  rcases Bool.eq_false_or_eq_true (decide ((j : Int) ≥ (0 : Int))) with h4 | h4
  ·
   rw [h4] at hA
   have h4 := of_decide_eq_true h4
   refine st_p (vI .i64 i) hA fun ac hA => st_p (pA b1 0) hA fun ac hA => st_q (vS A_L L.length c_L) hA hW.cls (rl b1 0 0) fun ac hA => st_p (vI .i64 (L.length : Int)) hA fun ac hA => st_p (vB (decide ((i : Int) < (L.length : Int)))) hA fun ac hA => st_p (vB (decide ((i : Int) < (L.length : Int)))) hA fun ac hA => st_p (vB (decide ((i : Int) < (L.length : Int)))) hA fun ac hA => ?_
   rcases Bool.eq_false_or_eq_true (decide ((i : Int) < (L.length : Int))) with h5 | h5
   ·
    rw [h5] at hA
    have h5 := of_decide_eq_true h5
    refine st_p (vI .i64 j) hA fun ac hA => st_p (pA b1 0) hA fun ac hA => st_q (vS A_L L.length c_L) hA hW.cls (rl b1 0 0) fun ac hA => st_p (vI .i64 (L.length : Int)) hA fun ac hA => st_p (vB (decide ((j : Int) < (L.length : Int)))) hA fun ac hA => st_p (vB (decide ((j : Int) < (L.length : Int)))) hA fun ac hA => st_p (vB (decide ((j : Int) < (L.length : Int)))) hA fun ac hA => ?_
    rcases Bool.eq_false_or_eq_true (decide ((j : Int) < (L.length : Int))) with h6 | h6
    ·
     rw [h6] at hA
     have h6 := of_decide_eq_true h6
     refine st_p (vI .i64 i) hA fun ac hA => st_p (vI .i64 j) hA fun ac hA => st_p (vB ((i : Int) != (j : Int))) hA fun ac hA => st_p (vB ((i : Int) != (j : Int))) hA fun ac hA => st_p (vB ((i : Int) != (j : Int))) hA fun ac hA => ?_
     rcases Bool.eq_false_or_eq_true ((i : Int) != (j : Int)) with h7 | h7
     ·
      rw [h7] at hA
      have h7 := bne_iff_ne.1 h7
      refine st_q (vA #[vS A_L L.length c_L, vS A_B B.length c_B]) hA hW.cls (rl b1 0 0) fun ac hA => st_p (vI .i64 i) hA fun ac hA => st_p (vI .i64 j) hA fun ac hA => st_s hA (Runs.callN (v := vB (befE L (i) (j))) (fun _ => by kernel_rfl) hW (e_rbefore A_L c_L L A_B c_B B (i) (j) w2 ((hW).getG 2 rfl) (by first | assumption | omega | (simp; omega) | simp) ((hW).getG 1 rfl) (by first | assumption | omega | (simp; omega) | simp) ((hW).getG 0 rfl) hk_B (by first | omega | assumption | exact ⟨by omega, by omega⟩) (by first | omega | assumption | exact ⟨by omega, by omega⟩) (by first | omega | assumption | exact ⟨by omega, by omega⟩) (by first | omega | assumption | exact ⟨by omega, by omega⟩) (by first | omega | assumption | exact ⟨by omega, by omega⟩)) ?_); clear hA ac hW; intro w8 hW hfw8 ac hA
      refine st_p (vB (!(befE L (i) (j)))) hA fun ac hA => st_p (vB (!(befE L (i) (j)))) hA fun ac hA => st_p (vB (!(befE L (i) (j)))) hA fun ac hA => ?_
      rcases Bool.eq_false_or_eq_true (!(befE L (i) (j))) with h9 | h9
      ·
       rw [h9] at hA
       have h9 := not_t h9
       refine st_q (vA #[vS A_L L.length c_L, vS A_B B.length c_B]) hA hW.cls (rl b1 0 0) fun ac hA => st_p (vI .i64 j) hA fun ac hA => st_p (vI .i64 i) hA fun ac hA => st_s hA (Runs.callN (v := vB (befE L (j) (i))) (fun _ => by kernel_rfl) hW (e_rbefore A_L c_L L A_B c_B B (j) (i) w8 ((hW).getG 2 rfl) (by first | assumption | omega | (simp; omega) | simp) ((hW).getG 1 rfl) (by first | assumption | omega | (simp; omega) | simp) ((hW).getG 0 rfl) hk_B (by first | omega | assumption | exact ⟨by omega, by omega⟩) (by first | omega | assumption | exact ⟨by omega, by omega⟩) (by first | omega | assumption | exact ⟨by omega, by omega⟩) (by first | omega | assumption | exact ⟨by omega, by omega⟩) (by first | omega | assumption | exact ⟨by omega, by omega⟩)) ?_); clear hA ac hW; intro w10 hW hfw10 ac hA
       refine st_p (vB (!(befE L (j) (i)))) hA fun ac hA => st_p (vB (!(befE L (j) (i)))) hA fun ac hA => st_p (vB (!(befE L (j) (i)))) hA fun ac hA => wn <| wp_ret <| r1 (vB (!(befE L (j) (i)))) hA ?_
       clear hA
       exact ⟨retv (congrArg vB (by unfold apartE; rw [decide_eq_true (by omega)]; rw [h9]; rfl)), hW.fr⟩
      rw [h9] at hA
      have h9 := not_f h9
      refine st_k hA fun ac hA => st_k hA fun ac hA => st_k hA fun ac hA => st_k hA fun ac hA => st_k hA fun ac hA => st_p (vB false) hA fun ac hA => st_p (vB false) hA fun ac hA => wn <| wp_ret <| r1 (vB false) hA ?_
      clear hA
      exact ⟨retv (congrArg vB (by unfold apartE; rw [h9]; simp)), hW.fr⟩
     rw [h7] at hA
     have h7 := of_bne_f h7
     refine st_k hA fun ac hA => st_k hA fun ac hA => st_k hA fun ac hA => st_k hA fun ac hA => st_k hA fun ac hA => st_p (vB false) hA fun ac hA => st_p (vB false) hA fun ac hA => st_k hA fun ac hA => st_k hA fun ac hA => st_k hA fun ac hA => st_k hA fun ac hA => st_k hA fun ac hA => st_p (vB false) hA fun ac hA => st_p (vB false) hA fun ac hA => wn <| wp_ret <| r1 (vB false) hA ?_
     clear hA
     exact ⟨retv (congrArg vB (by unfold apartE; rw [decide_eq_false (by omega)]; rfl)), hW.fr⟩
    rw [h6] at hA
    have h6 := of_decide_eq_false h6
    refine st_k hA fun ac hA => st_k hA fun ac hA => st_k hA fun ac hA => st_p (vB false) hA fun ac hA => st_p (vB false) hA fun ac hA => st_k hA fun ac hA => st_k hA fun ac hA => st_k hA fun ac hA => st_k hA fun ac hA => st_k hA fun ac hA => st_p (vB false) hA fun ac hA => st_p (vB false) hA fun ac hA => st_k hA fun ac hA => st_k hA fun ac hA => st_k hA fun ac hA => st_k hA fun ac hA => st_k hA fun ac hA => st_p (vB false) hA fun ac hA => st_p (vB false) hA fun ac hA => wn <| wp_ret <| r1 (vB false) hA ?_
    clear hA
    exact ⟨retv (congrArg vB (by unfold apartE; rw [decide_eq_false (by omega)]; rfl)), hW.fr⟩
   rw [h5] at hA
   have h5 := of_decide_eq_false h5
   refine st_k hA fun ac hA => st_k hA fun ac hA => st_k hA fun ac hA => st_k hA fun ac hA => st_k hA fun ac hA => st_p (vB false) hA fun ac hA => st_p (vB false) hA fun ac hA => st_k hA fun ac hA => st_k hA fun ac hA => st_k hA fun ac hA => st_p (vB false) hA fun ac hA => st_p (vB false) hA fun ac hA => st_k hA fun ac hA => st_k hA fun ac hA => st_k hA fun ac hA => st_k hA fun ac hA => st_k hA fun ac hA => st_p (vB false) hA fun ac hA => st_p (vB false) hA fun ac hA => st_k hA fun ac hA => st_k hA fun ac hA => st_k hA fun ac hA => st_k hA fun ac hA => st_k hA fun ac hA => st_p (vB false) hA fun ac hA => st_p (vB false) hA fun ac hA => wn <| wp_ret <| r1 (vB false) hA ?_
   clear hA
   exact ⟨retv (congrArg vB (by unfold apartE; rw [decide_eq_false (by omega)]; rfl)), hW.fr⟩
  rw [h4] at hA
  have h4 := of_decide_eq_false h4
  refine st_k hA fun ac hA => st_k hA fun ac hA => st_k hA fun ac hA => st_k hA fun ac hA => st_k hA fun ac hA => st_p (vB false) hA fun ac hA => st_p (vB false) hA fun ac hA => st_k hA fun ac hA => st_k hA fun ac hA => st_k hA fun ac hA => st_k hA fun ac hA => st_k hA fun ac hA => st_p (vB false) hA fun ac hA => st_p (vB false) hA fun ac hA => st_k hA fun ac hA => st_k hA fun ac hA => st_k hA fun ac hA => st_p (vB false) hA fun ac hA => st_p (vB false) hA fun ac hA => st_k hA fun ac hA => st_k hA fun ac hA => st_k hA fun ac hA => st_k hA fun ac hA => st_k hA fun ac hA => st_p (vB false) hA fun ac hA => st_p (vB false) hA fun ac hA => st_k hA fun ac hA => st_k hA fun ac hA => st_k hA fun ac hA => st_k hA fun ac hA => st_k hA fun ac hA => st_p (vB false) hA fun ac hA => st_p (vB false) hA fun ac hA => wn <| wp_ret <| r1 (vB false) hA ?_
  clear hA
  exact ⟨retv (congrArg vB (by unfold apartE; rw [decide_eq_false (by omega)]; rfl)), hW.fr⟩
 rw [h3] at hA
 have h3 := of_decide_eq_false h3
 refine st_k hA fun ac hA => st_k hA fun ac hA => st_p (vB false) hA fun ac hA => st_p (vB false) hA fun ac hA => st_k hA fun ac hA => st_k hA fun ac hA => st_k hA fun ac hA => st_k hA fun ac hA => st_k hA fun ac hA => st_p (vB false) hA fun ac hA => st_p (vB false) hA fun ac hA => st_k hA fun ac hA => st_k hA fun ac hA => st_k hA fun ac hA => st_k hA fun ac hA => st_k hA fun ac hA => st_p (vB false) hA fun ac hA => st_p (vB false) hA fun ac hA => st_k hA fun ac hA => st_k hA fun ac hA => st_k hA fun ac hA => st_p (vB false) hA fun ac hA => st_p (vB false) hA fun ac hA => st_k hA fun ac hA => st_k hA fun ac hA => st_k hA fun ac hA => st_k hA fun ac hA => st_k hA fun ac hA => st_p (vB false) hA fun ac hA => st_p (vB false) hA fun ac hA => st_k hA fun ac hA => st_k hA fun ac hA => st_k hA fun ac hA => st_k hA fun ac hA => st_k hA fun ac hA => st_p (vB false) hA fun ac hA => st_p (vB false) hA fun ac hA => wn <| wp_ret <| r1 (vB false) hA ?_
 clear hA
 exact ⟨retv (congrArg vB (by unfold apartE; rw [decide_eq_false (by omega)]; rfl)), hW.fr⟩

end Go.Proofs.YtoakhhilmnfpkaaGreatDoor.L
