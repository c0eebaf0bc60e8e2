/- Contracts, walked by program over the engine's laws. -/
import Derived.Test.YtefmglgejjaipaaGreatDoorProg
import Derived.Test.YtefmglgejjaipaaGreatDoorT15
import Derived.Test.YtefmglgejjaipaaGreatDoorRel20
namespace Go.Proofs.YtefmglgejjaipaaGreatDoor.L
open Go.RowKit
open Go.Value renaming int → vI, slice → vS, bool → vB, pointer → vP, func → vF, agg → vA, map → vM, tuple → vT

def enBo (x : Bool) : List Value := [.bool x]
structure BV where
  l : List Bool
  l_A : Option Addr
  l_c : Nat
def BV.v (x : BV) : Value := .slice x.l_A x.l.length x.l_c
def enBV (x : BV) : List Value := [.slice x.l_A x.l.length x.l_c]
theorem elt_Bo : Elt Tryz.prog 4 1 enBo := ⟨⟨vB false, 1, by kernel_rfl, rfl, by decide⟩, by decide, fun _ => rfl, fun x u hu => List.all_eq_true.1 (show (enBo x).all (·.oneCell') = true from rfl) u hu⟩
theorem elt_BV : Elt Tryz.prog 76 1 enBV := ⟨⟨vS none 0 0, 24, by kernel_rfl, rfl, by decide⟩, by decide, fun _ => rfl, fun x u hu => List.all_eq_true.1 (show (enBV x).all (·.oneCell') = true from rfl) u hu⟩
def innerBV (x : BV) : Res := roR x.l_A 1 enBo x.l
def capBV (x : BV) : Prop := x.l.length ≤ x.l_c
theorem nest_ltBV {V : List BV} {w : World} (h : (nestR innerBV V).p w) : ∀ b ∈ (nestR innerBV V).fp, b < w.heap.size := nest_lt (A := fun x : BV => x.l_A) (sz := fun _ => 1) (L := fun x : BV => x.l) (en := enBo) h
def rowM (E : List Event) (j : Nat) : List Bool := (List.range j).map fun i : Nat => befE E (i : Int) (j : Int)
/-- Of each event which are before it. -/
def ahM (E : List Event) : List (List Bool) := (List.range E.length).map (rowM E)
theorem bef_snoc {E : List Event} {x : Event} (h : ∀ e ∈ E, EvOk e) (hx : EvOk x) {i j : Nat} (hj : j < E.length) : befE (E ++ [x]) (i : Int) (j : Int) = befE E (i : Int) (j : Int) := by
  have h' : ∀ e ∈ E ++ [x], EvOk e := fun e he => by rcases List.mem_append.1 he with q | q; exact h e q; (rw [List.mem_singleton.1 q]; exact hx)
  by_cases hij : i < j
  · rw [Bool.eq_iff_iff, bef_iff h' hij (by simp; omega), bef_iff h hij hj, hb_old hj]
  · unfold befE; rw [decide_eq_false (by omega), decide_eq_false (by omega)]; rfl
theorem led_new {E : List Event} {x : Event} (h : ∀ e ∈ E, EvOk e) (hx : EvOk x) {k : Nat} (hk : k < E.length) : befE (E ++ [x]) (k : Int) (E.length : Int) = true ↔ ∃ q a, E[q]? = some a ∧ EvLeads a x ∧ (k = q ∨ befE E (k : Int) (q : Int) = true) := by
  have h' : ∀ e ∈ E ++ [x], EvOk e := fun e he => by rcases List.mem_append.1 he with q | q; exact h e q; (rw [List.mem_singleton.1 q]; exact hx)
  rw [bef_iff h' hk (by simp), Hb.iff]
  constructor
  · rintro ⟨q, a, b, hq, ha, hb, hl, hi⟩
    rw [at_old hq] at ha; rw [at_new] at hb; cases hb
    exact ⟨q, a, ha, hl, hi.imp Eq.symm (fun r => (bef_iff h r.lt hq).2 (r.old hq))⟩
  · rintro ⟨q, a, ha, hl, hi⟩
    have hq := (List.getElem?_eq_some_iff.1 ha).1
    exact ⟨q, a, x, hq, by rw [at_old hq]; exact ha, at_new, hl, hi.imp Eq.symm (fun r => ((bef_iff h (by obtain ⟨_, _, e1, e2, q1, _⟩ := bef_nat r; omega) hq).1 r).snoc)⟩
theorem ah_snoc {E : List Event} {x : Event} (h : ∀ e ∈ E, EvOk e) (hx : EvOk x) : ahM (E ++ [x]) = ahM E ++ [rowM (E ++ [x]) E.length] := by
  unfold ahM
  rw [List.length_append, List.length_singleton, List.range_succ, List.map_append]
  congr 1
  refine List.map_congr_left fun j hj => ?_
  unfold rowM
  exact List.map_congr_left fun i _ => bef_snoc h hx (List.mem_range.1 hj)
theorem ah_at {E : List Event} {B : List BV} (hB : B.map BV.l = ahM E) {j : Nat} {r : List Bool} {A : Option Addr} {c : Nat} (hj : B[j]? = some (⟨r, A, c⟩ : BV)) : r = rowM E j ∧ j < E.length := by
  have h1 : (B.map BV.l)[j]? = some r := by rw [List.getElem?_map, hj]; rfl
  rw [hB] at h1; unfold ahM at h1
  have hl := (List.getElem?_eq_some_iff.1 h1).1
  rw [List.length_map, List.length_range] at hl
  rw [List.getElem?_map, List.getElem?_range hl] at h1
  exact ⟨(Option.some.inj h1).symm, hl⟩
theorem ah_len {E : List Event} {B : List BV} (hB : B.map BV.l = ahM E) {j : Nat} {r : List Bool} {A : Option Addr} {c : Nat} (hj : B[j]? = some (⟨r, A, c⟩ : BV)) : r.length = j := by rw [(ah_at hB hj).1]; simp [rowM]
theorem ah_el {E : List Event} {B : List BV} (hB : B.map BV.l = ahM E) {i j : Nat} {r : List Bool} {A : Option Addr} {c : Nat} {b : Bool} (hj : B[j]? = some (⟨r, A, c⟩ : BV)) (hi : r[i]? = some b) : b = befE E (i : Int) (j : Int) := by
  obtain ⟨rfl, -⟩ := ah_at hB hj
  have hl := (List.getElem?_eq_some_iff.1 hi).1
  unfold rowM at hi hl
  rw [List.length_map, List.length_range] at hl
  rw [List.getElem?_map, List.getElem?_range hl] at hi
  exact (Option.some.inj hi).symm
theorem ah_el' {E : List Event} {B : List BV} (hB : B.map BV.l = ahM E) {i j : Int} {r : List Bool} {A : Option Addr} {c : Nat} {b : Bool} (h0 : 0 ≤ i) (h1 : 0 ≤ j) (hj : B[j.toNat]? = some (⟨r, A, c⟩ : BV)) (hi : r[i.toNat]? = some b) : b = befE E i j := by
  have := ah_el hB hj hi; rwa [Int.toNat_of_nonneg h0, Int.toNat_of_nonneg h1] at this
theorem ah_blen {E : List Event} {B : List BV} (hB : B.map BV.l = ahM E) : B.length = E.length := by have := congrArg List.length hB; simpa [ahM] using this
theorem ah_cap {E : List Event} {B : List BV} (hB : B.map BV.l = ahM E) (hl : E.length ≤ 4096) : ∀ x ∈ B, x.l.length ≤ 4096 := fun x hx => by
  obtain ⟨j, hj⟩ := List.getElem?_of_mem hx
  obtain ⟨r, A, c⟩ := x
  have := ah_len hB hj; have := (ah_at hB hj).2; show r.length ≤ 4096; omega
/-! ### a row under way -/
def Under (L : List Event) (x : Event) (u : Nat) (d : List Bool) : Prop := ∀ k, k < L.length → (d[k]? = some true ↔ ∃ q a, u ≤ q ∧ L[q]? = some a ∧ EvLeads a x ∧ (k = q ∨ befE L (k : Int) (q : Int) = true))
theorem Under.start (L : List Event) (x : Event) : Under L x L.length (List.replicate L.length false) := fun k hk => by
  rw [List.getElem?_replicate, if_pos hk]
  constructor
  · intro h; cases h
  · rintro ⟨q, a, hq, ha, -⟩; have := (List.getElem?_eq_some_iff.1 ha).1; omega
theorem Under.skip {L : List Event} {x y : Event} {u : Nat} {d : List Bool} (h : Under L x (u + 1) d) (hy : L[u]? = some y) (hn : ¬ EvLeads y x) : Under L x u d := fun k hk => by
  rw [h k hk]
  constructor
  · rintro ⟨q, a, hq, r⟩; exact ⟨q, a, by omega, r⟩
  · rintro ⟨q, a, hq, ha, hl, r⟩
    by_cases e : q = u
    · rw [e, hy] at ha; cases ha; exact absurd hl hn
    · exact ⟨q, a, by omega, ha, hl, r⟩
def Under2 (L : List Event) (u v : Nat) (d d2 : List Bool) : Prop := ∀ k, k < L.length → (d2[k]? = some true ↔ d[k]? = some true ∨ k = u ∨ (k < v ∧ befE L (k : Int) (u : Int) = true))
theorem Under2.start {L : List Event} {u : Nat} {d : List Bool} (hl : d.length = L.length) (hu : u < L.length) : Under2 L u 0 d (d.set u true) := fun k hk => by
  by_cases e : k = u
  · subst e; rw [List.getElem?_set_self (by omega)]; simp
  · rw [List.getElem?_set_ne (fun q => e q.symm)]; simp [e]
theorem Under2.step {L : List Event} {u v : Nat} {d d2 : List Bool} (h : Under2 L u v d d2) (hl : d2.length = L.length) (hv : v < L.length) {b : Bool} (hb : b = true ↔ (d2[v]? = some true ∨ befE L (v : Int) (u : Int) = true)) : Under2 L u (v + 1) d (d2.set v b) := fun k hk => by
  by_cases e : k = v
  · subst e
    rw [List.getElem?_set_self (by omega), Option.some.injEq, hb, h k hk]
    constructor
    · rintro ((q | q | ⟨q, r⟩) | q)
      · exact .inl q
      · exact .inr (.inl q)
      · exact .inr (.inr ⟨by omega, r⟩)
      · exact .inr (.inr ⟨by omega, q⟩)
    · rintro (q | q | ⟨q, r⟩)
      · exact .inl (.inl q)
      · exact .inl (.inr (.inl q))
      · exact .inr r
  · rw [List.getElem?_set_ne (fun q => e q.symm), h k hk]
    constructor
    · rintro (q | q | ⟨q, r⟩)
      · exact .inl q
      · exact .inr (.inl q)
      · exact .inr (.inr ⟨by omega, r⟩)
    · rintro (q | q | ⟨q, r⟩)
      · exact .inl q
      · exact .inr (.inl q)
      · exact .inr (.inr ⟨by omega, r⟩)
theorem Under.next {L : List Event} {x y : Event} {u v : Nat} {d d2 : List Bool} (h : Under L x (u + 1) d) (hy : L[u]? = some y) (hn : EvLeads y x) (h2 : Under2 L u v d d2) (hv : u ≤ v) : Under L x u d2 := fun k hk => by
  rw [h2 k hk, h k hk]
  constructor
  · rintro (⟨q, a, hq, r⟩ | q | ⟨-, q⟩)
    · exact ⟨q, a, by omega, r⟩
    · exact ⟨u, y, Nat.le_refl _, hy, hn, .inl q⟩
    · exact ⟨u, y, Nat.le_refl _, hy, hn, .inr q⟩
  · rintro ⟨q, a, hq, ha, hl, r⟩
    by_cases e : q = u
    · subst e
      rcases r with r | r
      · exact .inr (.inl r)
      · exact .inr (.inr ⟨by obtain ⟨_, _, e1, e2, q1, _⟩ := bef_nat r; omega, r⟩)
    · exact .inl ⟨q, a, by omega, ha, hl, r⟩
theorem Under.done {L : List Event} {x : Event} {d : List Bool} (h : ∀ e ∈ L, EvOk e) (hx : EvOk x) (hd : Under L x 0 d) (hl : d.length = L.length) : d = rowM (L ++ [x]) L.length := by
  refine List.ext_getElem? fun k => ?_
  unfold rowM
  by_cases hk : k < L.length
  · rw [List.getElem?_map, List.getElem?_range hk]
    have h1 := hd k hk
    have h2 := led_new h hx hk
    obtain ⟨b, hb⟩ : ∃ b, d[k]? = some b := ⟨_, List.getElem?_eq_getElem (by omega)⟩
    rw [hb] at h1 ⊢
    show some b = some (befE (L ++ [x]) (k : Int) (L.length : Int))
    rw [Option.some.injEq, Bool.eq_iff_iff, h2, ← Option.some.injEq, h1]
    constructor
    · rintro ⟨q, a, -, r⟩; exact ⟨q, a, r⟩
    · rintro ⟨q, a, r⟩; exact ⟨q, a, Nat.zero_le _, r⟩
  · rw [List.getElem?_eq_none (by omega), List.getElem?_eq_none (by simp; omega)]

end Go.Proofs.YtefmglgejjaipaaGreatDoor.L
