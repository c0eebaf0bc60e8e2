/- Contracts, walked by program over the engine's laws. -/
import Derived.Test.YtfkbjfbbigbacaaGreatDoorProg
import Derived.Test.YtfkbjfbbigbacaaGreatDoorT12
import Derived.Test.YtfkbjfbbigbacaaGreatDoorRel20
namespace Go.Proofs.YtfkbjfbbigbacaaGreatDoor.L
open Go.RowKit
open Go.Value renaming int → vI, slice → vS, bool → vB, pointer → vP, func → vF, agg → vA, map → vM, tuple → vT

/-- Are events so many at most, of goroutines below 200 (or none's)? -/
def fewOk (l : List Event) (m : Int) : Bool := (l.take (m + 1).toNat).all (fun x => !(evOk x && (decide (x.g ≥ 200) || decide (x.child ≥ 200)))) && decide ((l.length : Int) ≤ m)
theorem few_no {l : List Event} {m : Int} {k : Nat} {y : Event} (hy : l[k]? = some y) (hk : (k : Int) ≤ m) (h : evOk y = true) (h2 : y.g ≥ 200 ∨ y.child ≥ 200) : fewOk l m = false := by
  unfold fewOk
  rw [Bool.and_eq_false_iff]; left
  rw [List.all_eq_false]
  refine ⟨y, List.mem_of_getElem? (i := k) (by rw [List.getElem?_take, if_pos (by omega)]; exact hy), ?_⟩
  rw [h]; simp; omega
theorem few_yes {l : List Event} {m : Int} {k : Nat} (h : ∀ x ∈ l.take k, ¬ (evOk x = true ∧ (x.g ≥ 200 ∨ x.child ≥ 200))) (hk : l.length ≤ k ∨ m < k) (hm : 0 ≤ m) : fewOk l m = decide ((l.length : Int) ≤ m) := by
  unfold fewOk
  rw [List.all_eq_true.2, Bool.true_and]
  intro x hx
  have hx' : x ∈ l.take k := by
    rcases hk with hk | hk
    · rw [List.take_of_length_le hk]; exact List.mem_of_mem_take hx
    · have e : l.take (m + 1).toNat = (l.take k).take (m + 1).toNat := by rw [List.take_take, Nat.min_eq_left (by omega)]
      rw [e] at hx; exact List.mem_of_mem_take hx
  have := h x hx'
  cases e : evOk x
  · rfl
  · rw [e] at this; simp at this ⊢; omega
def enBo (x : Bool) : List Value := [.bool x]
structure BV where
  l : List Bool
  l_A : Option Addr
  l_c : Nat
def BV.v (x : BV) : Value := .slice x.l_A x.l.length x.l_c
def enBV (x : BV) : List Value := [.slice x.l_A x.l.length x.l_c]
theorem elt_Bo : Elt Tryz.prog 4 1 enBo := ⟨⟨vB false, 1, by kernel_rfl, rfl, by decide⟩, by decide, fun _ => rfl, fun x u hu => List.all_eq_true.1 (show (enBo x).all (·.oneCell') = true from rfl) u hu⟩
theorem elt_BV : Elt Tryz.prog 114 1 enBV := ⟨⟨vS none 0 0, 24, by kernel_rfl, rfl, by decide⟩, by decide, fun _ => rfl, fun x u hu => List.all_eq_true.1 (show (enBV x).all (·.oneCell') = true from rfl) u hu⟩
def innerBV (x : BV) : Res := roR x.l_A 1 enBo x.l
def capBV (x : BV) : Prop := x.l.length ≤ x.l_c
theorem nest_ltBV {V : List BV} {w : World} (h : (nestR innerBV V).p w) : ∀ b ∈ (nestR innerBV V).fp, b < w.heap.size := nest_lt (A := fun x : BV => x.l_A) (sz := fun _ => 1) (L := fun x : BV => x.l) (en := enBo) h
def rowM (E : List Event) (j : Nat) : List Bool := (List.range j).map fun i : Nat => befE E (i : Int) (j : Int)
/-- Of each event which are before it. -/
def ahM (E : List Event) : List (List Bool) := (List.range E.length).map (rowM E)
theorem bef_snoc {E : List Event} {x : Event} (h : ∀ e ∈ E, EvOk e) (hx : EvOk x) {i j : Nat} (hj : j < E.length) : befE (E ++ [x]) (i : Int) (j : Int) = befE E (i : Int) (j : Int) := by
  have h' : ∀ e ∈ E ++ [x], EvOk e := fun e he => by rcases List.mem_append.1 he with q | q; exact h e q; (rw [List.mem_singleton.1 q]; exact hx)
  by_cases hij : i < j
  · rw [Bool.eq_iff_iff, bef_iff h' hij (by simp; omega), bef_iff h hij hj, hb_old hj]
  · unfold befE; rw [decide_eq_false (by omega), decide_eq_false (by omega)]; rfl
theorem led_new {E : List Event} {x : Event} (h : ∀ e ∈ E, EvOk e) (hx : EvOk x) {k : Nat} (hk : k < E.length) : befE (E ++ [x]) (k : Int) (E.length : Int) = true ↔ ∃ q a, E[q]? = some a ∧ EvLeads a x ∧ (k = q ∨ befE E (k : Int) (q : Int) = true) := by
  have h' : ∀ e ∈ E ++ [x], EvOk e := fun e he => by rcases List.mem_append.1 he with q | q; exact h e q; (rw [List.mem_singleton.1 q]; exact hx)
  rw [bef_iff h' hk (by simp), Hb.iff]
  constructor
  · rintro ⟨q, a, b, hq, ha, hb, hl, hi⟩
    rw [at_old hq] at ha; rw [at_new] at hb; cases hb
    exact ⟨q, a, ha, hl, hi.imp Eq.symm (fun r => (bef_iff h r.lt hq).2 (r.old hq))⟩
  · rintro ⟨q, a, ha, hl, hi⟩
    have hq := (List.getElem?_eq_some_iff.1 ha).1
    exact ⟨q, a, x, hq, by rw [at_old hq]; exact ha, at_new, hl, hi.imp Eq.symm (fun r => ((bef_iff h (by obtain ⟨_, _, e1, e2, q1, _⟩ := bef_nat r; omega) hq).1 r).snoc)⟩
theorem ah_snoc {E : List Event} {x : Event} (h : ∀ e ∈ E, EvOk e) (hx : EvOk x) : ahM (E ++ [x]) = ahM E ++ [rowM (E ++ [x]) E.length] := by
  unfold ahM
  rw [List.length_append, List.length_singleton, List.range_succ, List.map_append]
  congr 1
  refine List.map_congr_left fun j hj => ?_
  unfold rowM
  exact List.map_congr_left fun i _ => bef_snoc h hx (List.mem_range.1 hj)
theorem ah_at {E : List Event} {B : List BV} (hB : B.map BV.l = ahM E) {j : Nat} {r : List Bool} {A : Option Addr} {c : Nat} (hj : B[j]? = some (⟨r, A, c⟩ : BV)) : r = rowM E j ∧ j < E.length := by
  have h1 : (B.map BV.l)[j]? = some r := by rw [List.getElem?_map, hj]; rfl
  rw [hB] at h1; unfold ahM at h1
  have hl := (List.getElem?_eq_some_iff.1 h1).1
  rw [List.length_map, List.length_range] at hl
  rw [List.getElem?_map, List.getElem?_range hl] at h1
  exact ⟨(Option.some.inj h1).symm, hl⟩
theorem ah_len {E : List Event} {B : List BV} (hB : B.map BV.l = ahM E) {j : Nat} {r : List Bool} {A : Option Addr} {c : Nat} (hj : B[j]? = some (⟨r, A, c⟩ : BV)) : r.length = j := by rw [(ah_at hB hj).1]; simp [rowM]
theorem ah_el {E : List Event} {B : List BV} (hB : B.map BV.l = ahM E) {i j : Nat} {r : List Bool} {A : Option Addr} {c : Nat} {b : Bool} (hj : B[j]? = some (⟨r, A, c⟩ : BV)) (hi : r[i]? = some b) : b = befE E (i : Int) (j : Int) := by
  obtain ⟨rfl, -⟩ := ah_at hB hj
  have hl := (List.getElem?_eq_some_iff.1 hi).1
  unfold rowM at hi hl
  rw [List.length_map, List.length_range] at hl
  rw [List.getElem?_map, List.getElem?_range hl] at hi
  exact (Option.some.inj hi).symm
theorem ah_el' {E : List Event} {B : List BV} (hB : B.map BV.l = ahM E) {i j : Int} {r : List Bool} {A : Option Addr} {c : Nat} {b : Bool} (h0 : 0 ≤ i) (h1 : 0 ≤ j) (hj : B[j.toNat]? = some (⟨r, A, c⟩ : BV)) (hi : r[i.toNat]? = some b) : b = befE E i j := by
  have := ah_el hB hj hi; rwa [Int.toNat_of_nonneg h0, Int.toNat_of_nonneg h1] at this
theorem ah_blen {E : List Event} {B : List BV} (hB : B.map BV.l = ahM E) : B.length = E.length := by have := congrArg List.length hB; simpa [ahM] using this
theorem ah_cap {E : List Event} {B : List BV} (hB : B.map BV.l = ahM E) (hl : E.length ≤ 4096) : ∀ x ∈ B, x.l.length ≤ 4096 := fun x hx => by
  obtain ⟨j, hj⟩ := List.getElem?_of_mem hx
  obtain ⟨r, A, c⟩ := x
  have := ah_len hB hj; have := (ah_at hB hj).2; show r.length ≤ 4096; omega
/-! ### a row under way -/
def Under (L : List Event) (x : Event) (u : Nat) (d : List Bool) : Prop := ∀ k, k < L.length → (d[k]? = some true ↔ ∃ q a, u ≤ q ∧ L[q]? = some a ∧ EvLeads a x ∧ (k = q ∨ befE L (k : Int) (q : Int) = true))
theorem Under.start (L : List Event) (x : Event) : Under L x L.length (List.replicate L.length false) := fun k hk => by
  rw [List.getElem?_replicate, if_pos hk]
  constructor
  · intro h; cases h
  · rintro ⟨q, a, hq, ha, -⟩; have := (List.getElem?_eq_some_iff.1 ha).1; omega
theorem Under.skip {L : List Event} {x y : Event} {u : Nat} {d : List Bool} (h : Under L x (u + 1) d) (hy : L[u]? = some y) (hn : ¬ EvLeads y x) : Under L x u d := fun k hk => by
  rw [h k hk]
  constructor
  · rintro ⟨q, a, hq, r⟩; exact ⟨q, a, by omega, r⟩
  · rintro ⟨q, a, hq, ha, hl, r⟩
    by_cases e : q = u
    · rw [e, hy] at ha; cases ha; exact absurd hl hn
    · exact ⟨q, a, by omega, ha, hl, r⟩
def Under2 (L : List Event) (u v : Nat) (d d2 : List Bool) : Prop := ∀ k, k < L.length → (d2[k]? = some true ↔ d[k]? = some true ∨ k = u ∨ (k < v ∧ befE L (k : Int) (u : Int) = true))
theorem Under2.start {L : List Event} {u : Nat} {d : List Bool} (hl : d.length = L.length) (hu : u < L.length) : Under2 L u 0 d (d.set u true) := fun k hk => by
  by_cases e : k = u
  · subst e; rw [List.getElem?_set_self (by omega)]; simp
  · rw [List.getElem?_set_ne (fun q => e q.symm)]; simp [e]
theorem Under2.step {L : List Event} {u v : Nat} {d d2 : List Bool} (h : Under2 L u v d d2) (hl : d2.length = L.length) (hv : v < L.length) {b : Bool} (hb : b = true ↔ (d2[v]? = some true ∨ befE L (v : Int) (u : Int) = true)) : Under2 L u (v + 1) d (d2.set v b) := fun k hk => by
  by_cases e : k = v
  · subst e
    rw [List.getElem?_set_self (by omega), Option.some.injEq, hb, h k hk]
    constructor
    · rintro ((q | q | ⟨q, r⟩) | q)
      · exact .inl q
      · exact .inr (.inl q)
      · exact .inr (.inr ⟨by omega, r⟩)
      · exact .inr (.inr ⟨by omega, q⟩)
    · rintro (q | q | ⟨q, r⟩)
      · exact .inl (.inl q)
      · exact .inl (.inr (.inl q))
      · exact .inr r
  · rw [List.getElem?_set_ne (fun q => e q.symm), h k hk]
    constructor
    · rintro (q | q | ⟨q, r⟩)
      · exact .inl q
      · exact .inr (.inl q)
      · exact .inr (.inr ⟨by omega, r⟩)
    · rintro (q | q | ⟨q, r⟩)
      · exact .inl q
      · exact .inr (.inl q)
      · exact .inr (.inr ⟨by omega, r⟩)
theorem Under.next {L : List Event} {x y : Event} {u v : Nat} {d d2 : List Bool} (h : Under L x (u + 1) d) (hy : L[u]? = some y) (hn : EvLeads y x) (h2 : Under2 L u v d d2) (hv : u ≤ v) : Under L x u d2 := fun k hk => by
  rw [h2 k hk, h k hk]
  constructor
  · rintro (⟨q, a, hq, r⟩ | q | ⟨-, q⟩)
    · exact ⟨q, a, by omega, r⟩
    · exact ⟨u, y, Nat.le_refl _, hy, hn, .inl q⟩
    · exact ⟨u, y, Nat.le_refl _, hy, hn, .inr q⟩
  · rintro ⟨q, a, hq, ha, hl, r⟩
    by_cases e : q = u
    · subst e
      rcases r with r | r
      · exact .inr (.inl r)
      · exact .inr (.inr ⟨by obtain ⟨_, _, e1, e2, q1, _⟩ := bef_nat r; omega, r⟩)
    · exact .inl ⟨q, a, by omega, ha, hl, r⟩
theorem Under.done {L : List Event} {x : Event} {d : List Bool} (h : ∀ e ∈ L, EvOk e) (hx : EvOk x) (hd : Under L x 0 d) (hl : d.length = L.length) : d = rowM (L ++ [x]) L.length := by
  refine List.ext_getElem? fun k => ?_
  unfold rowM
  by_cases hk : k < L.length
  · rw [List.getElem?_map, List.getElem?_range hk]
    have h1 := hd k hk
    have h2 := led_new h hx hk
    obtain ⟨b, hb⟩ : ∃ b, d[k]? = some b := ⟨_, List.getElem?_eq_getElem (by omega)⟩
    rw [hb] at h1 ⊢
    show some b = some (befE (L ++ [x]) (k : Int) (L.length : Int))
    rw [Option.some.injEq, Bool.eq_iff_iff, h2, ← Option.some.injEq, h1]
    constructor
    · rintro ⟨q, a, -, r⟩; exact ⟨q, a, r⟩
    · rintro ⟨q, a, r⟩; exact ⟨q, a, Nat.zero_le _, r⟩
  · rw [List.getElem?_eq_none (by omega), List.getElem?_eq_none (by simp; omega)]
set_option maxRecDepth 100000 in
theorem e_lfew (A_l : Option Addr) (c_l : Nat) (l : List Event) (m : Int) (w : World) (hr_l : RowAt w A_l 9 enEvent l) (hc_l : l.length ≤ c_l) (hl : l.length ≤ 9223372036854775807) (hel : ∀ x ∈ l, (-9223372036854775808 ≤ x.kind ∧ x.kind ≤ 9223372036854775807) ∧ 0 ≤ x.addr ∧ x.addr ≤ 4294967295) (hm : 0 ≤ m) (hm2 : m ≤ 1000) : Calls Tryz.prog 8 #[vS A_l l.length c_l, vI .i64 m] w (fun e w' => e = .returned (vB (fewOk l m)) ∧ Fr No w w') := by
 have _hu := hc_l; have _hv := hr_l; clear _hu _hv
 have _hu := hl; clear _hu
 have _hu := hel; clear _hu
 have _hu := hm; clear _hu
 have _hu := hm2; clear _hu
 refine enter_E 42 Tryz.func8 rfl rfl (by kernel_rfl) (L := [(0, vS A_l l.length c_l), (1, vI .i64 m)]) (by kernel_rfl) ?_
 intro ac hA
 have hW := Ws.start w No
 have hW := hW.arg hr_l
 refine wr <| st_p (vB false) hA ?_; clear hA ac; intro ac hA
 refine wn <| wp_seq <| wr <| st_p (vI .i64 0) hA ?_; clear hA ac; intro ac hA
 refine wn <| wp_block <| wp_loop_m (fun m_ ac_ wl_ => ∃ k : Nat, m_ = l.length - k ∧ (k ≤ l.length) ∧ (∀ x ∈ l.take k, ¬ (evOk x = true ∧ (x.g ≥ 200 ∨ x.child ≥ 200))) ∧ ((k : Int) ≤ m + 1) ∧ Fm 42 [] [(0, vS A_l l.length c_l), (1, vI .i64 m), (5, vI .i64 (k : Int))] ac_ ∧ Ws w No [] [roR A_l 9 enEvent l] wl_) _ ⟨0, rfl, by omega, by intro x hx; simp at hx, by omega, hA.sub (by and_intros <;> first | kernel_rfl | trivial), (hW.pick [] (by decide) rfl).pickG [0] rfl⟩ ?_
 clear hA ac hW; rintro m_ ac w1 ⟨k, rfl, hk, hn, hkm, hA, hW⟩
 refine wp_seq <| wr <| st_p (vI .i64 (k : Int)) hA fun ac hA => st_p (vS A_l l.length c_l) hA fun ac hA => st_p (vI .i64 (l.length : Int)) hA fun ac hA => st_p (vB (decide ((k : Int) < (l.length : Int)))) hA fun ac hA => st_p (vB (decide ((k : Int) < (l.length : Int)))) hA fun ac hA => ?_
 rcases Bool.eq_false_or_eq_true (decide ((k : Int) < (l.length : Int))) with h2 | h2
 ·
  rw [h2] at hA
  have h2 := of_decide_eq_true h2
  refine st_p (vI .i64 (k : Int)) hA fun ac hA => st_p (vI .i64 m) hA fun ac hA => st_p (vB (decide ((k : Int) ≤ (m : Int)))) hA fun ac hA => st_p (vB (decide ((k : Int) ≤ (m : Int)))) hA fun ac hA => wn <| wp_cond_split (t := decide ((k : Int) ≤ (m : Int))) (hA.eval (by kernel_rfl)) (fun h3 => ?_) (fun h3 => ?_)
  ·
   have h3 := of_decide_eq_true h3
   refine wp_skip <| thenN <| wp_seq <| wp_block <| wr <| st_p (vS A_l l.length c_l) hA fun ac hA => st_p (vI .i64 (k : Int)) hA fun ac hA => ?_
   obtain ⟨y4, hy4⟩ : ∃ y, l[k]? = some y := ⟨_, List.getElem?_eq_getElem (by first | omega | (simp; done) | (simp; omega))⟩
   obtain ⟨b5, o6, rfl, hbb5⟩ := row_some ((hW).getG 0 rfl) hy4
   refine st_q (vP (some ⟨b5, o6 + k * 9, none⟩)) hA hW.cls (Rd.indexAddr (e := 51) (sz := 9) (b := b5) (off := o6) (n := l.length) (c := c_l) (k := k) (by kernel_rfl) (by kernel_rfl) (by first | omega | (simp; done) | (simp; omega)) (fun _ => by kernel_rfl) (fun _ => by kernel_rfl)) fun ac hA => st_q (vA #[vI .i64 y4.g, vI .i64 y4.kind, vI .i64 y4.site.f, vI .i64 y4.site.pc, vI .u32 y4.addr, vI .i64 y4.child, vI .i64 y4.obj, vI .i64 y4.n, vI .i64 y4.trap]) hA hW.cls (Rd.loadRow (b := b5) (i := o6 + k * 9) (xs := [vI .i64 y4.g, vI .i64 y4.kind, vI .i64 y4.site.f, vI .i64 y4.site.pc, vI .u32 y4.addr, vI .i64 y4.child, vI .i64 y4.obj, vI .i64 y4.n, vI .i64 y4.trap]) (by kernel_rfl) (fun _ hw => row_ld ((hw.1).getG 0 rfl) hy4 (Fr.refl No _) (fun h => h) 0 9 (by kernel_rfl)) (by kernel_rfl)) fun ac hA => st_s hA (Runs.callN (v := vB (evOk y4)) (fun _ => by kernel_rfl) hW (e_r16right y4 w1 (by first | omega | assumption | exact (hel _ (List.mem_of_getElem? (by assumption))).1)) ?_); clear hA ac hW; intro w7 hW hfw7 ac hA
   refine st_p (vB (evOk y4)) hA ?_; clear hA ac; intro ac hA
   rcases Bool.eq_false_or_eq_true (evOk y4) with h8 | h8
   ·
    rw [h8] at hA
    refine st_p (vS (some ⟨b5, o6, none⟩) l.length c_l) hA fun ac hA => st_p (vI .i64 (k : Int)) hA fun ac hA => st_q (vP (some ⟨b5, o6 + k * 9, none⟩)) hA hW.cls (Rd.indexAddr (e := 51) (sz := 9) (b := b5) (off := o6) (n := l.length) (c := c_l) (k := k) (by kernel_rfl) (by kernel_rfl) (by first | omega | (simp; done) | (simp; omega)) (fun _ => by kernel_rfl) (fun _ => by kernel_rfl)) fun ac hA => st_p (vP (some ⟨b5, o6 + k * 9, none⟩)) hA fun ac hA => st_q (vI .i64 y4.g) hA hW.cls (Rd.loadRow (b := b5) (i := o6 + k * 9) (xs := [vI .i64 y4.g]) (by kernel_rfl) (fun _ hw => row_ld ((hw.1).getG 0 rfl) hy4 (Fr.refl No _) (fun h => h) 0 1 (by kernel_rfl)) (by kernel_rfl)) fun ac hA => st_p (vB (decide ((y4.g : Int) ≥ (200 : Int)))) hA fun ac hA => st_p (vB (decide ((y4.g : Int) ≥ (200 : Int)))) hA fun ac hA => ?_
    rcases Bool.eq_false_or_eq_true (decide ((y4.g : Int) ≥ (200 : Int))) with h9 | h9
    ·
     rw [h9] at hA
     have h9 := of_decide_eq_true h9
     refine st_k hA fun ac hA => st_k hA fun ac hA => st_k hA fun ac hA => st_k hA fun ac hA => st_k hA fun ac hA => st_k hA fun ac hA => st_p (vB true) hA fun ac hA => st_p (vB true) hA fun ac hA => wn <| wp_cond_true (hA.eval (by kernel_rfl)) <| wr <| st_p (vB false) hA ?_; clear hA ac; intro ac hA
     refine wn <| wp_ret <| blkR <| thenR <| thenR <| blkR <| thenR <| r1 (vB false) hA ?_
     clear hA
     exact ⟨retv (congrArg vB (few_no hy4 (by omega) h8 (by omega)).symm), hW.fr⟩
    rw [h9] at hA
    have h9 := of_decide_eq_false h9
    refine st_p (vS (some ⟨b5, o6, none⟩) l.length c_l) hA fun ac hA => st_p (vI .i64 (k : Int)) hA fun ac hA => st_q (vP (some ⟨b5, o6 + k * 9, none⟩)) hA hW.cls (Rd.indexAddr (e := 51) (sz := 9) (b := b5) (off := o6) (n := l.length) (c := c_l) (k := k) (by kernel_rfl) (by kernel_rfl) (by first | omega | (simp; done) | (simp; omega)) (fun _ => by kernel_rfl) (fun _ => by kernel_rfl)) fun ac hA => st_p (vP (some ⟨b5, o6 + k * 9 + 5, none⟩)) hA fun ac hA => st_q (vI .i64 y4.child) hA hW.cls (Rd.loadRow (b := b5) (i := o6 + k * 9 + 5) (xs := [vI .i64 y4.child]) (by kernel_rfl) (fun _ hw => row_ld ((hw.1).getG 0 rfl) hy4 (Fr.refl No _) (fun h => h) 5 1 (by kernel_rfl)) (by kernel_rfl)) fun ac hA => st_p (vB (decide ((y4.child : Int) ≥ (200 : Int)))) hA fun ac hA => st_p (vB (decide ((y4.child : Int) ≥ (200 : Int)))) hA fun ac hA => st_p (vB (decide ((y4.child : Int) ≥ (200 : Int)))) hA fun ac hA => wn <| wp_cond_split (t := decide ((y4.child : Int) ≥ (200 : Int))) (hA.eval (by kernel_rfl)) (fun h10 => ?_) (fun h10 => ?_)
    ·
     have h10 := of_decide_eq_true h10
     refine wr <| st_p (vB false) hA ?_; clear hA ac; intro ac hA
     refine wn <| wp_ret <| blkR <| thenR <| thenR <| blkR <| thenR <| r1 (vB false) hA ?_
     clear hA
     exact ⟨retv (congrArg vB (few_no hy4 (by omega) h8 (by omega)).symm), hW.fr⟩
    have h10 := of_decide_eq_false h10
    refine wp_skip <| blkN <| thenN <| wp_region_lit <| st_p (vI .i64 (k : Int)) hA fun ac hA => st_q (vI .i64 ((k + 1 : Nat) : Int)) hA hW.cls (Rd.pureE (v0 := vI .i64 (IntKind.i64.wrap ((k : Int) + 1))) (fun _ => by kernel_rfl) (congrArg (vI .i64) ((w_i64 (x := (k : Int) + 1) (by omega) (by omega)).trans (by omega)))) fun ac hA => st_p (vI .i64 ((k + 1 : Nat) : Int)) hA fun ac hA => wn ?_
    exact ⟨l.length - (k + 1), by omega, k + 1, rfl, by omega, by intro x hx; rw [tk_snoc hy4] at hx; rcases List.mem_append.1 hx with hx | hx; exact hn x hx; (rw [List.mem_singleton.1 hx]; rintro ⟨-, q_⟩; omega), by omega, hA.sub (by and_intros <;> first | kernel_rfl | trivial), (hW.pick [] (by decide) rfl).pickG [0] rfl⟩
   rw [h8] at hA
   refine st_k hA fun ac hA => st_k hA fun ac hA => st_k hA fun ac hA => st_k hA fun ac hA => st_k hA fun ac hA => st_k hA fun ac hA => st_k hA fun ac hA => st_k hA fun ac hA => st_k hA fun ac hA => st_k hA fun ac hA => st_k hA fun ac hA => st_k hA fun ac hA => st_k hA fun ac hA => st_k hA fun ac hA => st_p (vB false) hA fun ac hA => wn <| wp_cond_false (hA.eval (by kernel_rfl)) <| wp_skip <| blkN <| thenN <| wp_region_lit <| st_p (vI .i64 (k : Int)) hA fun ac hA => st_q (vI .i64 ((k + 1 : Nat) : Int)) hA hW.cls (Rd.pureE (v0 := vI .i64 (IntKind.i64.wrap ((k : Int) + 1))) (fun _ => by kernel_rfl) (congrArg (vI .i64) ((w_i64 (x := (k : Int) + 1) (by omega) (by omega)).trans (by omega)))) fun ac hA => st_p (vI .i64 ((k + 1 : Nat) : Int)) hA fun ac hA => wn ?_
   exact ⟨l.length - (k + 1), by omega, k + 1, rfl, by omega, by intro x hx; rw [tk_snoc hy4] at hx; rcases List.mem_append.1 hx with hx | hx; exact hn x hx; (rw [List.mem_singleton.1 hx]; rintro ⟨q_, -⟩; rw [h8] at q_; cases q_), by omega, hA.sub (by and_intros <;> first | kernel_rfl | trivial), (hW.pick [] (by decide) rfl).pickG [0] rfl⟩
  have h3 := of_decide_eq_false h3
  refine wp_exit <| thenX <| thenX <| blkX <| thenN <| wr <| st_p (vS A_l l.length c_l) hA fun ac hA => st_p (vI .i64 (l.length : Int)) hA fun ac hA => st_p (vI .i64 m) hA fun ac hA => st_p (vB (decide ((l.length : Int) ≤ (m : Int)))) hA fun ac hA => st_p (vB (decide ((l.length : Int) ≤ (m : Int)))) hA fun ac hA => wn <| wp_ret <| r1 (vB (decide ((l.length : Int) ≤ (m : Int)))) hA ?_
  clear hA
  exact ⟨retv (congrArg vB (few_yes hn (by omega) hm).symm), hW.fr⟩
 rw [h2] at hA
 have h2 := of_decide_eq_false h2
 refine st_k hA fun ac hA => st_k hA fun ac hA => st_k hA fun ac hA => st_p (vB false) hA fun ac hA => wn <| wp_cond_false (hA.eval (by kernel_rfl)) <| wp_exit <| thenX <| thenX <| blkX <| thenN <| wr <| st_p (vS A_l l.length c_l) hA fun ac hA => st_p (vI .i64 (l.length : Int)) hA fun ac hA => st_p (vI .i64 m) hA fun ac hA => st_p (vB (decide ((l.length : Int) ≤ (m : Int)))) hA fun ac hA => st_p (vB (decide ((l.length : Int) ≤ (m : Int)))) hA fun ac hA => wn <| wp_ret <| r1 (vB (decide ((l.length : Int) ≤ (m : Int)))) hA ?_
 clear hA
 exact ⟨retv (congrArg vB (few_yes hn (by omega) hm).symm), hW.fr⟩

set_option maxRecDepth 100000 in
theorem e_num (n_ : Int) (w : World)  : Calls Tryz.prog 12 #[vI .i64 n_] w (fun e w' => e = .returned (vI .i64 n_) ∧ Fr No w w') := by
 refine enter_E 4 Tryz.func12 rfl rfl (by kernel_rfl) (L := [(0, vI .i64 n_)]) (by kernel_rfl) ?_
 intro ac hA
 have hW := Ws.start w No
 refine wr <| st_p (vI .i64 0) hA ?_; clear hA ac; intro ac hA
 refine wn <| wr <| st_p (vI .i64 n_) hA fun ac hA => st_p (vI .i64 n_) hA fun ac hA => wn <| wp_ret <| r1 (vI .i64 n_) hA ?_
 clear hA
 exact ⟨retv (by rfl), hW.fr⟩

set_option maxRecDepth 100000 in
theorem e_rbefore (A_L : Option Addr) (c_L : Nat) (L : List Event) (A_B : Option Addr) (c_B : Nat) (B : List BV) (i : Int) (j : Int) (w : World) (hr_L : RowAt w A_L 9 enEvent L) (hc_L : L.length ≤ c_L) (hr_B : RowAt w A_B 1 enBV B) (hc_B : B.length ≤ c_B) (hn_B : (nestR innerBV B).p w) (hk_B : ∀ x_ ∈ B, capBV x_) (hL : L.length ≤ 4096) (hev : ∀ e ∈ L, EvOk e) (hB : B.map BV.l = ahM L) (hi : -9223372036854775808 ≤ i ∧ i ≤ 9223372036854775807) (hj : -9223372036854775808 ≤ j ∧ j ≤ 9223372036854775807) : Calls Tryz.prog 60 #[vA #[vS A_L L.length c_L, vS A_B B.length c_B], vI .i64 i, vI .i64 j] w (fun e w' => e = .returned (vB (befE L i j)) ∧ Fr No w w') := by
 have _hu := hc_L; have _hv := hr_L; clear _hu _hv
 have _hu := hc_B; have _hv := hr_B; clear _hu _hv
 have _hu := hk_B; have _hv := hn_B; clear _hu _hv
 have _hu := hL; clear _hu
 have _hu := hev; clear _hu
 have _hu := hB; clear _hu
 have _hu := hi; clear _hu
 have _hu := hj; clear _hu
 have hbl_ := ah_blen hB
 refine enter_E 31 Tryz.func60 rfl rfl (by kernel_rfl) (L := [(0, vA #[vS A_L L.length c_L, vS A_B B.length c_B]), (1, vI .i64 i), (2, vI .i64 j)]) (by kernel_rfl) ?_
 intro ac hA
 have hW := Ws.start w No
 have hW := hW.arg hr_L
 have hW := hW.arg hr_B
 have hW := hW.addG _ hn_B (nest_ltBV hn_B) (by simp)
 refine wr <| st_s hA (Runs.cells (fun b => pA b 0) #[vS A_L L.length c_L, vS A_B B.length c_B] 31 (fun _ => by kernel_rfl) hW ?_); clear hA ac hW; intro b1 w2 hW hb1 hfw2 ac hA
 refine st_p (vB false) hA ?_; clear hA ac; intro ac hA
 refine wn <| wr <| st_p (vI .i64 i) hA fun ac hA => st_p (vB (decide ((i : Int) ≥ (0 : Int)))) hA fun ac hA => st_p (vB (decide ((i : Int) ≥ (0 : Int)))) hA fun ac hA => ?_
 rcases Bool.eq_false_or_eq_true (decide ((i : Int) ≥ (0 : Int))) with h3 | h3
 ·
  rw [h3] at hA
  have h3 := of_decide_eq_true h3
  refine st_p (vI .i64 i) hA fun ac hA => st_p (vI .i64 j) hA fun ac hA => st_p (vB (decide ((i : Int) < (j : Int)))) hA fun ac hA => st_p (vB (decide ((i : Int) < (j : Int)))) hA fun ac hA => st_p (vB (decide ((i : Int) < (j : Int)))) hA fun ac hA => ?_
  rcases Bool.eq_false_or_eq_true (decide ((i : Int) < (j : Int))) with h4 | h4
  ·
   rw [h4] at hA
   have h4 := of_decide_eq_true h4
   refine st_p (vI .i64 j) hA fun ac hA => st_p (pA b1 0) hA fun ac hA => st_q (vS A_L L.length c_L) hA hW.cls (rl b1 0 0) fun ac hA => st_p (vI .i64 (L.length : Int)) hA fun ac hA => st_p (vB (decide ((j : Int) < (L.length : Int)))) hA fun ac hA => st_p (vB (decide ((j : Int) < (L.length : Int)))) hA fun ac hA => st_p (vB (decide ((j : Int) < (L.length : Int)))) hA fun ac hA => ?_
   rcases Bool.eq_false_or_eq_true (decide ((j : Int) < (L.length : Int))) with h5 | h5
   ·
    rw [h5] at hA
    have h5 := of_decide_eq_true h5
    refine st_p (pA b1 1) hA fun ac hA => st_q (vS A_B B.length c_B) hA hW.cls (rl b1 1 0) fun ac hA => st_p (vI .i64 j) hA fun ac hA => ?_
    obtain ⟨y6, hy6⟩ : ∃ y, B[Int.toNat (j)]? = some y := ⟨_, List.getElem?_eq_getElem (by first | omega | (simp; done) | (simp; omega) | (have := ah_len hB (by assumption); omega))⟩
    rcases y6 with ⟨y6_l, y6_l_A, y6_l_c⟩
    obtain ⟨b7, o8, rfl, hbb7⟩ := row_some ((hW).getG 1 rfl) hy6
    refine st_q (vP (some ⟨b7, o8 + (Int.toNat (j)) * 1, none⟩)) hA hW.cls (Rd.indexAddrI (e := 114) (sz := 1) (b := b7) (off := o8) (n := B.length) (c := c_B) (k := j) (by kernel_rfl) (by kernel_rfl) (by omega) (by first | omega | (simp; done) | (simp; omega) | (have := ah_len hB (by assumption); omega)) (fun _ => by kernel_rfl) (fun _ => by kernel_rfl)) ?_; clear hA ac; intro ac hA
    have hW := hW.nestAt 0 rfl (List.mem_of_getElem? hy6)
    have hc_y6_l : y6_l.length ≤ y6_l_c := hk_B _ (List.mem_of_getElem? hy6)
    replace hW : Ws w No [Cel b1 #[vS A_L L.length c_L, vS (some ⟨b7, o8, none⟩) B.length c_B] 31] [roR y6_l_A 1 enBo y6_l, nestR innerBV B, roR (some ⟨b7, o8, none⟩) 1 enBV B, roR A_L 9 enEvent L] w2 := hW
    refine st_q (vS y6_l_A y6_l.length y6_l_c) hA hW.cls (Rd.loadRow (b := b7) (i := o8 + (Int.toNat (j)) * 1) (xs := [vS y6_l_A y6_l.length y6_l_c]) (by kernel_rfl) (fun _ hw => row_ld ((hw.1).getG 2 rfl) hy6 (Fr.refl No _) (fun h => h) 0 1 (by kernel_rfl)) (by kernel_rfl)) fun ac hA => st_p (vI .i64 i) hA fun ac hA => ?_
    obtain ⟨y9, hy9⟩ : ∃ y, y6_l[Int.toNat (i)]? = some y := ⟨_, List.getElem?_eq_getElem (by first | omega | (simp; done) | (simp; omega) | (have := ah_len hB (by assumption); omega))⟩
    obtain ⟨b10, o11, rfl, hbb10⟩ := row_some ((hW).getG 0 rfl) hy9
    refine st_q (vP (some ⟨b10, o11 + (Int.toNat (i)) * 1, none⟩)) hA hW.cls (Rd.indexAddrI (e := 4) (sz := 1) (b := b10) (off := o11) (n := y6_l.length) (c := y6_l_c) (k := i) (by kernel_rfl) (by kernel_rfl) (by omega) (by first | omega | (simp; done) | (simp; omega) | (have := ah_len hB (by assumption); omega)) (fun _ => by kernel_rfl) (fun _ => by kernel_rfl)) fun ac hA => st_q (vB y9) hA hW.cls (Rd.loadRow (b := b10) (i := o11 + (Int.toNat (i)) * 1) (xs := [vB y9]) (by kernel_rfl) (fun _ hw => row_ld ((hw.1).getG 0 rfl) hy9 (Fr.refl No _) (fun h => h) 0 1 (by kernel_rfl)) (by kernel_rfl)) fun ac hA => st_p (vB y9) hA fun ac hA => st_p (vB y9) hA fun ac hA => wn <| wp_ret <| r1 (vB y9) hA ?_
    clear hA
    exact ⟨retv (congrArg vB (ah_el' hB (by omega) (by omega) hy6 hy9)), hW.fr⟩
   rw [h5] at hA
   have h5 := of_decide_eq_false h5
   refine st_k hA fun ac hA => st_k hA fun ac hA => st_k hA fun ac hA => st_k hA fun ac hA => st_k hA fun ac hA => st_k hA fun ac hA => st_k hA fun ac hA => st_k hA fun ac hA => st_p (vB false) hA fun ac hA => st_p (vB false) hA fun ac hA => wn <| wp_ret <| r1 (vB false) hA ?_
   clear hA
   exact ⟨retv (congrArg vB (by unfold befE; rw [decide_eq_false (by omega)]; rfl)), hW.fr⟩
  rw [h4] at hA
  have h4 := of_decide_eq_false h4
  refine st_k hA fun ac hA => st_k hA fun ac hA => st_k hA fun ac hA => st_k hA fun ac hA => st_k hA fun ac hA => st_p (vB false) hA fun ac hA => st_p (vB false) hA fun ac hA => st_k hA fun ac hA => st_k hA fun ac hA => st_k hA fun ac hA => st_k hA fun ac hA => st_k hA fun ac hA => st_k hA fun ac hA => st_k hA fun ac hA => st_k hA fun ac hA => st_p (vB false) hA fun ac hA => st_p (vB false) hA fun ac hA => wn <| wp_ret <| r1 (vB false) hA ?_
  clear hA
  exact ⟨retv (congrArg vB (by unfold befE; rw [decide_eq_false (by omega)]; rfl)), hW.fr⟩
 rw [h3] at hA
 have h3 := of_decide_eq_false h3
 refine st_k hA fun ac hA => st_k hA fun ac hA => st_k hA fun ac hA => st_p (vB false) hA fun ac hA => st_p (vB false) hA fun ac hA => st_k hA fun ac hA => st_k hA fun ac hA => st_k hA fun ac hA => st_k hA fun ac hA => st_k hA fun ac hA => st_p (vB false) hA fun ac hA => st_p (vB false) hA fun ac hA => st_k hA fun ac hA => st_k hA fun ac hA => st_k hA fun ac hA => st_k hA fun ac hA => st_k hA fun ac hA => st_k hA fun ac hA => st_k hA fun ac hA => st_k hA fun ac hA => st_p (vB false) hA fun ac hA => st_p (vB false) hA fun ac hA => wn <| wp_ret <| r1 (vB false) hA ?_
 clear hA
 exact ⟨retv (congrArg vB (by unfold befE; rw [decide_eq_false (by omega)]; rfl)), hW.fr⟩

set_option maxRecDepth 100000 in
theorem e_rapart (A_L : Option Addr) (c_L : Nat) (L : List Event) (A_B : Option Addr) (c_B : Nat) (B : List BV) (i : Int) (j : Int) (w : World) (hr_L : RowAt w A_L 9 enEvent L) (hc_L : L.length ≤ c_L) (hr_B : RowAt w A_B 1 enBV B) (hc_B : B.length ≤ c_B) (hn_B : (nestR innerBV B).p w) (hk_B : ∀ x_ ∈ B, capBV x_) (hL : L.length ≤ 4096) (hev : ∀ e ∈ L, EvOk e) (hB : B.map BV.l = ahM L) (hi : -9223372036854775808 ≤ i ∧ i ≤ 9223372036854775807) (hj : -9223372036854775808 ≤ j ∧ j ≤ 9223372036854775807) : Calls Tryz.prog 33 #[vA #[vS A_L L.length c_L, vS A_B B.length c_B], vI .i64 i, vI .i64 j] w (fun e w' => e = .returned (vB (apartE L i j)) ∧ Fr No w w') := by
 have _hu := hc_L; have _hv := hr_L; clear _hu _hv
 have _hu := hc_B; have _hv := hr_B; clear _hu _hv
 have _hu := hk_B; have _hv := hn_B; clear _hu _hv
 have _hu := hL; clear _hu
 have _hu := hev; clear _hu
 have _hu := hB; clear _hu
 have _hu := hi; clear _hu
 have _hu := hj; clear _hu
 have hbl_ := ah_blen hB
 refine enter_E 46 Tryz.func33 rfl rfl (by kernel_rfl) (L := [(0, vA #[vS A_L L.length c_L, vS A_B B.length c_B]), (1, vI .i64 i), (2, vI .i64 j)]) (by kernel_rfl) ?_
 intro ac hA
 have hW := Ws.start w No
 have hW := hW.arg hr_L
 have hW := hW.arg hr_B
 have hW := hW.addG _ hn_B (nest_ltBV hn_B) (by simp)
 refine wr <| st_s hA (Runs.cells (fun b => pA b 0) #[vS A_L L.length c_L, vS A_B B.length c_B] 31 (fun _ => by kernel_rfl) hW ?_); clear hA ac hW; intro b1 w2 hW hb1 hfw2 ac hA
 refine st_p (vB false) hA ?_; clear hA ac; intro ac hA
 refine wn <| wr <| st_p (vI .i64 i) hA fun ac hA => st_p (vB (decide ((i : Int) ≥ (0 : Int)))) hA fun ac hA => st_p (vB (decide ((i : Int) ≥ (0 : Int)))) hA fun ac hA => ?_
 rcases Bool.eq_false_or_eq_true (decide ((i : Int) ≥ (0 : Int))) with h3 | h3
 ·
  rw [h3] at hA
  have h3 := of_decide_eq_true h3
  refine st_p (vI .i64 j) hA fun ac hA => st_p (vB (decide ((j : Int) ≥ (0 : Int)))) hA fun ac hA => st_p (vB (decide ((j : Int) ≥ (0 : Int)))) hA fun ac hA => st_p (vB (decide ((j : Int) ≥ (0 : Int)))) hA fun ac hA => ?_
  rcases Bool.eq_false_or_eq_true (decide ((j : Int) ≥ (0 : Int))) with h4 | h4
  ·
   rw [h4] at hA
   have h4 := of_decide_eq_true h4
   refine st_p (vI .i64 i) hA fun ac hA => st_p (pA b1 0) hA fun ac hA => st_q (vS A_L L.length c_L) hA hW.cls (rl b1 0 0) fun ac hA => st_p (vI .i64 (L.length : Int)) hA fun ac hA => st_p (vB (decide ((i : Int) < (L.length : Int)))) hA fun ac hA => st_p (vB (decide ((i : Int) < (L.length : Int)))) hA fun ac hA => st_p (vB (decide ((i : Int) < (L.length : Int)))) hA fun ac hA => ?_
   rcases Bool.eq_false_or_eq_true (decide ((i : Int) < (L.length : Int))) with h5 | h5
   ·
    rw [h5] at hA
    have h5 := of_decide_eq_true h5
    refine st_p (vI .i64 j) hA fun ac hA => st_p (pA b1 0) hA fun ac hA => st_q (vS A_L L.length c_L) hA hW.cls (rl b1 0 0) fun ac hA => st_p (vI .i64 (L.length : Int)) hA fun ac hA => st_p (vB (decide ((j : Int) < (L.length : Int)))) hA fun ac hA => st_p (vB (decide ((j : Int) < (L.length : Int)))) hA fun ac hA => st_p (vB (decide ((j : Int) < (L.length : Int)))) hA fun ac hA => ?_
    rcases Bool.eq_false_or_eq_true (decide ((j : Int) < (L.length : Int))) with h6 | h6
    ·
     rw [h6] at hA
     have h6 := of_decide_eq_true h6
     refine st_p (vI .i64 i) hA fun ac hA => st_p (vI .i64 j) hA fun ac hA => st_p (vB ((i : Int) != (j : Int))) hA fun ac hA => st_p (vB ((i : Int) != (j : Int))) hA fun ac hA => st_p (vB ((i : Int) != (j : Int))) hA fun ac hA => ?_
     rcases Bool.eq_false_or_eq_true ((i : Int) != (j : Int)) with h7 | h7
     ·
      rw [h7] at hA
      have h7 := bne_iff_ne.1 h7
      refine st_q (vA #[vS A_L L.length c_L, vS A_B B.length c_B]) hA hW.cls (rl b1 0 0) fun ac hA => st_p (vI .i64 i) hA fun ac hA => st_p (vI .i64 j) hA fun ac hA => st_s hA (Runs.callN (v := vB (befE L (i) (j))) (fun _ => by kernel_rfl) hW (e_rbefore A_L c_L L A_B c_B B (i) (j) w2 ((hW).getG 2 rfl) (by first | assumption | omega | (simp; omega) | simp) ((hW).getG 1 rfl) (by first | assumption | omega | (simp; omega) | simp) ((hW).getG 0 rfl) hk_B (by first | omega | assumption | exact ⟨by omega, by omega⟩) (by first | omega | assumption | exact ⟨by omega, by omega⟩) (by first | omega | assumption | exact ⟨by omega, by omega⟩) (by first | omega | assumption | exact ⟨by omega, by omega⟩) (by first | omega | assumption | exact ⟨by omega, by omega⟩)) ?_); clear hA ac hW; intro w8 hW hfw8 ac hA
      refine st_p (vB (!(befE L (i) (j)))) hA fun ac hA => st_p (vB (!(befE L (i) (j)))) hA fun ac hA => st_p (vB (!(befE L (i) (j)))) hA fun ac hA => ?_
      rcases Bool.eq_false_or_eq_true (!(befE L (i) (j))) with h9 | h9
      ·
       rw [h9] at hA
       have h9 := not_t h9
       refine st_q (vA #[vS A_L L.length c_L, vS A_B B.length c_B]) hA hW.cls (rl b1 0 0) fun ac hA => st_p (vI .i64 j) hA fun ac hA => st_p (vI .i64 i) hA fun ac hA => st_s hA (Runs.callN (v := vB (befE L (j) (i))) (fun _ => by kernel_rfl) hW (e_rbefore A_L c_L L A_B c_B B (j) (i) w8 ((hW).getG 2 rfl) (by first | assumption | omega | (simp; omega) | simp) ((hW).getG 1 rfl) (by first | assumption | omega | (simp; omega) | simp) ((hW).getG 0 rfl) hk_B (by first | omega | assumption | exact ⟨by omega, by omega⟩) (by first | omega | assumption | exact ⟨by omega, by omega⟩) (by first | omega | assumption | exact ⟨by omega, by omega⟩) (by first | omega | assumption | exact ⟨by omega, by omega⟩) (by first | omega | assumption | exact ⟨by omega, by omega⟩)) ?_); clear hA ac hW; intro w10 hW hfw10 ac hA
       refine st_p (vB (!(befE L (j) (i)))) hA fun ac hA => st_p (vB (!(befE L (j) (i)))) hA fun ac hA => st_p (vB (!(befE L (j) (i)))) hA fun ac hA => wn <| wp_ret <| r1 (vB (!(befE L (j) (i)))) hA ?_
       clear hA
       exact ⟨retv (congrArg vB (by unfold apartE; rw [decide_eq_true (by omega)]; rw [h9]; rfl)), hW.fr⟩
      rw [h9] at hA
      have h9 := not_f h9
      refine st_k hA fun ac hA => st_k hA fun ac hA => st_k hA fun ac hA => st_k hA fun ac hA => st_k hA fun ac hA => st_p (vB false) hA fun ac hA => st_p (vB false) hA fun ac hA => wn <| wp_ret <| r1 (vB false) hA ?_
      clear hA
      exact ⟨retv (congrArg vB (by unfold apartE; rw [h9]; simp)), hW.fr⟩
     rw [h7] at hA
     have h7 := of_bne_f h7
     refine st_k hA fun ac hA => st_k hA fun ac hA => st_k hA fun ac hA => st_k hA fun ac hA => st_k hA fun ac hA => st_p (vB false) hA fun ac hA => st_p (vB false) hA fun ac hA => st_k hA fun ac hA => st_k hA fun ac hA => st_k hA fun ac hA => st_k hA fun ac hA => st_k hA fun ac hA => st_p (vB false) hA fun ac hA => st_p (vB false) hA fun ac hA => wn <| wp_ret <| r1 (vB false) hA ?_
     clear hA
     exact ⟨retv (congrArg vB (by unfold apartE; rw [decide_eq_false (by omega)]; rfl)), hW.fr⟩
    rw [h6] at hA
    have h6 := of_decide_eq_false h6
    refine st_k hA fun ac hA => st_k hA fun ac hA => st_k hA fun ac hA => st_p (vB false) hA fun ac hA => st_p (vB false) hA fun ac hA => st_k hA fun ac hA => st_k hA fun ac hA => st_k hA fun ac hA => st_k hA fun ac hA => st_k hA fun ac hA => st_p (vB false) hA fun ac hA => st_p (vB false) hA fun ac hA => st_k hA fun ac hA => st_k hA fun ac hA => st_k hA fun ac hA => st_k hA fun ac hA => st_k hA fun ac hA => st_p (vB false) hA fun ac hA => st_p (vB false) hA fun ac hA => wn <| wp_ret <| r1 (vB false) hA ?_
    clear hA
    exact ⟨retv (congrArg vB (by unfold apartE; rw [decide_eq_false (by omega)]; rfl)), hW.fr⟩
   rw [h5] at hA
   have h5 := of_decide_eq_false h5
   refine st_k hA fun ac hA => st_k hA fun ac hA => st_k hA fun ac hA => st_k hA fun ac hA => st_k hA fun ac hA => st_p (vB false) hA fun ac hA => st_p (vB false) hA fun ac hA => st_k hA fun ac hA => st_k hA fun ac hA => st_k hA fun ac hA => st_p (vB false) hA fun ac hA => st_p (vB false) hA fun ac hA => st_k hA fun ac hA => st_k hA fun ac hA => st_k hA fun ac hA => st_k hA fun ac hA => st_k hA fun ac hA => st_p (vB false) hA fun ac hA => st_p (vB false) hA fun ac hA => st_k hA fun ac hA => st_k hA fun ac hA => st_k hA fun ac hA => st_k hA fun ac hA => st_k hA fun ac hA => st_p (vB false) hA fun ac hA => st_p (vB false) hA fun ac hA => wn <| wp_ret <| r1 (vB false) hA ?_
   clear hA
   exact ⟨retv (congrArg vB (by unfold apartE; rw [decide_eq_false (by omega)]; rfl)), hW.fr⟩
  rw [h4] at hA
  have h4 := of_decide_eq_false h4
  refine st_k hA fun ac hA => st_k hA fun ac hA => st_k hA fun ac hA => st_k hA fun ac hA => st_k hA fun ac hA => st_p (vB false) hA fun ac hA => st_p (vB false) hA fun ac hA => st_k hA fun ac hA => st_k hA fun ac hA => st_k hA fun ac hA => st_k hA fun ac hA => st_k hA fun ac hA => st_p (vB false) hA fun ac hA => st_p (vB false) hA fun ac hA => st_k hA fun ac hA => st_k hA fun ac hA => st_k hA fun ac hA => st_p (vB false) hA fun ac hA => st_p (vB false) hA fun ac hA => st_k hA fun ac hA => st_k hA fun ac hA => st_k hA fun ac hA => st_k hA fun ac hA => st_k hA fun ac hA => st_p (vB false) hA fun ac hA => st_p (vB false) hA fun ac hA => st_k hA fun ac hA => st_k hA fun ac hA => st_k hA fun ac hA => st_k hA fun ac hA => st_k hA fun ac hA => st_p (vB false) hA fun ac hA => st_p (vB false) hA fun ac hA => wn <| wp_ret <| r1 (vB false) hA ?_
  clear hA
  exact ⟨retv (congrArg vB (by unfold apartE; rw [decide_eq_false (by omega)]; rfl)), hW.fr⟩
 rw [h3] at hA
 have h3 := of_decide_eq_false h3
 refine st_k hA fun ac hA => st_k hA fun ac hA => st_p (vB false) hA fun ac hA => st_p (vB false) hA fun ac hA => st_k hA fun ac hA => st_k hA fun ac hA => st_k hA fun ac hA => st_k hA fun ac hA => st_k hA fun ac hA => st_p (vB false) hA fun ac hA => st_p (vB false) hA fun ac hA => st_k hA fun ac hA => st_k hA fun ac hA => st_k hA fun ac hA => st_k hA fun ac hA => st_k hA fun ac hA => st_p (vB false) hA fun ac hA => st_p (vB false) hA fun ac hA => st_k hA fun ac hA => st_k hA fun ac hA => st_k hA fun ac hA => st_p (vB false) hA fun ac hA => st_p (vB false) hA fun ac hA => st_k hA fun ac hA => st_k hA fun ac hA => st_k hA fun ac hA => st_k hA fun ac hA => st_k hA fun ac hA => st_p (vB false) hA fun ac hA => st_p (vB false) hA fun ac hA => st_k hA fun ac hA => st_k hA fun ac hA => st_k hA fun ac hA => st_k hA fun ac hA => st_k hA fun ac hA => st_p (vB false) hA fun ac hA => st_p (vB false) hA fun ac hA => wn <| wp_ret <| r1 (vB false) hA ?_
 clear hA
 exact ⟨retv (congrArg vB (by unfold apartE; rw [decide_eq_false (by omega)]; rfl)), hW.fr⟩

end Go.Proofs.YtfkbjfbbigbacaaGreatDoor.L
