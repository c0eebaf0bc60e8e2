/- Layer 22, the plain law: copies; which shadows are the same; what is gone over. -/
import Derived.Test.YtcgcippmbeileaaT16
namespace Go.Proofs.Ytcgcippmbeileaa.L
open Go.RowKit Go.MapKept Go.Maps

variable {k k' : Nat} {L L' : List Cell22} {V V' W : VT22}
theorem Rel22.copy (r : Rel22 k L V) (hp : (vals V').Perm (vals V)) : Rel22 k L V' := by
  have hl := look_perm hp r.nd
  refine ⟨((hp.map _).nodup_iff).2 r.nd, fun e he => ?_, by have := hp.length_eq; rw [vals_len, vals_len] at this; have := r.len; omega, r.rise, r.rng, fun a => ?_, fun n => by rw [hl]; exact r.page n, r.llen⟩
  · have h1 : (e.1, e.2.2) ∈ vals V := hp.mem_iff.1 (List.mem_map.2 ⟨e, he, rfl⟩)
    obtain ⟨e', he', h2⟩ := List.mem_map.1 h1
    have := r.hn e' he'
    rw [(Prod.mk.inj h2).1] at this; exact this
  · rw [← r.at_]; unfold atS; rw [hl]
theorem at_at {n : Int} {f : Nat → Shade} {j : Nat} (hf : look (vals V) n = some f) (hj : j < 4096) : atS V (n * 4096 + (j : Int)) = f j := by
  unfold atS
  rw [show (n * 4096 + (j : Int)) / 4096 = n from by omega, hf, show Int.toNat ((n * 4096 + (j : Int)) % 4096) = j from by omega]; rfl
theorem mem_atL {a : Int} (h : atL L a ≠ zSh) : (⟨a, atL L a⟩ : Cell22) ∈ L := by
  unfold atL at h ⊢
  cases q : L.find? fun c => decide (c.addr = a) with
  | none => rw [q] at h; exact absurd rfl h
  | some c =>
    have h1 := List.mem_of_find?_eq_some q
    have h2 : c.addr = a := by simpa using List.find?_some q
    obtain ⟨ca, cx⟩ := c
    simp only at h2; subst h2; exact h1
theorem all_iff (hr : Rise22 L) (hr' : Rise22 L') : allL L = allL L' ↔ ∀ a, atL L a = atL L' a := by
  have key : ∀ {L : List Cell22}, Rise22 L → ∀ c : Cell22, c ∈ allL L ↔ atL L c.addr = c.x ∧ c.x ≠ zSh := fun {L} hr c => by
    unfold allL
    rw [List.mem_filter, decide_eq_true_eq]
    constructor
    · rintro ⟨h1, h2⟩; exact ⟨atL_mem hr h1, h2⟩
    · rintro ⟨h1, h2⟩
      have := mem_atL (L := L) (a := c.addr) (by rw [h1]; exact h2)
      rw [h1] at this; exact ⟨this, h2⟩
  constructor
  · intro e a
    by_cases h : atL L a = zSh
    · by_cases h' : atL L' a = zSh
      · rw [h, h']
      · have := (key hr ⟨a, atL L' a⟩).1 (by rw [e]; exact (key hr' _).2 ⟨rfl, h'⟩)
        exact this.1
    · have := (key hr' ⟨a, atL L a⟩).1 (by rw [← e]; exact (key hr _).2 ⟨rfl, h⟩)
      exact this.1.symm
  · intro h
    refine rising_eq (fun c : Cell22 => c.addr) (hr.sublist List.filter_sublist) (hr'.sublist List.filter_sublist) fun c => ?_
    show c ∈ allL L ↔ c ∈ allL L'
    rw [key hr, key hr', h]
theorem pages_iff (hr : Rise22 L) (hr' : Rise22 L') : pagesM L = pagesM L' ↔ ∀ n, (∃ c ∈ L, c.addr / 4096 = n) ↔ ∃ c ∈ L', c.addr / 4096 = n := by
  obtain ⟨a1, a2⟩ := pgs_fold L [] hr .nil (by simp)
  obtain ⟨b1, b2⟩ := pgs_fold L' [] hr' .nil (by simp)
  have c1 : ∀ n, n ∈ pagesM L ↔ ∃ c ∈ L, c.addr / 4096 = n := fun n => by show n ∈ L.foldl pgStep [] ↔ _; rw [a2]; simp
  have c2 : ∀ n, n ∈ pagesM L' ↔ ∃ c ∈ L', c.addr / 4096 = n := fun n => by show n ∈ L'.foldl pgStep [] ↔ _; rw [b2]; simp
  constructor
  · intro e n; rw [← c1, ← c2, e]
  · intro h
    exact rising_eq (fun x : Int => x) a1 b1 fun n => by show n ∈ pagesM L ↔ n ∈ pagesM L'; rw [c1, c2, h]
theorem Rel22.same (r : Rel22 k L V) (q : Rel22 k' L' W) : vEq (vals V) (vals W) = (decide (allL L = allL L') && decide (pagesM L = pagesM L')) := by
  rw [Bool.eq_iff_iff, Bool.and_eq_true, decide_eq_true_eq, decide_eq_true_eq, all_iff r.rise q.rise, pages_iff r.rise q.rise]
  constructor
  · intro e
    unfold vEq at e
    rw [Bool.and_eq_true, decide_eq_true_eq, List.all_eq_true] at e
    obtain ⟨hl, ha⟩ := e
    have h1 : ∀ n f, look (vals V) n = some f → ∃ g, look (vals W) n = some g ∧ ∀ j, j < 4096 → f j = g j := fun n f hf => by
      have := ha _ (look_mem hf)
      unfold vEq1 at this
      simp only at this
      cases e : look (vals W) n with
      | none => rw [e] at this; cases this
      | some g => rw [e] at this; exact ⟨g, rfl, psEq_iff.1 this⟩
    have hsub : keys (vals V) ⊆ keys (vals W) := fun n h => by
      obtain ⟨f, hf⟩ := Option.isSome_iff_exists.1 (mem_keys.1 h)
      obtain ⟨g, hg, -⟩ := h1 n f hf
      exact mem_keys.2 (by rw [hg]; rfl)
    have hback : ∀ n, n ∈ keys (vals W) → n ∈ keys (vals V) := fun n h => by
      apply Decidable.byContradiction
      intro hn
      have := (List.nodup_cons.2 ⟨hn, r.nd⟩).length_le_of_subset (l₂ := keys (vals W)) (fun b hb => (List.mem_cons.1 hb).elim (fun e => e ▸ h) (fun e => hsub e))
      simp [keys] at this; omega
    refine ⟨fun a => ?_, fun n => by rw [← r.page, ← q.page, ← mem_keys, ← mem_keys]; exact ⟨fun h => hsub h, hback n⟩⟩
    rw [← r.at_, ← q.at_]
    unfold atS
    cases e : look (vals V) (a / 4096) with
    | some f =>
      obtain ⟨g, hg, hj⟩ := h1 _ f e
      rw [hg]; simp only [Option.map_some, Option.getD_some]; exact hj _ (by omega)
    | none =>
      cases e2 : look (vals W) (a / 4096) with
      | none => rfl
      | some g => have := mem_keys.1 (hback _ (mem_keys.2 (by rw [e2]; rfl))); rw [e] at this; cases this
  · rintro ⟨hw, hp⟩
    have hk : ∀ n, n ∈ keys (vals V) ↔ n ∈ keys (vals W) := fun n => by rw [mem_keys, mem_keys, r.page, q.page, hp]
    have h1 := r.nd.length_le_of_subset (l₂ := keys (vals W)) (fun n hn => (hk n).1 hn)
    have h2 := q.nd.length_le_of_subset (l₂ := keys (vals V)) (fun n hn => (hk n).2 hn)
    unfold vEq
    rw [Bool.and_eq_true, decide_eq_true_eq, List.all_eq_true]
    refine ⟨by simp [keys] at h1 h2; omega, fun x hx => ?_⟩
    have hf := look_of_mem r.nd (k := x.1) (v := x.2) hx
    obtain ⟨g, hg⟩ := Option.isSome_iff_exists.1 (mem_keys.1 ((hk x.1).1 (mem_keys.2 (by rw [hf]; rfl))))
    unfold vEq1
    rw [hg]
    refine psEq_iff.2 fun j hj => ?_
    rw [← at_at hf hj, ← at_at hg hj, r.at_, q.at_, hw]
theorem Rel22.more (r : Rel22 k L V) (hk : k < 50) : V.length < 50 ∧ L.length ≤ 1000 ∧ (∀ e ∈ V, 0 ≤ e.1 ∧ e.1 ≤ 1048575) ∧ (∀ x ∈ L, 0 ≤ x.addr ∧ x.addr ≤ 4294967295) := ⟨by have := r.len; omega, by have := r.llen; omega, r.hn, r.rng⟩
theorem Rel22.comes (r : Rel22 k L V) {pre : List Cell22} {x : Cell22} (hc : Comes (fun l_ : List Cell22 => ∃ ks : List Int, ks.Perm (keys (vals V)) ∧ (ks.Pairwise fun x y => x ≤ y) ∧ l_ = gathOf pAll (vals V) ks) pre x) : (allL L)[pre.length]? = some x := by
  obtain ⟨xs, ⟨ks, h1, h2, rfl⟩, t, ht⟩ := hc
  rw [r.all h1 h2] at ht
  unfold allL
  rw [← ht, List.append_assoc, List.getElem?_append_right (by omega)]; simp
end Go.Proofs.Ytcgcippmbeileaa.L
