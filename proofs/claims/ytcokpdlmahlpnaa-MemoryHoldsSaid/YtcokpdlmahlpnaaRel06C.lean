/- Layer 6, the plain law: copies; which memories are the same. -/
import Derived.Test.YtcokpdlmahlpnaaRel06B
namespace Go.Proofs.Ytcokpdlmahlpnaa.L
open Go.RowKit Go.MapKept Go.Maps

variable {k k' : Nat} {L L' : List Cell6} {V V' W : VT6}
theorem Rel06.copy (r : Rel06 k L V) (hp : (vals V').Perm (vals V)) : Rel06 k L V' := by
  have hl := look_perm hp r.nd
  refine ⟨((hp.map _).nodup_iff).2 r.nd, fun e he => ?_, by have := hp.length_eq; rw [vals_len, vals_len] at this; have := r.len; omega, fun n f h => r.nz n f (by rw [← hl]; exact h), r.rise, r.rng, fun a => ?_, r.llen⟩
  · have h1 : (e.1, e.2.2) ∈ vals V := hp.mem_iff.1 (List.mem_map.2 ⟨e, he, rfl⟩)
    obtain ⟨e', he', h2⟩ := List.mem_map.1 h1
    have := r.hn e' he'
    rw [(Prod.mk.inj h2).1] at this; exact this
  · rw [← r.wd]; unfold wordV; rw [hl]
theorem word_at {n : Int} {f : Nat → Int} {j : Nat} (hf : look (vals V) n = some f) (hj : j < 4096) : wordV V (n * 4096 + (j : Int)) = f j := by unfold wordV; rw [pgN_at hj, pgI_at hj, hf]; rfl
theorem Rel06.lists (r : Rel06 k L V) (q : Rel06 k' L' W) (h : ∀ a, wordV V a = wordV W a) : L = L' := by
  refine rising_eq (fun x : Cell6 => x.addr) r.rise q.rise fun x => ?_
  have key : ∀ {k k' : Nat} {L L' : List Cell6} {V W : VT6}, Rel06 k L V → Rel06 k' L' W → (∀ a, wordV V a = wordV W a) → x ∈ L → x ∈ L' := fun {k k' L L' V W} r q h hx => by
    have h1 := loadM_mem r.rise hx
    have h0 := (r.rng x hx).2.2
    rw [← r.wd, h, q.wd] at h1
    have := mem_loadM (L := L') (a := x.addr) (by rw [h1]; exact h0)
    rw [h1] at this; exact this
  exact ⟨key r q h, key q r fun a => (h a).symm⟩
theorem Rel06.page_in (r : Rel06 k L V) (h : ∀ a, wordV V a = wordV W a) {n : Int} {f : Nat → Int} (hf : look (vals V) n = some f) : ∃ g, look (vals W) n = some g ∧ ∀ j, j < 4096 → f j = g j := by
  obtain ⟨i, hi, h1⟩ := r.nz n f hf
  have hw := h (n * 4096 + (i : Int))
  rw [word_at hf hi] at hw
  cases q : look (vals W) n with
  | none => unfold wordV at hw; rw [pgN_at hi, q] at hw; exact absurd hw h1
  | some g =>
    refine ⟨g, rfl, fun j hj => ?_⟩
    have := h (n * 4096 + (j : Int))
    rw [word_at hf hj, word_at q hj] at this; exact this
theorem Rel06.same (r : Rel06 k L V) (q : Rel06 k' L' W) : vEq (vals V) (vals W) = decide (L = L') := by
  rw [Bool.eq_iff_iff, decide_eq_true_eq]
  constructor
  · intro e
    unfold vEq at e
    rw [Bool.and_eq_true, decide_eq_true_eq, List.all_eq_true] at e
    obtain ⟨hl, ha⟩ := e
    have h1 : ∀ n f, look (vals V) n = some f → ∃ g, look (vals W) n = some g ∧ ∀ j, j < 4096 → f j = g j := fun n f hf => by
      have := ha _ (look_mem hf)
      unfold vEq1 at this
      simp only at this
      cases e : look (vals W) n with
      | none => rw [e] at this; cases this
      | some g => rw [e] at this; exact ⟨g, rfl, pgEq_iff.1 this⟩
    have hsub : keys (vals V) ⊆ keys (vals W) := fun n h => by
      obtain ⟨f, hf⟩ := Option.isSome_iff_exists.1 (mem_keys.1 h)
      obtain ⟨g, hg, -⟩ := h1 n f hf
      exact mem_keys.2 (by rw [hg]; rfl)
    have hback : ∀ n, n ∈ keys (vals W) → n ∈ keys (vals V) := fun n h => by
      apply Decidable.byContradiction
      intro hn
      have := (List.nodup_cons.2 ⟨hn, r.nd⟩).length_le_of_subset (l₂ := keys (vals W)) (fun b hb => (List.mem_cons.1 hb).elim (fun e => e ▸ h) (fun e => hsub e))
      simp [keys] at this; omega
    refine r.lists q fun a => ?_
    unfold wordV
    cases e : look (vals V) (pgN a) with
    | some f =>
      obtain ⟨g, hg, hj⟩ := h1 _ f e
      rw [hg]; simp only [Option.map_some, Option.getD_some]; exact hj _ (pgI_lt a)
    | none =>
      cases e2 : look (vals W) (pgN a) with
      | none => rfl
      | some g => have := mem_keys.1 (hback _ (mem_keys.2 (by rw [e2]; rfl))); rw [e] at this; cases this
  · rintro rfl
    have hw : ∀ a, wordV V a = wordV W a := fun a => by rw [r.wd, q.wd]
    have hlen : ∀ {k k' : Nat} {V W : VT6}, Rel06 k L V → Rel06 k' L W → (∀ a, wordV V a = wordV W a) → (vals V).length ≤ (vals W).length := fun {k k' V W} r q h => by
      have := r.nd.length_le_of_subset (l₂ := keys (vals W)) (fun n hn => by
        obtain ⟨f, hf⟩ := Option.isSome_iff_exists.1 (mem_keys.1 hn)
        obtain ⟨g, hg, -⟩ := r.page_in h hf
        exact mem_keys.2 (by rw [hg]; rfl))
      simpa [keys] using this
    unfold vEq
    rw [Bool.and_eq_true, decide_eq_true_eq, List.all_eq_true]
    refine ⟨by have a := hlen r q hw; have b := hlen q r (fun a => (hw a).symm); omega, fun x hx => ?_⟩
    obtain ⟨g, hg, hj⟩ := r.page_in hw (look_of_mem r.nd (k := x.1) (v := x.2) hx)
    unfold vEq1
    rw [hg]; exact pgEq_iff.2 hj
theorem Rel06.store (r : Rel06 k L V) : ∀ {l : List Cell6} {V' : VT6}, StoreQ V l V' → (∀ x ∈ l, (0 ≤ x.addr ∧ x.addr ≤ 4294967295) ∧ (0 ≤ x.word ∧ x.word ≤ 4294967295)) → Rel06 (k + l.length) (l.foldr (fun c L => insM L c.addr c.word) L) V'
  | [], V', h, _ => by cases h; exact r
  | c :: l, V', ⟨V1, h1, h2⟩, hw => by
    have h3 := (Rel06.store r h1 (fun x hx => hw x (.tail _ hx))).put h2 (hw c (.head _)).1 (hw c (.head _)).2
    simpa [Nat.add_assoc] using h3
/-- Words stored one by one, on both sides. -/
theorem Rel06.storeR (r : Rel06 k L V) {l : List Cell6} {V' : VT6} (h : StoreR V l V') (hw : ∀ x ∈ l, (0 ≤ x.addr ∧ x.addr ≤ 4294967295) ∧ (0 ≤ x.word ∧ x.word ≤ 4294967295)) : Rel06 (k + l.length) (l.foldl (fun L c => insM L c.addr c.word) L) V' := by
  have h1 := Rel06.store r h (fun x hx => hw x (by simpa using hx))
  rw [List.length_reverse, List.foldr_reverse] at h1
  exact h1
end Go.Proofs.Ytcokpdlmahlpnaa.L
