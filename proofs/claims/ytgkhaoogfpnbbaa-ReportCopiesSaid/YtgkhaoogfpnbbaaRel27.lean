/- Layer 27, the plain law: tables that are copied. -/
import Derived.Test.YtgkhaoogfpnbbaaT11
namespace Go.Proofs.Ytgkhaoogfpnbbaa.L
open Go.RowKit Go.MapKept Go.Maps

structure TOk (T : Tab) (n : Nat) : Prop where
  fine : T.Fine n
  nd : (keys T.m).Nodup
  ok : ∀ x ∈ keys T.m, x.ok = true
  pos : ∀ x ∈ keys T.m, 1 ≤ came T.m x
  mlen : T.m.length ≤ n
theorem TOk.start (most : Int) : TOk ⟨most, 0, [], []⟩ 0 := ⟨Tab.Fine.start most, by simp [keys], by simp [keys], by simp [keys], by simp⟩
theorem take_m (T : Tab) (f : Flag) : (T.take f).1.m = put T.m (Pair.of f.e.s f.l.s) (came T.m (Pair.of f.e.s f.l.s) + 1) := by
  unfold Tab.take; split
  · split <;> rfl
  · rfl
theorem keys_putP {m : List (Pair × Int)} {k x : Pair} {v : Int} (h : x ∈ keys (put m k v)) : x = k ∨ x ∈ keys m := by
  apply Decidable.byContradiction
  intro hn
  rw [not_or] at hn
  have h1 : look (put m k v) x = none := by rw [look_put, if_neg (fun e => hn.1 e.symm)]; exact look_none.2 hn.2
  exact look_none.1 h1 h
theorem put_len27 {m : List (Pair × Int)} {k : Pair} {v : Int} : (put m k v).length ≤ m.length + 1 := by
  induction m with
  | nil => simp [put]
  | cons x r ih =>
    obtain ⟨a, u⟩ := x
    simp only [put]; split
    · simp
    · simp; omega
theorem TOk.up {T : Tab} {n : Nat} (h : TOk T n) : TOk T (n + 1) := ⟨h.fine.up, h.nd, h.ok, h.pos, by have := h.mlen; omega⟩
theorem flag_sites {f : Flag} (h : f.ok = true) : f.e.s.ok = true ∧ f.l.s.ok = true := by
  unfold Flag.ok Acc.ok at h
  simp only [Bool.and_eq_true] at h
  simp_all
theorem TOk.take {T : Tab} {n : Nat} (h : TOk T n) {f : Flag} (hf : f.ok = true) : TOk (T.take f).1 (n + 1) := by
  have hs := flag_sites hf
  refine ⟨h.fine.take f, ?_, fun x hx => ?_, fun x hx => ?_, ?_⟩
  · rw [take_m]; exact nodup_put h.nd _ _
  · rw [take_m] at hx
    rcases keys_putP hx with rfl | hx
    · exact Pair.of_ok hs.1 hs.2
    · exact h.ok x hx
  · rw [take_m] at hx ⊢
    rw [came_put]
    split
    · have := h.fine.came0 (Pair.of f.e.s f.l.s); omega
    · rename_i hne
      rcases keys_putP hx with rfl | hx
      · exact absurd rfl hne
      · exact h.pos x hx
  · rw [take_m]; have := put_len27 (m := T.m) (k := Pair.of f.e.s f.l.s) (v := came T.m (Pair.of f.e.s f.l.s) + 1); have := h.mlen; omega
theorem came_key {m : List (Pair × Int)} {x : Pair} (h : came m x ≠ 0) : x ∈ keys m := by
  apply Decidable.byContradiction
  intro hn
  apply h
  unfold came; rw [look_none.2 hn]; rfl
theorem TOk.copy {T : Tab} {n : Nat} (h : TOk T n) {ks : List Pair} (hp : ks.Perm (keys T.m)) : TOk ⟨T.most, T.dropped, ones ks, T.l⟩ n := by
  have hk : ∀ x, x ∈ ks ↔ x ∈ keys T.m := fun x => hp.mem_iff
  refine ⟨⟨fun x => ?_, fun x => ?_, h.fine.dropped0, h.fine.dropped, h.fine.len⟩, by rw [keys_ones]; exact hp.nodup_iff.2 h.nd, fun x hx => ?_, fun x hx => ?_, ?_⟩
  · simp only; rw [came_ones]; split <;> omega
  · simp only; rw [came_ones]; split
    · rename_i e; have h1 := h.pos x ((hk x).1 e); have h2 := h.fine.came x; omega
    · omega
  · simp only [keys_ones] at hx; exact h.ok x ((hk x).1 hx)
  · simp only [keys_ones] at hx; simp only; rw [came_ones, if_pos hx]; omega
  · have := hp.length_eq; have := h.mlen; simp [keys] at *; omega
theorem Agree.copy {s : RT} {T : Tab} {n : Nat} (g : Agree s T) (h : TOk T n) {ks : List Pair} (hp : ks.Perm (keys T.m)) : Agree s ⟨T.most, T.dropped, ones ks, T.l⟩ := by
  refine ⟨g.most_, g.l_, fun x => ?_, fun x => ?_, g.len⟩
  · simp only; rw [g.mem x, came_ones]
    constructor
    · intro e; rw [if_pos (hp.mem_iff.2 (came_key e))]; omega
    · intro e
      split at e
      · rename_i q; have := h.pos x (hp.mem_iff.1 q); omega
      · exact absurd rfl e
  · simp only; rw [came_ones]; split <;> omega
theorem TOk.bound {T : Tab} {n : Nat} (h : TOk T n) (hn : n < 1000) : ∃ n, T.Fine n ∧ n < 1000 := ⟨n, h.fine, hn⟩
end Go.Proofs.Ytgkhaoogfpnbbaa.L
