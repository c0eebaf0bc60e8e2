/- Layer 6, the plain law: how a memory of pages and the document's list stand. -/
import Derived.Test.YtcokpdlmahlpnaaRel06
namespace Go.Proofs.Ytcokpdlmahlpnaa.L
open Go.RowKit Go.MapKept Go.Maps

def wordV (V : VT6) (a : Int) : Int := ((look (vals V) (pgN a)).map fun f => f (pgI a).toNat).getD 0
theorem pgN_at {n : Int} {j : Nat} (hj : j < 4096) : pgN (n * 4096 + (j : Int)) = n := by unfold pgN; omega
theorem pgI_at {n : Int} {j : Nat} (hj : j < 4096) : (pgI (n * 4096 + (j : Int))).toNat = j := by unfold pgI; omega
theorem pg_split (a : Int) : pgN a * 4096 + ((pgI a).toNat : Int) = a := by unfold pgN pgI; omega
theorem pgI_lt (a : Int) : (pgI a).toNat < 4096 := by unfold pgI; omega
theorem pg_eq {a b : Int} (h1 : pgN b = pgN a) (h2 : (pgI b).toNat = (pgI a).toNat) : b = a := by rw [← pg_split a, ← pg_split b, h1, h2]
structure Rel06 (k : Nat) (L : List Cell6) (V : VT6) : Prop where
  nd : (keys (vals V)).Nodup
  hn : ∀ e ∈ V, 0 ≤ e.1 ∧ e.1 ≤ 1048575
  len : V.length ≤ k
  nz : ∀ n f, look (vals V) n = some f → ∃ i, i < 4096 ∧ f i ≠ 0
  rise : Rise L
  rng : ∀ x ∈ L, (0 ≤ x.addr ∧ x.addr ≤ 4294967295) ∧ (0 ≤ x.word ∧ x.word ≤ 4294967295) ∧ x.word ≠ 0
  wd : ∀ a, wordV V a = loadM L a
  llen : L.length ≤ k
theorem Rel06.start : Rel06 0 [] [] := ⟨by simp [vals, keys], by simp, by simp, fun n f h => by simp [vals, look] at h, .nil, by simp, fun a => rfl, by simp⟩
variable {k : Nat} {L L' : List Cell6} {V V' W : VT6} {a wd : Int}
theorem Rel06.mono (r : Rel06 k L V) : Rel06 (k + 1) L V := ⟨r.nd, r.hn, by have := r.len; omega, r.nz, r.rise, r.rng, r.wd, by have := r.llen; omega⟩
theorem look_hn (r : Rel06 k L V) {n : Int} {f : Nat → Int} (h : look (vals V) n = some f) : 0 ≤ n ∧ n ≤ 1048575 := by
  obtain ⟨e, he, e2⟩ := List.mem_map.1 (look_mem h)
  have := r.hn e he
  cases e2; exact this
/-! ### the words in order -/
theorem pgC_mem {frm n : Int} {f : Nat → Int} {i : Nat} {x : Cell6} : x ∈ pgC frm n f i ↔ ∃ j, j < i ∧ f j ≠ 0 ∧ frm ≤ n * 4096 + (j : Int) ∧ x = ⟨n * 4096 + (j : Int), f j⟩ := by
  unfold pgC
  rw [List.mem_filterMap]
  constructor
  · rintro ⟨j, hj, h⟩
    by_cases q : f j ≠ 0 ∧ frm ≤ n * 4096 + (j : Int)
    · rw [if_pos q] at h; cases h; exact ⟨j, List.mem_range.1 hj, q.1, q.2, rfl⟩
    · rw [if_neg q] at h; cases h
  · rintro ⟨j, hj, h1, h2, rfl⟩
    exact ⟨j, List.mem_range.2 hj, by rw [if_pos ⟨h1, h2⟩]⟩
theorem pgC_rise (frm n : Int) (f : Nat → Int) : ∀ i, Rise (pgC frm n f i)
  | 0 => by simp [pgC]
  | i + 1 => by
    by_cases q : f i ≠ 0 ∧ frm ≤ n * 4096 + (i : Int)
    · rw [pgC_yes q.1 q.2]
      refine List.pairwise_append.2 ⟨pgC_rise frm n f i, by simp, fun x hx y hy => ?_⟩
      obtain ⟨j, hj, -, -, rfl⟩ := pgC_mem.1 hx
      simp at hy; subst hy; simp only; omega
    · rw [pgC_no q]; exact pgC_rise frm n f i
theorem cellsOf_mem {M : List (Int × (Nat → Int))} {frm : Int} {ks : List Int} {x : Cell6} : x ∈ cellsOf M frm ks ↔ ∃ n ∈ ks, x ∈ pgC frm n ((look M n).getD fun _ => 0) 4096 := by
  unfold cellsOf; rw [List.mem_flatMap]
theorem cellsOf_rise {M : List (Int × (Nat → Int))} {frm : Int} : ∀ {ks : List Int}, (ks.Pairwise fun x y => x < y) → Rise (cellsOf M frm ks)
  | [], _ => by simp [cellsOf]
  | n :: ks, hs => by
    obtain ⟨h1, h2⟩ := List.pairwise_cons.1 hs
    show Rise (pgC frm n _ 4096 ++ cellsOf M frm ks)
    refine List.pairwise_append.2 ⟨pgC_rise _ _ _ _, cellsOf_rise h2, fun x hx y hy => ?_⟩
    obtain ⟨j, hj, -, -, rfl⟩ := pgC_mem.1 hx
    obtain ⟨n', hn', hy⟩ := cellsOf_mem.1 hy
    obtain ⟨j', hj', -, -, rfl⟩ := pgC_mem.1 hy
    have := h1 n' hn'
    simp only; omega
theorem Rel06.cells (r : Rel06 k L V) {ks : List Int} (hp : ks.Perm (keys (vals V))) (hs : ks.Pairwise fun x y => x ≤ y) (frm : Int) : cellsOf (vals V) frm ks = fromM L frm := by
  have hk := lt_of_nodup hs (hp.nodup_iff.2 r.nd)
  refine rising_eq (fun x : Cell6 => x.addr) (cellsOf_rise hk) (from_rise r.rise frm) fun x => ?_
  rw [from_mem r.rise, cellsOf_mem]
  constructor
  · rintro ⟨n, hn, hx⟩
    obtain ⟨f, hf⟩ := Option.isSome_iff_exists.1 (mem_keys.1 (hp.mem_iff.1 hn))
    rw [hf] at hx
    obtain ⟨j, hj, h1, h2, rfl⟩ := pgC_mem.1 hx
    simp only [Option.getD_some] at h1 ⊢
    have hw : wordV V (n * 4096 + (j : Int)) = f j := by unfold wordV; rw [pgN_at hj, pgI_at hj, hf]; rfl
    rw [r.wd] at hw
    refine ⟨?_, h2⟩
    have := mem_loadM (L := L) (a := n * 4096 + (j : Int)) (by rw [hw]; exact h1)
    rw [hw] at this; exact this
  · rintro ⟨hx, hf⟩
    have h1 := loadM_mem r.rise hx
    rw [← r.wd] at h1
    have h0 := (r.rng x hx).2.2
    unfold wordV at h1
    cases q : look (vals V) (pgN x.addr) with
    | none => rw [q] at h1; exact absurd h1.symm h0
    | some f =>
      rw [q] at h1
      have h1' : f (pgI x.addr).toNat = x.word := h1
      refine ⟨pgN x.addr, hp.mem_iff.2 (mem_keys.2 (by rw [q]; rfl)), pgC_mem.2 ⟨(pgI x.addr).toNat, pgI_lt _, ?_, ?_, ?_⟩⟩
      · rw [q]; simp only [Option.getD_some]; rw [h1']; exact h0
      · rw [pg_split]; exact hf
      · rw [q]; simp only [Option.getD_some]; rw [pg_split, h1']
/-! ### the pages -/
theorem pgs_fold : ∀ (l : List Cell6) (acc : List Int), Rise l → (acc.Pairwise fun x y => x < y) → (∀ n ∈ acc, ∀ x ∈ l, n ≤ x.addr / 4096) →
    ((l.foldl pgStep acc).Pairwise fun x y => x < y) ∧ ∀ n, n ∈ l.foldl pgStep acc ↔ n ∈ acc ∨ ∃ x ∈ l, x.addr / 4096 = n
  | [], acc, _, h2, _ => ⟨h2, by simp⟩
  | x :: l, acc, h1, h2, h3 => by
    obtain ⟨p1, p2⟩ := List.pairwise_cons.1 h1
    have hle : ∀ y ∈ l, x.addr / 4096 ≤ y.addr / 4096 := fun y hy => by have := p1 y hy; omega
    rw [List.foldl_cons]
    by_cases q : acc.getLast? = some (x.addr / 4096)
    · rw [show pgStep acc x = acc from by unfold pgStep; rw [if_pos q]]
      obtain ⟨a1, a2⟩ := pgs_fold l acc p2 h2 (fun n hn y hy => h3 n hn y (.tail _ hy))
      refine ⟨a1, fun n => ?_⟩
      rw [a2]
      have hm := List.mem_of_getLast? q
      constructor
      · rintro (h | ⟨y, hy, h⟩)
        · exact .inl h
        · exact .inr ⟨y, .tail _ hy, h⟩
      · rintro (h | ⟨y, hy, h⟩)
        · exact .inl h
        · rcases List.mem_cons.1 hy with rfl | hy
          · rw [← h]; exact .inl hm
          · exact .inr ⟨y, hy, h⟩
    · rw [show pgStep acc x = acc ++ [x.addr / 4096] from by unfold pgStep; rw [if_neg q]]
      have hlt : ∀ n ∈ acc, n < x.addr / 4096 := fun n hn => by
        have hle := h3 n hn x (.head _)
        rcases Int.lt_or_eq_of_le hle with h | h
        · exact h
        · exfalso
          subst h
          obtain ⟨l1, l2, rfl⟩ := List.append_of_mem hn
          cases l2 with
          | nil => exact q (by simp)
          | cons m l2 =>
            have b1 := (List.pairwise_append.1 h2).2.1
            have b2 := (List.pairwise_cons.1 b1).1 m (.head _)
            have b3 := h3 m (by simp) x (.head _)
            omega
      obtain ⟨a1, a2⟩ := pgs_fold l (acc ++ [x.addr / 4096]) p2 (List.pairwise_append.2 ⟨h2, by simp, fun n hn m hm => by simp at hm; subst hm; exact hlt n hn⟩)
        (fun n hn y hy => by rcases List.mem_append.1 hn with hn | hn; exact h3 n hn y (.tail _ hy); simp at hn; subst hn; exact hle y hy)
      refine ⟨a1, fun n => ?_⟩
      rw [a2]
      simp only [List.mem_append, List.mem_cons, List.not_mem_nil, or_false]
      constructor
      · rintro ((h | h) | ⟨y, hy, h⟩)
        · exact .inl h
        · exact .inr ⟨x, .inl rfl, h.symm⟩
        · exact .inr ⟨y, .inr hy, h⟩
      · rintro (h | ⟨y, rfl | hy, h⟩)
        · exact .inl (.inl h)
        · exact .inl (.inr h.symm)
        · exact .inr ⟨y, hy, h⟩
theorem Rel06.pages (r : Rel06 k L V) {ks : List Int} (hp : ks.Perm (keys (vals V))) (hs : ks.Pairwise fun x y => x ≤ y) : ks = pagesM L := by
  obtain ⟨a1, a2⟩ := pgs_fold L [] r.rise .nil (by simp)
  refine rising_eq (fun x : Int => x) (lt_of_nodup hs (hp.nodup_iff.2 r.nd)) a1 fun n => ?_
  rw [hp.mem_iff, mem_keys]
  show _ ↔ n ∈ L.foldl pgStep []
  rw [a2]
  simp only [List.not_mem_nil, false_or]
  constructor
  · intro h
    obtain ⟨f, hf⟩ := Option.isSome_iff_exists.1 h
    obtain ⟨i, hi, h1⟩ := r.nz n f hf
    have hw : wordV V (n * 4096 + (i : Int)) = f i := by unfold wordV; rw [pgN_at hi, pgI_at hi, hf]; rfl
    rw [r.wd] at hw
    have := mem_loadM (L := L) (a := n * 4096 + (i : Int)) (by rw [hw]; exact h1)
    exact ⟨_, this, pgN_at hi⟩
  · rintro ⟨x, hx, rfl⟩
    have h1 := loadM_mem r.rise hx
    rw [← r.wd] at h1
    have h0 := (r.rng x hx).2.2
    unfold wordV at h1
    show (look (vals V) (pgN x.addr)).isSome = true
    cases q : look (vals V) (pgN x.addr) with
    | none => rw [q] at h1; exact absurd h1.symm h0
    | some f => rfl
/-! ### a word is put -/
theorem Rel06.put (r : Rel06 k L V) (h : PutR V a wd V') (ha : 0 ≤ a ∧ a ≤ 4294967295) (hw : 0 ≤ wd ∧ wd ≤ 4294967295) : Rel06 (k + 1) (insM L a wd) V' := by
  have hN : 0 ≤ pgN a ∧ pgN a ≤ 1048575 := by unfold pgN; omega
  have hrng : ∀ x ∈ insM L a wd, (0 ≤ x.addr ∧ x.addr ≤ 4294967295) ∧ (0 ≤ x.word ∧ x.word ≤ 4294967295) ∧ x.word ≠ 0 := fun x hx => by
    rcases (insM_mem r.rise).1 hx with ⟨-, h⟩ | ⟨h, rfl⟩
    · exact r.rng x h
    · exact ⟨ha, hw, h⟩
  have hll : (insM L a wd).length ≤ k + 1 := by have := insM_len r.rise a wd; have := r.llen; omega
  have fin : ∀ V' : VT6, (keys (vals V')).Nodup → (∀ e ∈ V', 0 ≤ e.1 ∧ e.1 ≤ 1048575) → V'.length ≤ k + 1 → (∀ n f, look (vals V') n = some f → ∃ i, i < 4096 ∧ f i ≠ 0) → (∀ b, wordV V' b = if b = a then wd else wordV V b) → Rel06 (k + 1) (insM L a wd) V' :=
    fun V' h1 h2 h3 h4 h5 => ⟨h1, h2, h3, h4, insM_rise r.rise a wd, hrng, fun b => by rw [h5, loadM_ins r.rise, r.wd], hll⟩
  unfold PutR at h
  cases q : look (vals V) (pgN a) with
  | none =>
    rw [q] at h
    by_cases hz : wd = 0
    · subst hz
      rw [if_pos rfl] at h; subst h
      refine fin _ r.nd r.hn (by have := r.len; omega) r.nz fun b => ?_
      split
      · rename_i e; subst e; unfold wordV; rw [q]; rfl
      · rfl
    · rw [if_neg hz] at h
      obtain ⟨bk, rfl⟩ := h
      have hlk : ∀ n, look (vals (V ++ [(pgN a, bk, pgSet (fun _ => 0) (pgI a).toNat wd)])) n = if pgN a = n then some (pgSet (fun _ => 0) (pgI a).toNat wd) else look (vals V) n := fun n => by rw [vals_snoc, ← put_end q, look_put]
      refine fin _ (by rw [vals_snoc, ← put_end q]; exact nodup_put r.nd _ _) (fun e he => ?_) (by simp; have := r.len; omega) (fun n f hf => ?_) fun b => ?_
      · rcases List.mem_append.1 he with he | he
        · exact r.hn e he
        · simp at he; subst he; exact hN
      · rw [hlk] at hf
        by_cases e : pgN a = n
        · rw [if_pos e] at hf; cases hf; exact ⟨(pgI a).toNat, pgI_lt a, by simp [pgSet, hz]⟩
        · rw [if_neg e] at hf; exact r.nz n f hf
      · unfold wordV
        rw [hlk]
        by_cases e : pgN a = pgN b
        · rw [if_pos e, ← e, q]
          by_cases e2 : (pgI b).toNat = (pgI a).toNat
          · rw [if_pos (pg_eq e.symm e2)]; simp [pgSet, e2]
          · rw [if_neg (fun h => e2 (by rw [h]))]; simp [pgSet, e2]
        · rw [if_neg e, if_neg (fun h => e (by rw [h]))]
  | some f =>
    rw [q] at h
    obtain ⟨i, bk, hi, h⟩ := h
    have hset := vals_set (c' := pgSet f (pgI a).toNat wd) r.nd hi
    have hnds : (keys (vals (V.set i (pgN a, bk, pgSet f (pgI a).toNat wd)))).Nodup := by rw [hset]; exact nodup_put r.nd _ _
    have hns : ∀ e ∈ V.set i (pgN a, bk, pgSet f (pgI a).toNat wd), 0 ≤ e.1 ∧ e.1 ≤ 1048575 := fun e he => by
      rcases List.mem_or_eq_of_mem_set he with he | rfl
      · exact r.hn e he
      · exact hN
    by_cases hz : wd = 0 ∧ pgEq 4096 (pgSet f (pgI a).toNat wd) (fun _ => 0) = true
    · rw [if_pos hz] at h
      subst h
      have hall := pgEq_iff.1 hz.2
      have hlk : ∀ n, look (vals (delV (V.set i (pgN a, bk, pgSet f (pgI a).toNat wd)) (pgN a))) n = if pgN a = n then none else look (vals V) n := fun n => by
        rw [vals_delV, look_del hnds, hset, look_put]
        by_cases e : pgN a = n
        · rw [if_pos e, if_pos e]
        · rw [if_neg e, if_neg e, if_neg e]
      refine fin _ (by rw [vals_delV]; exact nodup_del hnds _) (fun e he => hns e (delV_sub.subset he)) (by have := (delV_sub (V := V.set i (pgN a, bk, pgSet f (pgI a).toNat wd)) (k := pgN a)).length_le; simp at this; have := r.len; omega) (fun n g hg => ?_) fun b => ?_
      · rw [hlk] at hg
        by_cases e : pgN a = n
        · rw [if_pos e] at hg; cases hg
        · rw [if_neg e] at hg; exact r.nz n g hg
      · unfold wordV
        rw [hlk]
        by_cases e : pgN a = pgN b
        · rw [if_pos e, ← e, q]
          by_cases e2 : (pgI b).toNat = (pgI a).toNat
          · rw [if_pos (pg_eq e.symm e2), hz.1]; rfl
          · rw [if_neg (fun h => e2 (by rw [h]))]
            have := hall _ (pgI_lt b)
            simp only [pgSet, if_neg e2] at this
            simp [this]
        · rw [if_neg e, if_neg (fun h => e (by rw [h]))]
    · rw [if_neg hz] at h
      subst h
      have hlk : ∀ n, look (vals (V.set i (pgN a, bk, pgSet f (pgI a).toNat wd))) n = if pgN a = n then some (pgSet f (pgI a).toNat wd) else look (vals V) n := fun n => by rw [hset, look_put]
      refine fin _ hnds hns (by simp; have := r.len; omega) (fun n g hg => ?_) fun b => ?_
      · rw [hlk] at hg
        by_cases e : pgN a = n
        · rw [if_pos e] at hg; cases hg
          by_cases h0 : wd = 0
          · apply Decidable.byContradiction
            intro hno
            refine hz ⟨h0, pgEq_iff.2 fun j hj => ?_⟩
            apply Decidable.byContradiction
            exact fun hj0 => hno ⟨j, hj, hj0⟩
          · exact ⟨(pgI a).toNat, pgI_lt a, by simp [pgSet, h0]⟩
        · rw [if_neg e] at hg; exact r.nz n g hg
      · unfold wordV
        rw [hlk]
        by_cases e : pgN a = pgN b
        · rw [if_pos e, ← e, q]
          by_cases e2 : (pgI b).toNat = (pgI a).toNat
          · rw [if_pos (pg_eq e.symm e2)]; simp [pgSet, e2]
          · rw [if_neg (fun h => e2 (by rw [h]))]; simp [pgSet, e2]
        · rw [if_neg e, if_neg (fun h => e (by rw [h]))]
end Go.Proofs.Ytcokpdlmahlpnaa.L
