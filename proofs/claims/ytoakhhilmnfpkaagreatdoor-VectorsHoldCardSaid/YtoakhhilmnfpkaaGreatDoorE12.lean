/- The engine: keys of maps, collected; maps whose values are blocks of their own. -/
import Derived.Test.YtoakhhilmnfpkaaGreatDoorE11
namespace Go.Proofs.YtoakhhilmnfpkaaGreatDoor.L
open Go.RowKit Go.MapKept Go.Maps

section
variable {α κ ν : Type}
theorem er_perm_ {l : List α} {k : Nat} {y : α} (h : l[k]? = some y) : l.Perm (y :: l.eraseIdx k) := by
  induction l generalizing k with
  | nil => cases h
  | cons z l ih =>
    cases k with
    | zero => cases h; exact List.Perm.refl _
    | succ k => exact ((ih (by simpa using h)).cons z).trans (List.Perm.swap _ _ _)
theorem er_len_ {l : List α} {k : Nat} {y : α} (h : l[k]? = some y) : (l.eraseIdx k).length < l.length := by
  have := (List.getElem?_eq_some_iff.1 h).1
  rw [List.length_eraseIdx]; split <;> omega
theorem key_step {ks pre : List κ} {left : List (κ × ν)} {k : Nat} {y : κ × ν} (hp : (pre ++ left.map (·.1)).Perm ks) (hk : left[k]? = some y) : ((pre ++ [y.1]) ++ (left.eraseIdx k).map (·.1)).Perm ks := by
  rw [List.append_assoc]
  exact (((er_perm_ hk).map (·.1)).symm.append_left pre).trans hp
theorem comes_key {ks pre : List κ} {left : List (κ × ν)} {k : Nat} {y : κ × ν} (hp : (pre ++ left.map (·.1)).Perm ks) (hk : left[k]? = some y) : Comes (fun l_ => l_.Perm ks) pre y.1 :=
  ⟨_, key_step hp hk, List.prefix_append _ _⟩
theorem key_done {ks pre : List κ} {left : List (κ × ν)} (hp : (pre ++ left.map (·.1)).Perm ks) (h : left = []) : pre.Perm ks := by subst h; simpa using hp
theorem comes_lt {Sx : List α → Prop} {pre : List α} {x : α} {n : Nat} (h : Comes Sx pre x) (hb : ∀ l, Sx l → l.length ≤ n) : pre.length < n := by
  obtain ⟨xs, hs, t, ht⟩ := h
  have := hb xs hs
  rw [← ht] at this; simp at this; omega
theorem iter_sx {P : Program} {gf : Nat} {lb : Array Value} {encs : α → Array Value} {Sx Sy : List α → Prop} {Os : List Res} (h : Iter P gf lb encs Sx Os) (e : ∀ l, Sx l ↔ Sy l) : Iter P gf lb encs Sy Os := by
  have : Sx = Sy := funext fun l => propext (e l)
  rwa [this] at h
end

/-! ### a new row, handed back -/
section
variable {w0 w w' : World} {S : Nat → Prop} {H G : List Res}
theorem Ws.madeRow {α : Type} {E sz : Nat} {en : α → List Value} {v : Value} {l : List α} (h : Ws w No H G w') (i : Nat) (hi : H[i]? = some (rowR E sz en v l)) : Made (rowR E sz en v l) w w' := h.madeDone i hi
theorem made_nil {α : Type} {E sz : Nat} {en : α → List Value} (hf : Fr No w w') : Made (rowR E sz en (.slice none ([] : List α).length 0) ([] : List α)) w w' :=
  ⟨hf, ⟨by simp [flat], .inl ⟨rfl, rfl⟩⟩, fun b hb => by simp [rowR, Value.ownBlock] at hb⟩
end

/-! ### maps whose values are blocks of their own -/
section
variable {κ γ : Type} (f : γ → Nat → Res)
/-- The blocks of such a map, each with what lies there. -/
def SubR (V : List (κ × Nat × γ)) : Res := allR (V.map fun e : κ × Nat × γ => f e.2.2 e.2.1)
/-- The map itself. -/
def outs (V : List (κ × Nat × γ)) : List (κ × Nat) := V.map fun e => (e.1, e.2.1)
/-- What it says. -/
def vals (V : List (κ × Nat × γ)) : List (κ × γ) := V.map fun e => (e.1, e.2.2)
variable {f} {w0 w : World} {S : Nat → Prop} {H K G : List Res} {V : List (κ × Nat × γ)}
theorem Ws.turnL {L L' : List Res} (h : Ws w0 S (L ++ K) G w) (hp : L'.Perm L) : Ws w0 S (L' ++ K) G w := by
  have hm : ∀ r ∈ L' ++ K, r ∈ L ++ K := fun r hr => by
    rcases List.mem_append.1 hr with hr | hr
    · exact List.mem_append.2 (.inl (hp.subset hr))
    · exact List.mem_append.2 (.inr hr)
  refine ⟨h.fr, fun r hr => h.at_ r (hm r hr), fun r hr => h.lt r (hm r hr), ?_, fun r hr => h.may r (hm r hr), h.gat, h.glt, fun g hg r hr => h.gd g hg r (hm r hr)⟩
  exact ((hp.append_right K).pairwise_iff (R := fun r s : Res => ∀ b ∈ r.fp, b ∉ s.fp) (fun {x y} hxy b hb hb' => hxy b hb' hb)).2 h.nd
theorem Ws.subOpen (h : Ws w0 S (SubR f V :: K) G w) (i : Nat) {e : κ × Nat × γ} (hi : V[i]? = some e) : Ws w0 S (f e.2.2 e.2.1 :: SubR f (V.eraseIdx i) :: K) G w := by
  have h1 : Ws w0 S ((V.map fun e : κ × Nat × γ => f e.2.2 e.2.1) ++ K) G w := h.unpack
  have h2 : Ws w0 S ((f e.2.2 e.2.1 :: (V.eraseIdx i).map fun e : κ × Nat × γ => f e.2.2 e.2.1) ++ K) G w := h1.turnL (((er_perm_ hi).map (fun e : κ × Nat × γ => f e.2.2 e.2.1)).symm)
  have h3 : Ws w0 S (((V.eraseIdx i).map fun e : κ × Nat × γ => f e.2.2 e.2.1) ++ (f e.2.2 e.2.1 :: K)) G w := by
    have := Ws.turnL (K := K) (L := f e.2.2 e.2.1 :: (V.eraseIdx i).map fun e : κ × Nat × γ => f e.2.2 e.2.1) (L' := ((V.eraseIdx i).map fun e : κ × Nat × γ => f e.2.2 e.2.1) ++ [f e.2.2 e.2.1]) h2 (List.perm_append_singleton _ _)
    simpa using this
  have h4 := h3.pack
  exact Ws.turnL (K := K) (L := [allR ((V.eraseIdx i).map fun e : κ × Nat × γ => f e.2.2 e.2.1), f e.2.2 e.2.1]) (L' := [f e.2.2 e.2.1, allR ((V.eraseIdx i).map fun e : κ × Nat × γ => f e.2.2 e.2.1)]) h4 (List.Perm.swap _ _ _)
theorem Ws.subClose {x : γ} {b i : Nat} (h : Ws w0 S (f x b :: SubR f (V.eraseIdx i) :: K) G w) {k : κ} {y : γ} (hi : V[i]? = some (k, b, y)) : Ws w0 S (SubR f (V.set i (k, b, x)) :: K) G w := by
  have h1 : Ws w0 S (SubR f (V.eraseIdx i) :: f x b :: K) G w := Ws.turnL (K := K) (L := [f x b, SubR f (V.eraseIdx i)]) (L' := [SubR f (V.eraseIdx i), f x b]) h (List.Perm.swap _ _ _)
  have h2 : Ws w0 S (((V.eraseIdx i).map fun e : κ × Nat × γ => f e.2.2 e.2.1) ++ (f x b :: K)) G w := h1.unpack
  have hlt := (List.getElem?_eq_some_iff.1 hi).1
  have hs : (V.set i (k, b, x))[i]? = some (k, b, x) := List.getElem?_set_self hlt
  have hp := (er_perm_ hs).map (fun e : κ × Nat × γ => f e.2.2 e.2.1)
  have he : (V.set i (k, b, x)).eraseIdx i = V.eraseIdx i := by rw [List.eraseIdx_set_eq]
  rw [he] at hp
  have h3 : Ws w0 S (((V.set i (k, b, x)).map fun e : κ × Nat × γ => f e.2.2 e.2.1) ++ K) G w := by
    refine Ws.turnL (K := K) (L := ((V.eraseIdx i).map fun e : κ × Nat × γ => f e.2.2 e.2.1) ++ [f x b]) ?_ (hp.trans (List.perm_append_singleton _ _).symm)
    simpa using h2
  exact h3.pack
theorem Ws.subAdd {x : γ} {b : Nat} (h : Ws w0 S (f x b :: SubR f V :: K) G w) (k : κ) : Ws w0 S (SubR f (V ++ [(k, b, x)]) :: K) G w := by
  have h1 : Ws w0 S (SubR f V :: f x b :: K) G w := Ws.turnL (K := K) (L := [f x b, SubR f V]) (L' := [SubR f V, f x b]) h (List.Perm.swap _ _ _)
  have h2 : Ws w0 S ((V.map fun e : κ × Nat × γ => f e.2.2 e.2.1) ++ (f x b :: K)) G w := h1.unpack
  have h3 : Ws w0 S (((V ++ [(k, b, x)]).map fun e : κ × Nat × γ => f e.2.2 e.2.1) ++ K) G w := by simpa using h2
  exact h3.pack
theorem Ws.subLess (h : Ws w0 S (SubR f V :: K) G w) {V' : List (κ × Nat × γ)} (hs : V'.Sublist V) : Ws w0 S (SubR f V' :: K) G w := by
  have h1 : Ws w0 S ((V.map fun e : κ × Nat × γ => f e.2.2 e.2.1) ++ K) G w := h.unpack
  have h2 : Ws w0 S ((V'.map fun e : κ × Nat × γ => f e.2.2 e.2.1) ++ K) G w := h1.less ((hs.map _).append (List.Sublist.refl K))
  exact h2.pack
/-- A block that is only read. -/
theorem Ws.subG (h : Ws w0 S H G w) (j : Nat) (hj : G[j]? = some (SubR f V)) {i : Nat} {e : κ × Nat × γ} (hi : V[i]? = some e) : Ws w0 S H (f e.2.2 e.2.1 :: G) w := by
  have hm := List.mem_of_getElem? hj
  have hp : (allR (V.map fun e : κ × Nat × γ => f e.2.2 e.2.1)).p w := h.gat _ hm
  have hmem : f e.2.2 e.2.1 ∈ V.map fun e : κ × Nat × γ => f e.2.2 e.2.1 := List.mem_map.2 ⟨e, List.mem_of_getElem? hi, rfl⟩
  have hfp : ∀ b ∈ (f e.2.2 e.2.1).fp, b ∈ (SubR f V).fp := fun b hb => mem_allR.2 ⟨_, hmem, hb⟩
  exact h.addG _ (hp.2 _ hmem) (fun b hb => h.glt _ hm b (hfp b hb)) (fun r hr b hb hb' => h.gd _ hm r hr b hb (hfp b hb'))
theorem SubR.nil : Ws w0 S K G w → Ws w0 S (SubR f ([] : List (κ × Nat × γ)) :: K) G w := fun h => Ws.pack (L := []) h
variable [DecidableEq κ]
/-- Where a key's block stands. -/
theorem outs_at {k : κ} {b : Nat} (h : look (outs V) k = some b) : ∃ (i : Nat) (c : γ), V[i]? = some (k, b, c) ∧ look (vals V) k = some c := by
  induction V with
  | nil => cases h
  | cons x V ih =>
    obtain ⟨a, b', c'⟩ := x
    simp only [outs, vals, List.map_cons, look] at h ⊢
    by_cases e : a = k
    · rw [if_pos e] at h ⊢
      cases h; subst e
      exact ⟨0, c', rfl, rfl⟩
    · rw [if_neg e] at h ⊢
      obtain ⟨i, c, h1, h2⟩ := ih h
      exact ⟨i + 1, c, by simpa using h1, h2⟩
theorem outs_none {k : κ} : look (outs V) k = none ↔ look (vals V) k = none := by
  induction V with
  | nil => simp [outs, vals, look]
  | cons x V ih =>
    obtain ⟨a, b', c'⟩ := x
    simp only [outs, vals, List.map_cons, look] at ih ⊢
    by_cases e : a = k
    · rw [if_pos e, if_pos e]; simp
    · rw [if_neg e, if_neg e]; exact ih
omit [DecidableEq κ] in
theorem keys_outs : keys (outs V) = keys (vals V) := by simp [keys, outs, vals]
omit [DecidableEq κ] in
theorem outs_snoc (k : κ) (b : Nat) (c : γ) : outs (V ++ [(k, b, c)]) = outs V ++ [(k, b)] := by simp [outs]
omit [DecidableEq κ] in
theorem vals_snoc (k : κ) (b : Nat) (c : γ) : vals (V ++ [(k, b, c)]) = vals V ++ [(k, c)] := by simp [vals]
omit [DecidableEq κ] in
theorem outs_set {i : Nat} {k : κ} {b : Nat} {c c' : γ} (hi : V[i]? = some (k, b, c)) : outs (V.set i (k, b, c')) = outs V := by
  unfold outs
  rw [List.map_set]
  refine List.ext_getElem? fun j => ?_
  by_cases e : i = j
  · subst e
    have hlt := (List.getElem?_eq_some_iff.1 hi).1
    rw [List.getElem?_set_self (by simpa using hlt), List.getElem?_map, hi]; rfl
  · rw [List.getElem?_set_ne e]
theorem vals_set {i : Nat} {k : κ} {b : Nat} {c c' : γ} (hn : (keys (vals V)).Nodup) (hi : V[i]? = some (k, b, c)) : vals (V.set i (k, b, c')) = put (vals V) k c' := by
  induction V generalizing i with
  | nil => cases hi
  | cons x V ih =>
    obtain ⟨a, b', d⟩ := x
    cases i with
    | zero => cases hi; simp [vals, put]
    | succ i =>
      have hn2 := List.nodup_cons.1 hn
      have hi' : V[i]? = some (k, b, c) := by simpa using hi
      have hne : a ≠ k := fun e => hn2.1 (by subst e; exact List.mem_map.2 ⟨(a, c), List.mem_map.2 ⟨_, List.mem_of_getElem? hi', rfl⟩, rfl⟩)
      have := ih hn2.2 hi'
      simp only [vals, List.set_cons_succ, List.map_cons, put] at this ⊢
      rw [if_neg hne, this]
theorem put_end {κ ν : Type} [DecidableEq κ] {m : List (κ × ν)} {k : κ} {v : ν} (e : look m k = none) : put m k v = m ++ [(k, v)] := by
  induction m with
  | nil => rfl
  | cons x r ih =>
    obtain ⟨a, u⟩ := x
    simp only [look] at e
    split at e
    · cases e
    · rename_i ha
      simp only [put]; rw [if_neg ha, ih e]; rfl
/-- A key is struck. -/
def delV (V : List (κ × Nat × γ)) (k : κ) : List (κ × Nat × γ) :=
  match V with
  | [] => []
  | e :: r => if e.1 = k then r else e :: delV r k
theorem delV_sub {k : κ} : (delV V k).Sublist V := by
  induction V with
  | nil => exact .slnil
  | cons x r ih =>
    unfold delV
    by_cases e : x.1 = k
    · rw [if_pos e]; exact List.sublist_cons_self _ _
    · rw [if_neg e]; exact ih.cons_cons _
theorem outs_delV {k : κ} : outs (delV V k) = del (outs V) k := by
  induction V with
  | nil => rfl
  | cons x r ih =>
    unfold delV
    by_cases e : x.1 = k
    · rw [if_pos e]; simp [outs, del, e]
    · rw [if_neg e]; simp only [outs, List.map_cons, del] at ih ⊢; rw [if_neg e, ih]
theorem vals_delV {k : κ} : vals (delV V k) = del (vals V) k := by
  induction V with
  | nil => rfl
  | cons x r ih =>
    unfold delV
    by_cases e : x.1 = k
    · rw [if_pos e]; simp [vals, del, e]
    · rw [if_neg e]; simp only [vals, List.map_cons, del] at ih ⊢; rw [if_neg e, ih]
end
end Go.Proofs.YtoakhhilmnfpkaaGreatDoor.L
