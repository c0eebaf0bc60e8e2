/- Layer 22, the plain law: a shadow of pages and the document's list stand alike. -/
import Derived.Test.YtcgcippmbeileaaT12
namespace Go.Proofs.Ytcgcippmbeileaa.L
open Go.RowKit Go.MapKept Go.Maps

theorem rising_eq {α : Type} (key : α → Int) : ∀ {l l' : List α}, (l.Pairwise fun x y => key x < key y) → (l'.Pairwise fun x y => key x < key y) → (∀ x, x ∈ l ↔ x ∈ l') → l = l'
  | [], [], _, _, _ => rfl
  | [], b :: l', _, _, h => absurd ((h b).2 (by simp)) (by simp)
  | a :: l, [], _, _, h => absurd ((h a).1 (by simp)) (by simp)
  | a :: l, b :: l', hs, hs', h => by
    obtain ⟨h1, h2⟩ := List.pairwise_cons.1 hs
    obtain ⟨h1', h2'⟩ := List.pairwise_cons.1 hs'
    have e : a = b := by
      rcases List.mem_cons.1 ((h a).1 (by simp)) with q | q
      · exact q
      rcases List.mem_cons.1 ((h b).2 (by simp)) with r | r
      · exact r.symm
      have := h1 _ r
      have := h1' _ q
      omega
    subst e
    rw [rising_eq key h2 h2' fun x => ?_]
    have hx := h x
    simp only [List.mem_cons] at hx
    constructor
    · intro hm
      rcases hx.1 (.inr hm) with rfl | q
      · have := h1 _ hm; omega
      · exact q
    · intro hm
      rcases hx.2 (.inr hm) with rfl | q
      · have := h1' _ hm; omega
      · exact q
theorem lt_of_nodup {l : List Int} (hs : l.Pairwise (fun x y => x ≤ y)) (hn : l.Nodup) : l.Pairwise (fun x y => x < y) := (hs.and hn).imp (fun {a b} h => by have := h.1; have := h.2; omega)
theorem mem_keys {α : Type} {m : List (Int × α)} {i : Int} : i ∈ keys m ↔ (look m i).isSome = true := by
  cases e : look m i with
  | none => simp [look_none.1 e]
  | some v => simp [keys]; exact ⟨v, look_mem e⟩
theorem look_perm {α : Type} {m m' : List (Int × α)} (hp : m'.Perm m) (hn : (keys m).Nodup) (i : Int) : look m' i = look m i := by
  have hn' : (keys m').Nodup := ((hp.map _).nodup_iff).2 hn
  cases e : look m i with
  | none =>
    cases q : look m' i with
    | none => rfl
    | some v => rw [look_of_mem hn (hp.mem_iff.1 (look_mem q))] at e; cases e
  | some v => exact look_of_mem hn' (hp.mem_iff.2 (look_mem e))

abbrev Rise22 (L : List Cell22) : Prop := L.Pairwise fun x y => x.addr < y.addr
/-- The document's At, Lay, Pages. -/
def atL (L : List Cell22) (a : Int) : Shade := ((L.find? fun c => decide (c.addr = a)).map (·.x)).getD zSh
def layL (L : List Cell22) (a : Int) (x : Shade) : List Cell22 := L.filter (fun c => decide (c.addr < a)) ++ (⟨a, x⟩ : Cell22) :: L.filter (fun c => decide (a < c.addr))
def pgStep (O : List Int) (x : Cell22) : List Int := if O.getLast? = some (x.addr / 4096) then O else O ++ [x.addr / 4096]
def pagesM (L : List Cell22) : List Int := L.foldl pgStep []
variable {L L' : List Cell22} {V V' : VT22} {k : Nat} {a : Int} {x : Shade}
theorem atL_cons (c : Cell22) (L : List Cell22) (a : Int) : atL (c :: L) a = if c.addr = a then c.x else atL L a := by
  unfold atL; rw [List.find?_cons]
  by_cases h : c.addr = a <;> simp [h]
theorem atL_none (h : ∀ c ∈ L, c.addr ≠ a) : atL L a = zSh := by
  induction L with
  | nil => rfl
  | cons c L ih => rw [atL_cons, if_neg (h c (.head _))]; exact ih fun d hd => h d (.tail _ hd)
theorem atL_mem (hs : Rise22 L) {c : Cell22} (hc : c ∈ L) : atL L c.addr = c.x := by
  induction L with
  | nil => cases hc
  | cons d L ih =>
    obtain ⟨h1, h2⟩ := List.pairwise_cons.1 hs
    rw [atL_cons]
    rcases List.mem_cons.1 hc with rfl | hc
    · rw [if_pos rfl]
    · rw [if_neg (by have := h1 c hc; omega)]; exact ih h2 hc
theorem layL_mem {c : Cell22} (_ : Rise22 L) : c ∈ layL L a x ↔ (c.addr ≠ a ∧ c ∈ L) ∨ c = ⟨a, x⟩ := by
  unfold layL
  simp only [List.mem_append, List.mem_cons, List.mem_filter, decide_eq_true_eq]
  constructor
  · rintro (⟨h, h2⟩ | h | ⟨h, h2⟩)
    · exact .inl ⟨by omega, h⟩
    · exact .inr h
    · exact .inl ⟨by omega, h⟩
  · rintro (⟨h, h2⟩ | h)
    · by_cases q : c.addr < a
      · exact .inl ⟨h2, q⟩
      · exact .inr (.inr ⟨h2, by omega⟩)
    · exact .inr (.inl h)
theorem layL_rise (hs : Rise22 L) : Rise22 (layL L a x) := by
  refine List.pairwise_append.2 ⟨hs.sublist List.filter_sublist, List.pairwise_cons.2 ⟨fun c hc => ?_, hs.sublist List.filter_sublist⟩, fun c hc d hd => ?_⟩
  · simpa using (List.mem_filter.1 hc).2
  · have h1 : c.addr < a := by simpa using (List.mem_filter.1 hc).2
    rcases List.mem_cons.1 hd with rfl | hd
    · exact h1
    · have : a < d.addr := by simpa using (List.mem_filter.1 hd).2
      omega
theorem layL_len : (layL L a x).length ≤ L.length + 1 := by
  have h : (L.filter (fun c => decide (c.addr < a))).length + (L.filter (fun c => decide (a < c.addr))).length ≤ L.length := by
    induction L with
    | nil => simp
    | cons c L ih =>
      simp only [List.filter_cons]
      by_cases h1 : c.addr < a
      · have h2 : ¬ a < c.addr := by omega
        simp only [h1, h2, decide_true, decide_false, if_true, Bool.false_eq_true, if_false, List.length_cons]; omega
      · by_cases h2 : a < c.addr
        · simp only [h1, h2, decide_true, decide_false, if_true, Bool.false_eq_true, if_false, List.length_cons]; omega
        · simp only [h1, h2, decide_false, Bool.false_eq_true, if_false, List.length_cons]; omega
  unfold layL
  rw [List.length_append, List.length_cons]; omega
theorem atL_lay (hs : Rise22 L) (b : Int) : atL (layL L a x) b = if b = a then x else atL L b := by
  by_cases e : b = a
  · subst e; rw [if_pos rfl]; exact atL_mem (layL_rise hs) (c := ⟨b, x⟩) ((layL_mem hs).2 (.inr rfl))
  · rw [if_neg e]
    by_cases q : ∃ c ∈ L, c.addr = b
    · obtain ⟨c, hc, rfl⟩ := q
      rw [atL_mem hs hc]; exact atL_mem (layL_rise hs) ((layL_mem hs).2 (.inl ⟨e, hc⟩))
    · rw [atL_none fun c hc h => q ⟨c, hc, h⟩]
      refine atL_none fun c hc h => ?_
      rcases (layL_mem hs).1 hc with ⟨h1, h2⟩ | rfl
      · exact q ⟨c, h2, h⟩
      · exact e h.symm
structure Rel22 (k : Nat) (L : List Cell22) (V : VT22) : Prop where
  nd : (keys (vals V)).Nodup
  hn : ∀ e ∈ V, 0 ≤ e.1 ∧ e.1 ≤ 1048575
  len : V.length ≤ k
  rise : Rise22 L
  rng : ∀ c ∈ L, 0 ≤ c.addr ∧ c.addr ≤ 4294967295
  at_ : ∀ a, atS V a = atL L a
  page : ∀ n, (look (vals V) n).isSome = true ↔ ∃ c ∈ L, c.addr / 4096 = n
  llen : L.length ≤ k
theorem Rel22.start : Rel22 0 [] [] := ⟨by simp [vals, keys], by simp, by simp, .nil, by simp, fun _ => rfl, by simp [vals, look], by simp⟩
theorem Rel22.mono (r : Rel22 k L V) : Rel22 (k + 1) L V := ⟨r.nd, r.hn, by have := r.len; omega, r.rise, r.rng, r.at_, r.page, by have := r.llen; omega⟩
theorem pg22 {a b : Int} (h1 : b / 4096 = a / 4096) (h2 : Int.toNat (b % 4096) = Int.toNat (a % 4096)) : b = a := by omega
theorem Rel22.lay (r : Rel22 k L V) (h : LayR V a x V') (ha : 0 ≤ a ∧ a ≤ 4294967295) : Rel22 (k + 1) (layL L a x) V' := by
  have hN : 0 ≤ a / 4096 ∧ a / 4096 ≤ 1048575 := by omega
  have hll : (layL L a x).length ≤ k + 1 := by have := layL_len (L := L) (a := a) (x := x); have := r.llen; omega
  have hrng : ∀ c ∈ layL L a x, 0 ≤ c.addr ∧ c.addr ≤ 4294967295 := fun c hc => by
    rcases (layL_mem r.rise).1 hc with ⟨-, h⟩ | rfl
    · exact r.rng c h
    · exact ha
  have fin : ∀ (V' : VT22) (g : Nat → Shade), (keys (vals V')).Nodup → (∀ e ∈ V', 0 ≤ e.1 ∧ e.1 ≤ 1048575) → V'.length ≤ k + 1 → (∀ n, look (vals V') n = if a / 4096 = n then some g else look (vals V) n) →
      (∀ b, b / 4096 = a / 4096 → g (Int.toNat (b % 4096)) = if b = a then x else atS V b) → Rel22 (k + 1) (layL L a x) V' := fun V' g h1 h2 h3 hlk hg => by
    refine ⟨h1, h2, h3, layL_rise r.rise, hrng, fun b => ?_, fun n => ?_, hll⟩
    · rw [atL_lay r.rise, ← r.at_]
      by_cases e : a / 4096 = b / 4096
      · rw [← hg b e.symm]; unfold atS; rw [hlk, if_pos e]; rfl
      · rw [if_neg (fun q => e (by rw [q]))]; unfold atS; rw [hlk, if_neg e]
    · rw [hlk]
      by_cases e : a / 4096 = n
      · rw [if_pos e]
        exact ⟨fun _ => ⟨⟨a, x⟩, (layL_mem r.rise).2 (.inr rfl), e⟩, fun _ => rfl⟩
      · rw [if_neg e, r.page]
        constructor
        · rintro ⟨c, hc, q⟩
          exact ⟨c, (layL_mem r.rise).2 (.inl ⟨fun w => e (by rw [← w]; exact q), hc⟩), q⟩
        · rintro ⟨c, hc, q⟩
          rcases (layL_mem r.rise).1 hc with ⟨-, h⟩ | rfl
          · exact ⟨c, h, q⟩
          · exact absurd q e
  unfold LayR at h
  cases q : look (vals V) (a / 4096) with
  | none =>
    rw [q] at h
    obtain ⟨b, rfl⟩ := h
    refine fin _ (psSet (fun _ => zSh) (Int.toNat (a % 4096)) x) (by rw [vals_snoc, ← put_end q]; exact nodup_put r.nd _ _) (fun e he => ?_) (by simp; have := r.len; omega) (fun n => by rw [vals_snoc, ← put_end q, look_put]) fun b hb => ?_
    · rcases List.mem_append.1 he with he | he
      · exact r.hn e he
      · simp at he; subst he; exact hN
    · unfold psSet atS
      rw [hb, q]
      by_cases e : Int.toNat (b % 4096) = Int.toNat (a % 4096)
      · rw [if_pos e, if_pos (pg22 hb e)]
      · rw [if_neg e, if_neg (fun h => e (by rw [h]))]; rfl
  | some f =>
    rw [q] at h
    obtain ⟨i, b, hi, rfl⟩ := h
    have hset := vals_set (c' := psSet f (Int.toNat (a % 4096)) x) r.nd hi
    refine fin _ (psSet f (Int.toNat (a % 4096)) x) (by rw [hset]; exact nodup_put r.nd _ _) (fun e he => ?_) (by simp; have := r.len; omega) (fun n => by rw [hset, look_put]) fun b hb => ?_
    · rcases List.mem_or_eq_of_mem_set he with he | rfl
      · exact r.hn e he
      · exact hN
    · unfold psSet atS
      rw [hb, q]
      by_cases e : Int.toNat (b % 4096) = Int.toNat (a % 4096)
      · rw [if_pos e, if_pos (pg22 hb e)]
      · rw [if_neg e, if_neg (fun h => e (by rw [h]))]; rfl
theorem pgs_fold : ∀ (l : List Cell22) (acc : List Int), Rise22 l → (acc.Pairwise fun x y => x < y) → (∀ n ∈ acc, ∀ x ∈ l, n ≤ x.addr / 4096) →
    ((l.foldl pgStep acc).Pairwise fun x y => x < y) ∧ ∀ n, n ∈ l.foldl pgStep acc ↔ n ∈ acc ∨ ∃ x ∈ l, x.addr / 4096 = n
  | [], acc, _, h2, _ => ⟨h2, by simp⟩
  | x :: l, acc, h1, h2, h3 => by
    obtain ⟨p1, p2⟩ := List.pairwise_cons.1 h1
    have hle : ∀ y ∈ l, x.addr / 4096 ≤ y.addr / 4096 := fun y hy => by have := p1 y hy; omega
    rw [List.foldl_cons]
    by_cases q : acc.getLast? = some (x.addr / 4096)
    · rw [show pgStep acc x = acc from by unfold pgStep; rw [if_pos q]]
      obtain ⟨a1, a2⟩ := pgs_fold l acc p2 h2 (fun n hn y hy => h3 n hn y (.tail _ hy))
      refine ⟨a1, fun n => ?_⟩
      rw [a2]
      have hm := List.mem_of_getLast? q
      constructor
      · rintro (h | ⟨y, hy, h⟩)
        · exact .inl h
        · exact .inr ⟨y, .tail _ hy, h⟩
      · rintro (h | ⟨y, hy, h⟩)
        · exact .inl h
        · rcases List.mem_cons.1 hy with rfl | hy
          · rw [← h]; exact .inl hm
          · exact .inr ⟨y, hy, h⟩
    · rw [show pgStep acc x = acc ++ [x.addr / 4096] from by unfold pgStep; rw [if_neg q]]
      have hlt : ∀ n ∈ acc, n < x.addr / 4096 := fun n hn => by
        have hle := h3 n hn x (.head _)
        rcases Int.lt_or_eq_of_le hle with h | h
        · exact h
        · exfalso
          subst h
          obtain ⟨l1, l2, rfl⟩ := List.append_of_mem hn
          cases l2 with
          | nil => exact q (by simp)
          | cons m l2 =>
            have b1 := (List.pairwise_append.1 h2).2.1
            have b2 := (List.pairwise_cons.1 b1).1 m (.head _)
            have b3 := h3 m (by simp) x (.head _)
            omega
      obtain ⟨a1, a2⟩ := pgs_fold l (acc ++ [x.addr / 4096]) p2 (List.pairwise_append.2 ⟨h2, by simp, fun n hn m hm => by simp at hm; subst hm; exact hlt n hn⟩)
        (fun n hn y hy => by rcases List.mem_append.1 hn with hn | hn; exact h3 n hn y (.tail _ hy); simp at hn; subst hn; exact hle y hy)
      refine ⟨a1, fun n => ?_⟩
      rw [a2]
      simp only [List.mem_append, List.mem_cons, List.not_mem_nil, or_false]
      constructor
      · rintro ((h | h) | ⟨y, hy, h⟩)
        · exact .inl h
        · exact .inr ⟨x, .inl rfl, h.symm⟩
        · exact .inr ⟨y, .inr hy, h⟩
      · rintro (h | ⟨y, rfl | hy, h⟩)
        · exact .inl (.inl h)
        · exact .inl (.inr h.symm)
        · exact .inr ⟨y, hy, h⟩
theorem Rel22.pages (r : Rel22 k L V) {ks : List Int} (hp : ks.Perm (keys (vals V))) (hs : ks.Pairwise fun x y => x ≤ y) : ks = pagesM L := by
  obtain ⟨a1, a2⟩ := pgs_fold L [] r.rise .nil (by simp)
  refine rising_eq (fun x : Int => x) (lt_of_nodup hs (hp.nodup_iff.2 r.nd)) a1 fun n => ?_
  rw [hp.mem_iff, mem_keys]
  show _ ↔ n ∈ L.foldl pgStep []
  rw [a2, r.page]
  simp
/-! ### what is gathered -/
theorem pgG_mem {β : Type} {p : Cell22 → Option β} {n : Int} {f : Nat → Shade} {i : Nat} {u : β} : u ∈ pgG p n f i ↔ ∃ j, j < i ∧ p ⟨n * 4096 + (j : Int), f j⟩ = some u := by
  unfold pgG; rw [List.mem_filterMap]; simp [List.mem_range]
theorem pgG_map {β γ : Type} {p : Cell22 → Option β} {g : β → γ} {q : Cell22 → Option γ} (h : ∀ c, (p c).map g = q c) (n : Int) (f : Nat → Shade) (i : Nat) : (pgG p n f i).map g = pgG q n f i := by
  unfold pgG; rw [List.map_filterMap]
  exact congrArg (fun r => List.filterMap r (List.range i)) (funext fun j => h _)
theorem gathOf_map {β γ : Type} (p : Cell22 → Option β) (g : β → γ) (q : Cell22 → Option γ) (h : ∀ c, (p c).map g = q c) (M : List (Int × (Nat → Shade))) (ks : List Int) : (gathOf p M ks).map g = gathOf q M ks := by
  induction ks with
  | nil => rfl
  | cons n ks ih =>
    unfold gathOf at ih ⊢
    rw [List.flatMap_cons, List.flatMap_cons, List.map_append, pgG_map h, ih]
/-- Those of which something is so, as cells. -/
def pIf (t : Shade → Bool) (c : Cell22) : Option Cell22 := if t c.x = true then some c else none
theorem gath_rise (t : Shade → Bool) (M : List (Int × (Nat → Shade))) : ∀ {ks : List Int}, (ks.Pairwise fun x y => x < y) → Rise22 (gathOf (pIf t) M ks)
  | [], _ => by simp [gathOf]
  | n :: ks, hs => by
    obtain ⟨h1, h2⟩ := List.pairwise_cons.1 hs
    have hsplit : gathOf (pIf t) M (n :: ks) = pgG (pIf t) n ((look M n).getD fun _ => zSh) 4096 ++ gathOf (pIf t) M ks := by unfold gathOf; rw [List.flatMap_cons]
    rw [hsplit]
    have hpg : ∀ i, Rise22 (pgG (pIf t) n ((look M n).getD fun _ => zSh) i) := fun i => by
      induction i with
      | zero => simp [pgG]
      | succ i ih =>
        unfold pgG at ih ⊢
        rw [List.range_succ, List.filterMap_append]
        refine List.pairwise_append.2 ⟨ih, ?_, fun c hc d hd => ?_⟩
        · by_cases q : t (((look M n).getD fun _ => zSh) i) = true <;> simp [pIf, q]
        · obtain ⟨j, hj, hjc⟩ := pgG_mem.1 (show c ∈ pgG (pIf t) n ((look M n).getD fun _ => zSh) i from hc)
          simp only [List.filterMap_cons, List.filterMap_nil] at hd
          unfold pIf at hd hjc
          split at hjc
          · cases hjc
            split at hd
            · cases hd
            · rename_i e; split at e
              · cases e; simp only [List.mem_singleton] at hd; subst hd; simp only; omega
              · cases e
          · cases hjc
    refine List.pairwise_append.2 ⟨hpg 4096, gath_rise t M h2, fun c hc d hd => ?_⟩
    obtain ⟨j, hj, hjc⟩ := pgG_mem.1 hc
    obtain ⟨n', hn', hd⟩ := List.mem_flatMap.1 hd
    obtain ⟨j', hj', hjd⟩ := pgG_mem.1 hd
    have := h1 n' hn'
    unfold pIf at hjc hjd
    split at hjc
    · cases hjc
      split at hjd
      · cases hjd; simp only; omega
      · cases hjd
    · cases hjc
theorem Rel22.gath (r : Rel22 k L V) {ks : List Int} (hp : ks.Perm (keys (vals V))) (hs : ks.Pairwise fun x y => x ≤ y) (t : Shade → Bool) (ht : t zSh = false) : gathOf (pIf t) (vals V) ks = L.filter (fun c => t c.x) := by
  refine rising_eq (fun c : Cell22 => c.addr) (gath_rise t _ (lt_of_nodup hs (hp.nodup_iff.2 r.nd))) (r.rise.sublist List.filter_sublist) fun c => ?_
  rw [List.mem_filter]
  unfold gathOf
  rw [List.mem_flatMap]
  constructor
  · rintro ⟨n, hn, hc⟩
    obtain ⟨f, hf⟩ := Option.isSome_iff_exists.1 (mem_keys.1 (hp.mem_iff.1 hn))
    rw [hf] at hc
    obtain ⟨j, hj, h⟩ := pgG_mem.1 hc
    unfold pIf at h
    split at h
    · rename_i e
      cases h
      simp only [Option.getD_some] at e ⊢
      have hw : atS V (n * 4096 + (j : Int)) = f j := by
        unfold atS
        rw [show (n * 4096 + (j : Int)) / 4096 = n from by omega, hf, show Int.toNat ((n * 4096 + (j : Int)) % 4096) = j from by omega]; rfl
      rw [r.at_] at hw
      refine ⟨?_, e⟩
      by_cases q : ∃ c ∈ L, c.addr = n * 4096 + (j : Int)
      · obtain ⟨c, hc, hca⟩ := q
        have := atL_mem r.rise hc
        rw [hca, hw] at this
        obtain ⟨ca, cx⟩ := c
        simp only at hca this
        subst hca this; exact hc
      · rw [atL_none fun c hc h => q ⟨c, hc, h⟩] at hw
        rw [← hw, ht] at e; cases e
    · cases h
  · rintro ⟨hc, ht2⟩
    have h1 := atL_mem r.rise hc
    rw [← r.at_] at h1
    obtain ⟨f, hf⟩ := Option.isSome_iff_exists.1 ((r.page _).2 ⟨c, hc, rfl⟩)
    refine ⟨c.addr / 4096, hp.mem_iff.2 (mem_keys.2 (by rw [hf]; rfl)), ?_⟩
    rw [hf]
    unfold atS at h1
    rw [hf] at h1
    have h2 : f (Int.toNat (c.addr % 4096)) = c.x := h1
    have hr := r.rng c hc
    refine pgG_mem.2 ⟨Int.toNat (c.addr % 4096), by omega, ?_⟩
    unfold pIf
    simp only [Option.getD_some]
    rw [h2, if_pos ht2]
    congr 1
    obtain ⟨ca, cx⟩ := c
    simp only at hr ⊢
    congr 1
    omega
theorem Rel22.vecs (r : Rel22 k L V) {ks : List Int} (hp : ks.Perm (keys (vals V))) (hs : ks.Pairwise fun x y => x ≤ y) : gathOf pVec (vals V) ks = (L.filter (fun c => decide (c.x.vec > 0))).map (·.addr) := by
  rw [← r.gath hp hs (fun x => decide (x.vec > 0)) (by decide), gathOf_map (pIf fun x => decide (x.vec > 0)) (·.addr) pVec]
  intro c
  unfold pIf pVec
  by_cases h : c.x.vec > 0
  · rw [if_pos (decide_eq_true h), if_pos h]; rfl
  · rw [if_neg (by simpa using h), if_neg h]; rfl
theorem Rel22.all (r : Rel22 k L V) {ks : List Int} (hp : ks.Perm (keys (vals V))) (hs : ks.Pairwise fun x y => x ≤ y) : gathOf pAll (vals V) ks = L.filter (fun c => decide (c.x ≠ zSh)) := by
  rw [← r.gath hp hs (fun x => decide (x ≠ zSh)) (by decide)]
  congr 1
  funext c
  unfold pIf pAll zSh
  by_cases h : c.x = (⟨0, ⟨0, 0⟩, 0, ⟨0, 0⟩, 0⟩ : Shade)
  · rw [if_pos h, if_neg (by simp [h])]
  · rw [if_neg h, if_pos (decide_eq_true h)]
end Go.Proofs.Ytcgcippmbeileaa.L
