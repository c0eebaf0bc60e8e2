/- The plain law of layer 26: marks tell the last accesses, a hit's accesses are the last ones that race. Nothing of the program is walked here. -/
import Derived.Test.YtoakhhilmnfpkaaGreatDoorT28
import Derived.Test.YtoakhhilmnfpkaaGreatDoorRel24
namespace Go.Proofs.YtoakhhilmnfpkaaGreatDoor.L
open Go.RowKit

def AccAt (e : Event) (k a g : Int) : Prop := e.kind = k ∧ e.addr = a ∧ e.g = g
/-- The last access of a kind, an address, a goroutine. -/
def LastA (E : List Event) (k a g : Int) (i : Nat) (e : Event) : Prop := E[i]? = some e ∧ AccAt e k a g ∧ ∀ j y, i < j → E[j]? = some y → ¬ AccAt y k a g
def halfM (m : Mk2) (k : Int) : List Int × List (Int × Site) := if k = 3 then m.1 else m.2
def mStep (p : List Event × (Int → Mk2)) (x : Event) : List Event × (Int → Mk2) := (p.1 ++ [x], (comeV 0 (gv (stK (p.1 ++ [x])) x.g) x p.2 [] 0).1)
/-- The marks that come of events. -/
def mK (E : List Event) : Int → Mk2 := (E.foldl mStep ([], M0)).2
theorem mStep_fst (E : List Event) (p : List Event × (Int → Mk2)) : (E.foldl mStep p).1 = p.1 ++ E := by
  induction E generalizing p with
  | nil => simp
  | cons x E ih => rw [List.foldl_cons, ih]; simp [mStep]
theorem mK_snoc (E : List Event) (x : Event) : mK (E ++ [x]) = (comeV 0 (gv (stK (E ++ [x])) x.g) x (mK E) [] 0).1 := by
  unfold mK; rw [List.foldl_append]
  have h := mStep_fst E ([], M0)
  rw [List.nil_append] at h
  show (comeV 0 (gv (stK ((E.foldl mStep ([], M0)).1 ++ [x])) x.g) x (E.foldl mStep ([], M0)).2 [] 0).1 = _
  rw [h]
theorem comeV_fst (er : Int) (c : List Int) (x : Event) (M : Int → Mk2) (L : List HitT) (n : Int) : (comeV er c x M L n).1 = (comeV er c x M [] 0).1 := by
  unfold comeV
  split
  · rfl
  · split
    · rfl
    · split <;> rfl
theorem mK_no {E : List Event} {x : Event} (h : ¬ (x.kind = 3 ∨ x.kind = 2)) : mK (E ++ [x]) = mK E := by rw [mK_snoc, comeV_0 rfl h]
theorem mK_acc {E : List Event} {x : Event} (h : x.kind = 3 ∨ x.kind = 2) : mK (E ++ [x]) = setM (gv (stK (E ++ [x])) x.g) (mK E) x := by
  rw [mK_snoc]
  by_cases q : withV (gv (stK (E ++ [x])) x.g) (mK E x.addr) x = []
  · rw [comeV_1 rfl h q]
  · rw [comeV_2 rfl h q]
theorem half_mark {c : List Int} {m : Mk2} {x : Event} {k : Int} (hx : x.kind = 3 ∨ x.kind = 2) (hk : k = 3 ∨ k = 2) : halfM (markM c m x) k = if k = x.kind then (join2 (halfM m k).1 (oneL x.g (getC c x.g)), put (halfM m k).2 x.g x.site) else halfM m k := by
  unfold halfM markM
  rcases hx with hx | hx <;> rcases hk with hk | hk <;> simp [hx, hk]
theorem getC_oneL {g : Int} (hg : 0 ≤ g) (own i : Int) : getC (oneL g own) i = if i = g then own else 0 := by
  unfold oneL
  by_cases h0 : i < 0
  · rw [getC_neg h0, if_neg (by omega)]
  · obtain ⟨n, rfl⟩ : ∃ n : Nat, i = (n : Int) := ⟨i.toNat, by omega⟩
    rw [getC_nat, List.getElem?_set]
    by_cases q : g.toNat = n
    · rw [if_pos q, if_pos (show g.toNat < (List.replicate (g + 1).toNat (0 : Int)).length by rw [List.length_replicate]; omega), if_pos (by omega)]; rfl
    · rw [if_neg q, if_neg (by omega), List.getElem?_replicate]; split <;> rfl
theorem rel_acc {x : Event} (h : x.kind = 3 ∨ x.kind = 2) : ¬ EvRel x := by unfold EvRel; omega
theorem gv_acc {E : List Event} {x : Event} (h : x.kind = 3 ∨ x.kind = 2) : gv (stK (E ++ [x])) x.g = kacc (stK E) x := by rw [stK_snoc, gv_come, if_neg (rel_acc h)]
theorem LastA.lt {E : List Event} {k a g : Int} {i : Nat} {e : Event} (h : LastA E k a g i e) : i < E.length := (List.getElem?_eq_some_iff.1 h.1).1
theorem LastA.snoc {E : List Event} {k a g : Int} {i : Nat} {e x : Event} (h : LastA E k a g i e) (hx : ¬ AccAt x k a g) : LastA (E ++ [x]) k a g i e := by
  refine ⟨(at_old h.lt).trans h.1, h.2.1, fun j y hj hy => ?_⟩
  by_cases q : j < E.length
  · rw [at_old q] at hy; exact h.2.2 j y hj hy
  · have hl := (List.getElem?_eq_some_iff.1 hy).1
    rw [List.length_append, List.length_singleton] at hl
    obtain rfl : j = E.length := by omega
    rw [at_new] at hy; cases hy; exact hx
theorem LastA.new {E : List Event} {k a g : Int} {x : Event} (hx : AccAt x k a g) : LastA (E ++ [x]) k a g E.length x := by
  refine ⟨at_new, hx, fun j y hj hy => ?_⟩
  have hl := (List.getElem?_eq_some_iff.1 hy).1
  rw [List.length_append, List.length_singleton] at hl
  omega
theorem LastA.uniq {E : List Event} {k a g : Int} {i j : Nat} {e y : Event} (h : LastA E k a g i e) (h2 : LastA E k a g j y) : i = j ∧ e = y := by
  rcases Nat.lt_trichotomy i j with q | q | q
  · exact absurd h2.2.1 (h.2.2 j y q h2.1)
  · subst q; exact ⟨rfl, Option.some.inj (h.1.symm.trans h2.1)⟩
  · exact absurd h.2.1 (h2.2.2 i e q h.1)
/-- What the marks tell. -/
structure MInv (E : List Event) : Prop where
  nn : ∀ a k, (k = 3 ∨ k = 2) → NN0 (halfM (mK E a) k).1
  tl : ∀ a k g, (k = 3 ∨ k = 2) → 0 ≤ g → (getC (halfM (mK E a) k).1 g = 0 ∧ ∀ e ∈ E, ¬ AccAt e k a g) ∨ ∃ i e, LastA E k a g i e ∧ getC (halfM (mK E a) k).1 g = ownK E i g ∧ look (halfM (mK E a) k).2 g = some e.site
theorem half0 (a k : Int) : halfM (mK [] a) k = ([], []) := by unfold halfM; split <;> rfl
theorem MInv.nil : MInv [] := ⟨fun a k _ => by rw [half0]; exact fun g => by rw [getC_nil]; exact Int.le_refl _, fun a k g _ _ => .inl ⟨by rw [half0]; exact getC_nil g, by simp⟩⟩
theorem MInv.snoc {E : List Event} (h : MInv E) (hK : KInv E) {x : Event} (hx : EvOk x) (hb : (stK E).g x.g ≠ none) : MInv (E ++ [x]) := by
  have h0 : 0 ≤ x.g := by unfold EvOk at hx; omega
  have same : ∀ a k g, (k = 3 ∨ k = 2) → 0 ≤ g → ¬ AccAt x k a g → ∀ m : List Int × List (Int × Site), getC m.1 g = getC (halfM (mK E a) k).1 g → look m.2 g = look (halfM (mK E a) k).2 g →
      (getC m.1 g = 0 ∧ ∀ e ∈ E ++ [x], ¬ AccAt e k a g) ∨ ∃ i e, LastA (E ++ [x]) k a g i e ∧ getC m.1 g = ownK (E ++ [x]) i g ∧ look m.2 g = some e.site := by
    intro a k g hk hg hn m h1 h2
    rcases h.tl a k g hk hg with ⟨q1, q2⟩ | ⟨i, e, q1, q2, q3⟩
    · refine .inl ⟨h1.trans q1, fun e he => ?_⟩
      rcases List.mem_append.1 he with he | he
      · exact q2 e he
      · rw [List.mem_singleton.1 he]; exact hn
    · exact .inr ⟨i, e, q1.snoc hn, by rw [h1, q2, ownK_old (Nat.le_of_lt q1.lt)], h2.trans q3⟩
  by_cases hk3 : x.kind = 3 ∨ x.kind = 2
  · have hmk := mK_acc (E := E) hk3
    have hown : getC (gv (stK (E ++ [x])) x.g) x.g = rels E x.g + 1 := by rw [gv_acc hk3]; exact (hK.own hb).1
    have key : ∀ a k, (k = 3 ∨ k = 2) → halfM (mK (E ++ [x]) a) k = if a = x.addr ∧ k = x.kind then (join2 (halfM (mK E a) k).1 (oneL x.g (rels E x.g + 1)), put (halfM (mK E a) k).2 x.g x.site) else halfM (mK E a) k := by
      intro a k hk
      rw [hmk]; unfold setM
      by_cases q : a = x.addr
      · subst q; rw [if_pos rfl, half_mark hk3 hk, hown]
        by_cases r : k = x.kind
        · rw [if_pos r, if_pos ⟨rfl, r⟩]
        · rw [if_neg r, if_neg (fun e => r e.2)]
      · rw [if_neg q, if_neg (fun e => q e.1)]
    have hr := rels_nn E x.g
    refine ⟨fun a k hk g => ?_, fun a k g hk hg => ?_⟩
    · rw [key a k hk]
      split
      · have q := h.nn a k hk
        show 0 ≤ getC (join2 _ _) g
        rw [getC_join2 q]; have := q g; omega
      · exact h.nn a k hk g
    · rw [key a k hk]
      split
      · rename_i hc
        have q := h.nn a k hk
        by_cases hgx : g = x.g
        · subst hgx
          refine .inr ⟨E.length, x, LastA.new ⟨hc.2.symm, hc.1.symm, rfl⟩, ?_, ?_⟩
          · show getC (join2 _ _) x.g = _
            rw [getC_join2 q, getC_oneL h0, if_pos rfl, ownK_new]
            rcases h.tl a k x.g hk hg with ⟨q1, _⟩ | ⟨i, e, _, q2, _⟩
            · rw [q1]; omega
            · rw [q2]; have := ownK_le E i x.g; omega
          · show look (put _ _ _) x.g = _
            rw [look_put, if_pos rfl]
        · refine same a k g hk hg (fun e => hgx e.2.2.symm) _ ?_ ?_
          · show getC (join2 _ _) g = _
            rw [getC_join2 q, getC_oneL h0, if_neg hgx]; have := q g; omega
          · show look (put _ _ _) g = _
            rw [look_put, if_neg (fun e => hgx e.symm)]
      · rename_i hc
        exact same a k g hk hg (fun e => hc ⟨e.2.1.symm, e.1.symm⟩) _ rfl rfl
  · have hmk := mK_no (E := E) hk3
    exact ⟨fun a k hk => by rw [hmk]; exact h.nn a k hk, fun a k g hk hg => by rw [hmk]; exact same a k g hk hg (fun e => hk3 (by rw [e.1]; exact hk)) _ rfl rfl⟩
theorem Came.minv {en : Int} {E : List Event} (h : Came en E) : MInv E := by
  induction h with
  | nil => exact MInv.nil
  | snoc hE hx ih => obtain ⟨a, b, _, _⟩ := comeErr_0 hx; exact ih.snoc hE.inv a b
theorem mem_racesL {l : List Int} {h : List (Int × Site)} {g : Int} {c : List Int} {k : Int} {a : Acc} : a ∈ racesL l h g c k ↔ ∃ i : Nat, i < l.length ∧ raceB l g c (i : Int) = true ∧ (⟨(i : Int), (look h (i : Int)).getD ⟨0, 0⟩, k⟩ : Acc) = a := by
  unfold racesL racesP; simp [List.mem_map, List.mem_filter, and_assoc]
/-- Which accesses of a kind race with an event: the last ones that are not before it. -/
theorem race_last {E : List Event} (h : MInv E) (hK : KInv E) (hE : ∀ e ∈ E, EvOk e) {x : Event} (hx : EvOk x) (hb : (stK E).g x.g ≠ none) (hk3 : x.kind = 3 ∨ x.kind = 2) {k : Int} (hk : k = 3 ∨ k = 2) (a : Acc) :
    a ∈ racesL (halfM (mK E x.addr) k).1 (halfM (mK E x.addr) k).2 x.g (gv (stK (E ++ [x])) x.g) k ↔ ∃ i e, LastA E k x.addr e.g i e ∧ e.g ≠ x.g ∧ ¬ Hb (E ++ [x]) i E.length ∧ a = ⟨e.g, e.site, k⟩ := by
  have h0 : 0 ≤ x.g := by unfold EvOk at hx; omega
  have hnn : NN0 (gv (stK (E ++ [x])) x.g) := by rw [gv_acc hk3]; exact (kacc_told hK hb).2.nn
  have had : ∀ i e, E[i]? = some e → e.g ≠ x.g → (Hb (E ++ [x]) i E.length ↔ ownK E i e.g ≤ getC (gv (stK (E ++ [x])) x.g) e.g) := by
    intro i e hi hg
    rw [had_iff hK hx hb hi hg]; unfold hadE; rw [getC_set (by omega), stK_snoc]
  rw [mem_racesL]
  constructor
  · rintro ⟨n, hn, hr, rfl⟩
    unfold raceB at hr; obtain ⟨r1, r2⟩ := of_decide_eq_true hr
    have r3 := hnn (n : Int)
    rcases h.tl x.addr k (n : Int) hk (by omega) with ⟨q1, _⟩ | ⟨i, e, q1, q2, q3⟩
    · omega
    · have eg : e.g = (n : Int) := q1.2.1.2.2
      refine ⟨i, e, by rw [eg]; exact q1, by rw [eg]; exact r1, fun hh => ?_, by rw [q3, eg]; rfl⟩
      have := (had i e q1.1 (by rw [eg]; exact r1)).1 hh
      rw [eg] at this; omega
  · rintro ⟨i, e, q1, hg, hn, rfl⟩
    have he := hE e (List.mem_of_getElem? q1.1)
    have g0 : 0 ≤ e.g := by unfold EvOk at he; omega
    rcases h.tl x.addr k e.g hk g0 with ⟨_, p2⟩ | ⟨j, y, p1, p2, p3⟩
    · exact absurd q1.2.1 (p2 e (List.mem_of_getElem? q1.1))
    · obtain ⟨rfl, rfl⟩ := q1.uniq p1
      have hlt : getC (gv (stK (E ++ [x])) x.g) e.g < ownK E i e.g := by
        rcases Int.lt_or_le (getC (gv (stK (E ++ [x])) x.g) e.g) (ownK E i e.g) with q | q
        · exact q
        · exact absurd ((had i e q1.1 hg).2 q) hn
      have r3 := hnn e.g
      have hl : e.g < ((halfM (mK E x.addr) k).1.length : Int) := by
        rcases Int.lt_or_le e.g ((halfM (mK E x.addr) k).1.length : Int) with q | q
        · exact q
        · have : getC (halfM (mK E x.addr) k).1 e.g = 0 := by unfold getC; rw [if_neg (by omega), List.getElem?_eq_none (by omega)]; rfl
          omega
      have en : ((e.g.toNat : Nat) : Int) = e.g := by omega
      refine ⟨e.g.toNat, by omega, ?_, by rw [en, p3]; rfl⟩
      rw [en]; unfold raceB; exact decide_eq_true ⟨hg, by rw [p2]; exact hlt⟩
def EvConfP (a b : Event) : Prop := (a.kind = 2 ∨ a.kind = 3) ∧ (b.kind = 2 ∨ b.kind = 3) ∧ a.addr = b.addr ∧ (a.kind = 3 ∨ b.kind = 3)
/-- What an event races with, by those ahead. -/
def wE (E : List Event) (x : Event) : List Acc := if x.kind = 3 ∨ x.kind = 2 then withV (gv (stK (E ++ [x])) x.g) (mK E x.addr) x else []
theorem mem_wE {E : List Event} (h : MInv E) (hK : KInv E) (hE : ∀ e ∈ E, EvOk e) {x : Event} (hx : EvOk x) (hb : (stK E).g x.g ≠ none) (a : Acc) :
    a ∈ wE E x ↔ ∃ i e, LastA E e.kind x.addr e.g i e ∧ EvConfP e x ∧ e.g ≠ x.g ∧ ¬ Hb (E ++ [x]) i E.length ∧ a = ⟨e.g, e.site, e.kind⟩ := by
  unfold wE
  by_cases hk3 : x.kind = 3 ∨ x.kind = 2
  · rw [if_pos hk3]; unfold withV
    have r3 := race_last h hK hE hx hb hk3 (k := 3) (.inl rfl) a
    have r2 := race_last h hK hE hx hb hk3 (k := 2) (.inr rfl) a
    have e3 : halfM (mK E x.addr) 3 = (mK E x.addr).1 := rfl
    have e2 : halfM (mK E x.addr) 2 = (mK E x.addr).2 := rfl
    rw [e3] at r3; rw [e2] at r2
    rw [List.mem_append]
    constructor
    · rintro (q | q)
      · obtain ⟨i, e, q1, q2, q3, q4⟩ := r3.1 q
        have ek := q1.2.1.1
        exact ⟨i, e, by rw [ek]; exact q1, ⟨.inr ek, hk3.symm, q1.2.1.2.1, .inl ek⟩, q2, q3, by rw [ek]; exact q4⟩
      · by_cases k3 : x.kind = 3
        · rw [if_pos k3] at q
          obtain ⟨i, e, q1, q2, q3, q4⟩ := r2.1 q
          have ek := q1.2.1.1
          exact ⟨i, e, by rw [ek]; exact q1, ⟨.inl ek, hk3.symm, q1.2.1.2.1, .inr k3⟩, q2, q3, by rw [ek]; exact q4⟩
        · rw [if_neg k3] at q; cases q
    · rintro ⟨i, e, q1, ⟨c1, c2, c3, c4⟩, q2, q3, q4⟩
      rcases c1 with ek | ek
      · rw [ek] at q1 q4
        have k3 : x.kind = 3 := by omega
        rw [if_pos k3]; exact .inr (r2.2 ⟨i, e, q1, q2, q3, q4⟩)
      · rw [ek] at q1 q4; exact .inl (r3.2 ⟨i, e, q1, q2, q3, q4⟩)
  · rw [if_neg hk3]
    constructor
    · intro q; cases q
    · rintro ⟨i, e, _, ⟨_, c2, _⟩, _⟩; exact absurd c2 (by omega)
/-- THE LAW: of events that came, what a hit lists. -/
theorem law_with {en : Int} {E : List Event} (h : Came en E) {j : Nat} {x : Event} (hj : E[j]? = some x) (a : Acc) :
    a ∈ wE (E.take j) x ↔ ∃ i e, i < j ∧ LastA (E.take j) e.kind x.addr e.g i e ∧ E[i]? = some e ∧ EvConfP e x ∧ ¬ Hb E i j ∧ a = ⟨e.g, e.site, e.kind⟩ := by
  have hjl := (List.getElem?_eq_some_iff.1 hj).1
  have hlen : (E.take j).length = j := by rw [List.length_take]; omega
  obtain ⟨q1, q2⟩ := h.get hj
  obtain ⟨r1, r2, _, _⟩ := comeErr_0 q2
  rw [mem_wE q1.minv q1.inv q1.ok r1 r2]
  have hat : ∀ i, i < j → (E.take j)[i]? = E[i]? := fun i hi => by rw [List.getElem?_take, if_pos hi]
  constructor
  · rintro ⟨i, e, p1, p2, p3, p4, p5⟩
    have hi : i < j := by have := p1.lt; omega
    rw [hlen] at p4
    exact ⟨i, e, hi, p1, (hat i hi).symm.trans p1.1, p2, fun hh => p4 ((Hb.take_iff hj).1 hh), p5⟩
  · rintro ⟨i, e, hi, p1, p0, p2, p4, p5⟩
    refine ⟨i, e, p1, p2, fun hg => p4 (.one p0 hj hi (.inl hg)), ?_, p5⟩
    rw [hlen]; exact fun hh => p4 ((Hb.take_iff hj).2 hh)
/-- There is one just if an earlier access races. -/
theorem law_some {en : Int} {E : List Event} (h : Came en E) {j : Nat} {x : Event} (hj : E[j]? = some x) : wE (E.take j) x ≠ [] ↔ ∃ i e, i < j ∧ E[i]? = some e ∧ EvConfP e x ∧ ¬ Hb E i j := by
  have hjl := (List.getElem?_eq_some_iff.1 hj).1
  constructor
  · intro hn
    obtain ⟨a, ha⟩ := List.exists_mem_of_ne_nil _ hn
    obtain ⟨i, e, hi, _, p0, p2, p4, _⟩ := (law_with h hj a).1 ha
    exact ⟨i, e, hi, p0, p2, p4⟩
  · rintro ⟨i, e, hi, p0, p2, p4⟩
    obtain ⟨q1, _⟩ := h.get hj
    have hm : (E.take j)[i]? = some e := by rw [List.getElem?_take, if_pos hi]; exact p0
    have he := q1.ok e (List.mem_of_getElem? hm)
    have g0 : 0 ≤ e.g := by unfold EvOk at he; omega
    rcases q1.minv.tl x.addr e.kind e.g (by have := p2.1; omega) g0 with ⟨_, r⟩ | ⟨q, y, r1, _, _⟩
    · exact absurd ⟨rfl, p2.2.2.1, rfl⟩ (r e (List.mem_of_getElem? hm))
    · have hq : q < j := by have := r1.lt; rw [List.length_take] at this; omega
      have hy : E[q]? = some y := by have := r1.1; rwa [List.getElem?_take, if_pos hq] at this
      have hiq : i ≤ q := by
        rcases Nat.lt_or_ge q i with c | c
        · exact absurd ⟨rfl, p2.2.2.1, rfl⟩ (r1.2.2 i e c hm)
        · exact c
      have ek := r1.2.1.1
      have ea := r1.2.1.2.1
      have eg := r1.2.1.2.2
      have hn : ¬ Hb E q j := fun hh => by
        rcases Nat.lt_or_ge i q with c | c
        · exact p4 (.trans (.one p0 hy c (.inl eg.symm)) hh)
        · obtain rfl : i = q := by omega
          exact p4 hh
      have hm2 := (law_with h hj ⟨y.g, y.site, y.kind⟩).2 ⟨q, y, hq, by rw [ek, eg]; exact r1, hy, ⟨by rw [ek]; exact p2.1, p2.2.1, ea, by rw [ek]; exact p2.2.2.2⟩, hn, rfl⟩
      exact fun e0 => by rw [e0] at hm2; cases hm2
end Go.Proofs.YtoakhhilmnfpkaaGreatDoor.L
