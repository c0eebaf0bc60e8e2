/- Layer 23, the plain law: how a pool and the document's stand. -/
import Derived.Test.YtobbocpacacnhaaRel23
namespace Go.Proofs.Ytobbocpacacnhaa.L
open Go.RowKit Go.MapKept Go.Maps

def getH (P : PV) (h : Int) : Bool × List One := if 1 ≤ h then (P[(h - 1).toNat]?).getD (false, []) else (false, [])
theorem there_getH (P : PV) (h : Int) : thereP P h = (getH P h).1 := by
  unfold thereP getH
  by_cases h1 : 1 ≤ h
  · rw [if_pos h1, decide_eq_true h1]
    by_cases h2 : h ≤ P.length
    · rw [decide_eq_true h2]; cases q : P[(h - 1).toNat]? with
      | none => rfl
      | some v => rfl
    · rw [decide_eq_false h2, List.getElem?_eq_none (by omega)]; rfl
  · rw [if_neg h1, decide_eq_false h1]; rfl
theorem all_getH (P : PV) (h : Int) : allP P h = if (getH P h).1 = true then (getH P h).2 else [] := by
  unfold allP
  rw [there_getH]
  split
  · rename_i e
    unfold getH at e ⊢
    by_cases h1 : 1 ≤ h
    · rw [if_pos h1] at e ⊢
      cases q : P[(h - 1).toNat]? with
      | none => rfl
      | some v => rfl
    · rw [if_neg h1] at e; cases e
  · rfl
theorem with_len (P : PV) (h : Int) (v : Bool × List One) : (withP P h v).length = max P.length h.toNat := by
  unfold withP; simp; omega
theorem getH_with {P : PV} {h : Int} (h1 : 1 ≤ h) (v : Bool × List One) (j : Int) : getH (withP P h v) j = if j = h then v else getH P j := by
  unfold getH
  by_cases e : j = h
  · subst e
    rw [if_pos rfl, if_pos h1]
    unfold withP
    rw [List.getElem?_set_self (by simp; omega)]; rfl
  · rw [if_neg e]
    by_cases hj : 1 ≤ j
    · rw [if_pos hj, if_pos hj]
      unfold withP
      rw [List.getElem?_set_ne (by omega)]
      by_cases q : (j - 1).toNat < P.length
      · rw [List.getElem?_append_left q]
      · rw [List.getElem?_append_right (by omega), List.getElem?_eq_none (l := P) (by omega), List.getElem?_replicate]
        split <;> rfl
    · rw [if_neg hj, if_neg hj]
theorem there_with {P : PV} {h : Int} (h1 : 1 ≤ h) (v : Bool × List One) (j : Int) : thereP (withP P h v) j = if j = h then v.1 else thereP P j := by
  rw [there_getH, getH_with h1, there_getH]; split <;> rfl
theorem all_with {P : PV} {h : Int} (h1 : 1 ≤ h) (v : Bool × List One) (j : Int) : allP (withP P h v) j = if j = h then (if v.1 = true then v.2 else []) else allP P j := by
  rw [all_getH, getH_with h1, all_getH]; split <;> rfl
theorem with_mem {P : PV} {h : Int} {v e : Bool × List One} (he : e ∈ withP P h v) : e = v ∨ e ∈ P ∨ e = (false, []) := by
  rcases List.mem_or_eq_of_mem_set he with he | he
  · rcases List.mem_append.1 he with he | he
    · exact .inr (.inl he)
    · exact .inr (.inr (List.eq_of_mem_replicate he))
  · exact .inl he
structure Rel23 (k : Nat) (P : PV) (V : VT23) : Prop where
  ok : PoolOk k V
  plen : P.length ≤ k
  th : ∀ h, thereP P h = (look (vals V) h).isSome
  row : ∀ h m, look (vals V) h = some m → RowOk m (allP P h)
  len : ∀ e ∈ P, e.2.length ≤ k
variable {k : Nat} {P P' : PV} {V V' : VT23} {h h' id er bad : Int} {m : Mark}
theorem Rel23.start : Rel23 0 [] [] := ⟨PoolOk.start, by simp, fun h => by rw [there_getH]; unfold getH; split <;> rfl, fun h m e => by simp [vals, look] at e, by simp⟩
theorem Rel23.mono (r : Rel23 k P V) : Rel23 (k + 1) P V := ⟨r.ok.mono, by have := r.plen; omega, r.th, r.row, fun e he => by have := r.len e he; omega⟩
theorem Rel23.make (r : Rel23 k P V) (hM : MakeR V h V') (hP : MakePR P h' P') : h = h' ∧ Rel23 (k + 1) P' V' := by
  have hok := (r.ok.make hM).1
  obtain ⟨h1, -, h3, h4, b, rfl⟩ := hM
  obtain ⟨p1, p2, p3, p4, rfl⟩ := hP
  have e : h = h' := by
    rcases Int.lt_trichotomy h h' with q | q | q
    · have := p3 h h1 q; rw [r.th, h3] at this; cases this
    · exact q
    · have := h4 h' p1 q; rw [← r.th, p4] at this; cases this
  subst e
  refine ⟨rfl, hok, ?_, fun j => ?_, fun j m e => ?_, fun e he => ?_⟩
  · rw [with_len]; have := r.plen; omega
  · rw [there_with h1, vals_snoc, ← put_end h3, look_put]
    by_cases q : j = h
    · subst q; rw [if_pos rfl, if_pos rfl]; rfl
    · rw [if_neg q, if_neg (by omega), r.th]
  · rw [vals_snoc, ← put_end h3, look_put] at e
    rw [all_with h1]
    by_cases q : j = h
    · subst q; rw [if_pos rfl] at e ⊢; cases e; exact RowOk.nil
    · rw [if_neg (by omega)] at e; rw [if_neg q]; exact r.row j m e
  · rcases with_mem he with rfl | he | rfl
    · simp
    · have := r.len e he; omega
    · simp
theorem Rel23.free (r : Rel23 k P V) (hM : FreeR V h V' er) (hP : FreePR P h P' bad) : er = bad ∧ Rel23 (k + 1) P' V' := by
  have hok := (r.ok.free hM).1
  unfold FreeR at hM; unfold FreePR at hP
  by_cases q : (look (vals V) h).isSome = true
  · rw [if_pos q] at hM; rw [if_neg (by rw [r.th, q]; simp)] at hP
    obtain ⟨rfl, rfl⟩ := hM
    obtain ⟨rfl, rfl⟩ := hP
    have h1 := (there_le (P := P) (h := h) (by rw [r.th]; exact q)).1
    have h2 := (there_le (P := P) (h := h) (by rw [r.th]; exact q)).2
    refine ⟨rfl, hok, ?_, fun j => ?_, fun j m e => ?_, fun e he => ?_⟩
    · rw [with_len]; have := r.plen; omega
    · rw [there_with h1, vals_delV, look_del r.ok.nd]
      by_cases q : j = h
      · subst q; rw [if_pos rfl, if_pos rfl]; rfl
      · rw [if_neg q, if_neg (by omega), r.th]
    · rw [vals_delV, look_del r.ok.nd] at e
      rw [all_with h1]
      by_cases q : j = h
      · subst q; rw [if_pos rfl] at e; cases e
      · rw [if_neg (by omega)] at e; rw [if_neg q]; exact r.row j m e
    · rcases with_mem he with rfl | he | rfl
      · simp
      · have := r.len e he; omega
      · simp
  · rw [if_neg q] at hM; rw [if_pos (by rw [r.th]; simpa using q)] at hP
    obtain ⟨rfl, rfl⟩ := hM
    obtain ⟨rfl, rfl⟩ := hP
    exact ⟨rfl, r.mono⟩
theorem allP_le (r : Rel23 k P V) (h : Int) : (allP P h).length ≤ k := by
  rw [all_getH]
  split
  · unfold getH
    split
    · cases q : P[(h - 1).toNat]? with
      | none => simp
      | some e => exact r.len e (List.mem_of_getElem? q)
    · simp
  · simp
theorem Rel23.mark (r : Rel23 k P V) (hM : MarkR V h id m V' er) (hP : MarkPR P h id m P' bad) : er = bad ∧ Rel23 (k + 1) P' V' := by
  have hok := (r.ok.mark hM).1
  unfold MarkR at hM; unfold MarkPR at hP
  by_cases hf : fineM id m = false
  · rw [if_pos hf] at hM hP
    obtain ⟨rfl, rfl⟩ := hM
    obtain ⟨rfl, rfl⟩ := hP
    exact ⟨rfl, r.mono⟩
  rw [if_neg hf] at hM hP
  cases q : look (vals V) h with
  | none =>
    rw [q] at hM; rw [if_pos (by rw [r.th, q]; rfl)] at hP
    obtain ⟨rfl, rfl⟩ := hM
    obtain ⟨rfl, rfl⟩ := hP
    exact ⟨rfl, r.mono⟩
  | some c =>
    rw [q] at hM; rw [if_neg (by rw [r.th, q]; simp)] at hP
    obtain ⟨i, b, hi, rfl, rfl⟩ := hM
    obtain ⟨rfl, rfl⟩ := hP
    have h1 := (there_le (P := P) (h := h) (by rw [r.th, q]; rfl)).1
    have h2 := (there_le (P := P) (h := h) (by rw [r.th, q]; rfl)).2
    have hr := r.row h c q
    refine ⟨rfl, hok, ?_, fun j => ?_, fun j m e => ?_, fun e he => ?_⟩
    · rw [with_len]; have := r.plen; omega
    · rw [there_with h1, vals_set r.ok.nd hi, look_put]
      by_cases q : j = h
      · subst q; rw [if_pos rfl, if_pos rfl]; rfl
      · rw [if_neg q, if_neg (by omega), r.th]
    · rw [vals_set r.ok.nd hi, look_put] at e
      rw [all_with h1]
      by_cases q : j = h
      · subst q; rw [if_pos rfl] at e ⊢; cases e; exact hr.puts _ _
      · rw [if_neg (by omega)] at e; rw [if_neg q]; exact r.row j m e
    · rcases with_mem he with rfl | he | rfl
      · have h3 := insP_len hr.sorted id m; have h4 := allP_le r h; simp only; omega
      · have := r.len e he; omega
      · simp
theorem Rel23.copy (r : Rel23 k P V) (hp : (vals V').Perm (vals V)) : Rel23 k P V' := by
  have hl := look_perm hp r.ok.nd
  have hfrom : ∀ e ∈ V', ∃ e' ∈ V, e'.1 = e.1 ∧ e'.2.2 = e.2.2 := fun e he => by
    have h1 : (e.1, e.2.2) ∈ vals V := hp.mem_iff.1 (List.mem_map.2 ⟨e, he, rfl⟩)
    obtain ⟨e', he', h2⟩ := List.mem_map.1 h1
    exact ⟨e', he', (Prod.mk.inj h2).1, (Prod.mk.inj h2).2⟩
  refine ⟨⟨((hp.map _).nodup_iff).2 r.ok.nd, ?_, fun e he => ?_, fun e he => ?_⟩, r.plen, fun h => by rw [r.th, hl], fun h m e => r.row h m (by rw [← hl]; exact e), r.len⟩
  · have := hp.length_eq; rw [vals_len, vals_len] at this; have := r.ok.len; omega
  · obtain ⟨e', he', h1, h2⟩ := hfrom e he
    rw [← h1]; exact r.ok.hn e' he'
  · obtain ⟨e', he', h1, h2⟩ := hfrom e he
    rw [← h2]; exact r.ok.mks e' he'
theorem Rel23.get (r : Rel23 k P V) (h id : Int) : getP (vals V) h id = getP2 P h id := by
  unfold getP getP2
  cases q : look (vals V) h with
  | none => rw [all_no (by rw [r.th, q]; rfl)]; rfl
  | some c => exact (r.row h c q).same id
theorem Rel23.bey (r : Rel23 k P V) {c : List Int} {mk : Mark} {is : Bool} (hB : BeyR (look (vals V) h) c id mk is) : id = ((beyP2 P h c).map (·.id)).getD 0 ∧ mk = ((beyP2 P h c).map (·.m)).getD (⟨0, ⟨0, 0⟩⟩ : Mark) ∧ is = (beyP2 P h c).isSome := by
  obtain ⟨ks, hp, hs, hf⟩ := hB
  unfold beyP2
  cases q : look (vals V) h with
  | none =>
    rw [q] at hp hf
    obtain rfl : ks = [] := hp.eq_nil
    rw [all_no (by rw [r.th, q]; rfl)]
    exact hf
  | some m =>
    rw [q] at hp hf
    have hr := r.row h m q
    have hks := hr.ks_eq hp hs
    subst hks
    simp only [Option.getD_some] at hf
    rw [List.find?_map] at hf
    have hc : (allP P h).find? ((fun i => decide ((markAt m i).clock > getC c i)) ∘ fun x : One => x.id) = (allP P h).find? fun x => decide (x.m.clock > getC c x.id) := by
      have : ∀ l : List One, (∀ x ∈ l, markAt m x.id = x.m) → l.find? ((fun i => decide ((markAt m i).clock > getC c i)) ∘ fun x : One => x.id) = l.find? fun x => decide (x.m.clock > getC c x.id) := by
        intro l
        induction l with
        | nil => intro _; rfl
        | cons x l ih =>
          intro hx
          rw [List.find?_cons, List.find?_cons, ih (fun y hy => hx y (.tail _ hy))]
          simp only [Function.comp, hx x (.head _)]
      exact this _ fun x hx => hr.mark hx
    rw [hc] at hf
    cases q2 : (allP P h).find? fun x => decide (x.m.clock > getC c x.id) with
    | none => rw [q2] at hf; exact hf
    | some x =>
      rw [q2] at hf
      obtain ⟨h1, h2, h3⟩ := hf
      exact ⟨h1, by rw [h2, hr.mark (List.mem_of_find?_eq_some q2)]; rfl, h3⟩
theorem liveN_sorted (P : PV) (n : Nat) : (liveN P n).Pairwise fun x y => x < y := by
  unfold liveN
  refine List.Pairwise.filter _ (List.pairwise_map.2 ?_)
  exact List.pairwise_lt_range.imp (fun {a b} h => by omega)
theorem Rel23.live (r : Rel23 k P V) {ks : List Int} (hp : ks.Perm (keys (vals V))) (hs : ks.Pairwise fun x y => x ≤ y) : ks = liveN P P.length := by
  refine keys_eq hp hs r.ok.nd (liveN_sorted P _) fun i => ?_
  rw [← r.th]
  unfold liveN
  rw [List.mem_filter, List.mem_map]
  constructor
  · intro e
    have h1 := there_le e
    exact ⟨⟨(i - 1).toNat, List.mem_range.2 (by omega), by omega⟩, e⟩
  · exact fun h => h.2
theorem Rel23.each (r : Rel23 k P V) {xs : List (Int × Mark)} (hE : EachR (look (vals V) h) xs) : xs = (allP P h).map fun x => (x.id, x.m) := by
  obtain ⟨ks, hp, hs, rfl⟩ := hE
  cases q : look (vals V) h with
  | none =>
    rw [q] at hp
    obtain rfl : ks = [] := hp.eq_nil
    rw [all_no (by rw [r.th, q]; rfl)]; rfl
  | some m =>
    rw [q] at hp
    have hr := r.row h m q
    rw [hr.ks_eq hp hs, List.map_map]
    exact List.map_congr_left fun x hx => by simp only [Function.comp, Option.getD_some]; rw [hr.mark hx]
theorem Rel23.same {k' : Nat} {Q : PV} {W : VT23} (r : Rel23 k P V) (q : Rel23 k' Q W) : vEq (vals V) (vals W) = sameB P Q := by
  have hkey : ∀ {k k' : Nat} {P Q : PV} {V W : VT23}, Rel23 k P V → Rel23 k' Q W → (sameB P Q = true → ∀ h, thereP P h = thereP Q h ∧ allP P h = allP Q h) := fun {k k' P Q V W} r q e h => by
    by_cases hh : 1 ≤ h ∧ h ≤ max P.length Q.length
    · have h1 := List.all_eq_true.1 e (h - 1).toNat (List.mem_range.2 (by omega))
      unfold sameQ at h1
      rw [show (((h - 1).toNat : Nat) : Int) + 1 = h from by omega] at h1
      simp only [Bool.and_eq_true, beq_iff_eq, decide_eq_true_eq] at h1
      exact h1
    · have h1 : ∀ {R : PV}, R.length ≤ max P.length Q.length → thereP R h = false := fun {R} hR => by
        cases e : thereP R h with
        | false => rfl
        | true => have := there_le e; omega
      have ha := h1 (R := P) (by omega)
      have hb := h1 (R := Q) (by omega)
      rw [ha, hb, all_no ha, all_no hb]; exact ⟨rfl, rfl⟩
  rw [Bool.eq_iff_iff]
  constructor
  · intro e
    unfold vEq at e
    rw [Bool.and_eq_true, decide_eq_true_eq, List.all_eq_true] at e
    obtain ⟨hl, ha⟩ := e
    have h1 : ∀ h c, look (vals V) h = some c → ∃ d, look (vals W) h = some d ∧ mEqM c d := fun h c hc => by
      have := ha _ (look_mem hc)
      unfold vEq1 at this
      simp only at this
      cases e : look (vals W) h with
      | none => rw [e] at this; cases this
      | some d => rw [e] at this; exact ⟨d, rfl, of_decide_eq_true this⟩
    have hsub : keys (vals V) ⊆ keys (vals W) := fun a h => by
      obtain ⟨c, hc⟩ := Option.isSome_iff_exists.1 (mem_keys.1 h)
      obtain ⟨d, hd, -⟩ := h1 a c hc
      exact mem_keys.2 (by rw [hd]; rfl)
    have hback : ∀ a, a ∈ keys (vals W) → a ∈ keys (vals V) := fun a h => by
      apply Decidable.byContradiction
      intro hn
      have := (List.nodup_cons.2 ⟨hn, r.ok.nd⟩).length_le_of_subset (l₂ := keys (vals W)) (fun b hb => (List.mem_cons.1 hb).elim (fun e => e ▸ h) (fun e => hsub e))
      simp [keys] at this; omega
    refine sameB_yes fun i _ => ?_
    unfold sameQ
    generalize ((i : Int) + 1) = h
    cases e : look (vals V) h with
    | none =>
      have e2 : look (vals W) h = none := by
        cases e2 : look (vals W) h with
        | none => rfl
        | some d => have := mem_keys.1 (hback h (mem_keys.2 (by rw [e2]; rfl))); rw [e] at this; cases this
      have ha : thereP P h = false := by rw [r.th, e]; rfl
      have hb : thereP Q h = false := by rw [q.th, e2]; rfl
      rw [ha, hb, all_no ha, all_no hb]; simp
    | some c =>
      obtain ⟨d, hd, hm⟩ := h1 h c e
      rw [r.th, q.th, e, hd, ((r.row h c e).eq (q.row h d hd)).1 hm]; simp
  · intro e
    have h1 := hkey r q e
    have h2 : ∀ h c, look (vals V) h = some c → ∃ d, look (vals W) h = some d ∧ mEqM c d := fun h c hc => by
      have h3 := (h1 h).1
      rw [r.th, q.th, hc] at h3
      obtain ⟨d, hd⟩ := Option.isSome_iff_exists.1 h3.symm
      exact ⟨d, hd, ((r.row h c hc).eq (q.row h d hd)).2 (h1 h).2⟩
    have hlen : ∀ {k k' : Nat} {P Q : PV} {V W : VT23}, Rel23 k P V → Rel23 k' Q W → (∀ h, thereP P h = thereP Q h) → (vals V).length ≤ (vals W).length := fun {k k' P Q V W} r q e => by
      have := r.ok.nd.length_le_of_subset (l₂ := keys (vals W)) (fun a h => mem_keys.2 (by rw [← q.th, ← e, r.th]; exact mem_keys.1 h))
      simpa [keys] using this
    unfold vEq
    rw [Bool.and_eq_true, decide_eq_true_eq, List.all_eq_true]
    refine ⟨by have a := hlen r q (fun h => (h1 h).1); have b := hlen q r (fun h => (h1 h).1.symm); omega, fun x hx => ?_⟩
    obtain ⟨d, hd, hm⟩ := h2 x.1 x.2 (look_of_mem r.ok.nd hx)
    unfold vEq1
    rw [hd]; exact decide_eq_true hm
end Go.Proofs.Ytobbocpacacnhaa.L
