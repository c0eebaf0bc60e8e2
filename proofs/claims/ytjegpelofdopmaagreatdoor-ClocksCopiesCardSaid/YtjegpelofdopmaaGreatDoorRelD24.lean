/- The plain law of the document's clocks: what they know as lists is what goroutines and things know. Nothing of the program is walked here. -/
import Derived.Test.YtjegpelofdopmaaGreatDoorT19
import Derived.Test.YtjegpelofdopmaaGreatDoorRel24
namespace Go.Proofs.YtjegpelofdopmaaGreatDoor.L
open Go.RowKit

theorem trim_ext {a b : List Int} (h : ∀ i : Nat, getC a (i : Int) = getC b (i : Int)) : trimC a = trimC b := by
  have key : ∀ (n : Nat) (a b : List Int), a.length + b.length ≤ n → (∀ i : Nat, getC a (i : Int) = getC b (i : Int)) → trimC a = trimC b := by
    intro n
    induction n with
    | zero =>
      intro a b hn _
      have e1 := List.eq_nil_of_length_eq_zero (l := a) (by omega); have e2 := List.eq_nil_of_length_eq_zero (l := b) (by omega)
      subst e1; subst e2; rfl
    | succ n ih =>
      intro a b hn h
      have drop : ∀ (a b : List Int), a.length + b.length ≤ n + 1 → (∀ i : Nat, getC a (i : Int) = getC b (i : Int)) → b.length < a.length → trimC a = trimC b := by
        intro a b hn h hl
        have hne : a ≠ [] := by intro e; subst e; simp at hl
        obtain ⟨a', y, rfl⟩ : ∃ a' y, a = a' ++ [y] := ⟨a.dropLast, a.getLast hne, (List.dropLast_concat_getLast hne).symm⟩
        have hy : y = 0 := by
          have := h a'.length
          rw [getC_nat, getC_nat, List.getElem?_append_right (Nat.le_refl _), Nat.sub_self, List.getElem?_eq_none (l := b) (by simp at hl; omega)] at this
          simpa using this
        subst hy
        rw [trim_snoc0]
        refine ih _ _ (by simp at hn; omega) fun i => ?_
        rw [← h i, getC_nat, getC_nat]
        by_cases hi : i < a'.length
        · rw [List.getElem?_append_left hi]
        · rw [List.getElem?_eq_none (by omega), List.getElem?_append_right (by omega)]
          by_cases e : i = a'.length
          · subst e; simp
          · rw [List.getElem?_eq_none (by simp; omega)]
      by_cases h1 : b.length < a.length
      · exact drop a b hn h h1
      · by_cases h2 : a.length < b.length
        · exact (drop b a (by omega) (fun i => (h i).symm) h2).symm
        · congr 1
          refine List.ext_getElem (by omega) fun i hi hj => ?_
          have := h i
          rwa [getC_nat, getC_nat, List.getElem?_eq_getElem hi, List.getElem?_eq_getElem hj] at this
  exact key _ a b (Nat.le_refl _) h
theorem join_nil_tr {c : List Int} (hn : NN0 c) (ht : trimC c = c) : trimC (joinC [] c) = c := by
  rw [← ht]; rw [ht]; conv => rhs; rw [← ht]
  exact trim_ext fun i => by rw [getC_join [] c i (fun i => by rw [getC_nil]; exact Int.le_refl _), getC_nil]; have := hn (i : Int); omega
theorem join_two {a b c : List Int} (ha : NN0 a) : trimC (joinC (joinC (joinC [] a) b) c) = join2 (join2 a b) c := by
  have h1 : ∀ i : Nat, getC (joinC [] a) (i : Int) = getC a (i : Int) := fun i => by
    rw [getC_join [] a i (fun i => by rw [getC_nil]; exact Int.le_refl _), getC_nil]; have := ha (i : Int); omega
  have h2 : ∀ i : Nat, getC (joinC (joinC [] a) b) (i : Int) = max (getC a (i : Int)) (getC b (i : Int)) := fun i => by
    rw [getC_join _ _ _ (fun i => by rw [h1]; exact ha _), h1]
  have hj : NN0 (join2 a b) := fun g => by rw [getC_join2 ha]; have := ha g; omega
  have : trimC (join2 (join2 a b) c) = join2 (join2 a b) c := by unfold join2; exact trim_trim _
  rw [← this]
  exact trim_ext fun i => by
    rw [getC_join2 hj, getC_join2 ha, getC_join _ _ _ (fun i => by rw [h2]; have := ha (i : Int); omega), h2]
/-! ### what lists tell -/
def lookO : List One4 → Int → Option (List Int)
  | [], _ => none
  | x :: l, g => if x.w = g then some x.cl else lookO l g
theorem lookO_app (A B : List One4) (i : Int) : lookO (A ++ B) i = (lookO A i).or (lookO B i) := by
  induction A with
  | nil => rfl
  | cons x A ih => simp only [List.cons_append, lookO]; split
                   · rfl
                   · exact ih
theorem lookO_filter (p : Int → Bool) (A : List One4) (i : Int) : lookO (A.filter (fun x => p x.w)) i = if p i then lookO A i else none := by
  induction A with
  | nil => simp [lookO]
  | cons x A ih =>
    rw [List.filter_cons]
    by_cases h : x.w = i
    · subst h
      by_cases q : p x.w
      · simp [q, lookO]
      · rw [if_neg q, ih]; simp [q]
    · by_cases q : p x.w
      · simp only [q, if_true, lookO, if_neg h]; exact ih
      · rw [if_neg q, ih]; simp only [lookO, if_neg h]
theorem look_with {A : List One4} {g : Int} {u : One4} (hu : u.w = g) (i : Int) : lookO (withL A g u) i = if i = g then some u.cl else lookO A i := by
  unfold withL
  rw [lookO_app, lookO_filter (fun w => decide (w < g))]
  simp only [lookO, hu]
  rw [lookO_filter (fun w => decide (g < w))]
  by_cases h : i = g
  · subst h; simp
  · by_cases q : i < g
    · rw [if_neg (fun e : g = i => h e.symm), if_neg h]; simp [q, show ¬ g < i from by omega]
    · rw [if_neg (fun e : g = i => h e.symm), if_neg h]; simp [q, show g < i from by omega]
theorem with_srt {A : List One4} {g : Int} {u : One4} (hu : u.w = g) (h : A.Pairwise (fun a b => a.w < b.w)) : (withL A g u).Pairwise (fun a b => a.w < b.w) := by
  unfold withL
  rw [List.pairwise_append, List.pairwise_cons]
  refine ⟨h.sublist List.filter_sublist, ⟨fun x hx => ?_, h.sublist List.filter_sublist⟩, fun a ha b hb => ?_⟩
  · rw [List.mem_filter] at hx; have := of_decide_eq_true hx.2; omega
  · rw [List.mem_filter] at ha; have h1 := of_decide_eq_true ha.2
    rcases List.mem_cons.1 hb with rfl | hb
    · omega
    · rw [List.mem_filter] at hb; have := of_decide_eq_true hb.2; omega
theorem with_mem {A : List One4} {g : Int} {u y : One4} (h : y ∈ withL A g u) : y = u ∨ y ∈ A := by
  unfold withL at h
  rcases List.mem_append.1 h with h | h
  · exact .inr (List.mem_filter.1 h).1
  · rcases List.mem_cons.1 h with h | h
    · exact .inl h
    · exact .inr (List.mem_filter.1 h).1
theorem th_rel {Q : List Thg4} {a o : Int} {u : Thg4} (h1 : u.kq = a) (h2 : u.oq = o) (k j : Int) : thK (relL Q a o u) k j = if k = a ∧ j = o then u.cl else thK Q k j := by
  unfold relL
  have key : ∀ Q : List Thg4, ¬ (k = a ∧ j = o) → thK (Q.filter (fun x => decide (¬ (x.kq = a ∧ x.oq = o)))) k j = thK Q k j := by
    intro Q hn
    induction Q with
    | nil => rfl
    | cons y Q ih =>
      rw [List.filter_cons]
      by_cases q : y.kq = a ∧ y.oq = o
      · rw [if_neg (by simp [q]), ih]
        conv => rhs; unfold thK
        rw [if_neg (by rw [q.1, q.2]; rintro ⟨rfl, rfl⟩; exact hn ⟨rfl, rfl⟩)]
      · rw [if_pos (by rw [decide_eq_true_eq]; exact q)]; unfold thK; rw [ih]
  conv => lhs; unfold thK
  rw [h1, h2]
  by_cases h : k = a ∧ j = o
  · obtain ⟨rfl, rfl⟩ := h; rw [if_pos ⟨rfl, rfl⟩, if_pos ⟨rfl, rfl⟩]
  · rw [if_neg (fun e => h ⟨e.1.symm, e.2.symm⟩), if_neg h, key Q h]
theorem rel_mem {Q : List Thg4} {a o : Int} {u y : Thg4} (h : y ∈ relL Q a o u) : y = u ∨ y ∈ Q := by
  unfold relL at h
  rcases List.mem_cons.1 h with h | h
  · exact .inl h
  · exact .inr (List.mem_filter.1 h).1
theorem rel_len (Q : List Thg4) (a o : Int) (u : Thg4) : (relL Q a o u).length ≤ Q.length + 1 := by
  unfold relL; rw [List.length_cons]; have := List.length_filter_le (fun x : Thg4 => decide (¬ (x.kq = a ∧ x.oq = o))) Q; omega
theorem look_at4 (A : List One4) (i : Int) : lookO A i = if 0 ≤ atK A i then some (ofK A i) else none := by
  induction A with
  | nil => simp [lookO, atK]
  | cons x A ih =>
    unfold lookO ofK atK
    by_cases h : x.w = i
    · simp [h]
    · simp only [if_neg h]
      by_cases q : atK A i < 0
      · rw [if_pos q, ih, if_neg (by omega)]; rfl
      · rw [if_neg q, ih, if_pos (by omega), if_pos (by omega)]
        rw [if_pos (by omega), show (atK A i + 1).toNat = (atK A i).toNat + 1 from by omega, List.getElem?_cons_succ]
        unfold ofK; rw [if_pos (by omega)]
/-- Lists tell what goroutines and things know; of at most so many events. -/
structure DOk (en : Int) (N : Nat) (s : KSt) (L : List One4) (Q : List Thg4) : Prop where
  e1 : 1 ≤ en
  e2 : en ≤ 281474976710655
  g : ∀ i, lookO L i = s.g i
  t : ∀ k o, thK Q k o = s.t k o
  srt : L.Pairwise (fun a b => a.w < b.w)
  bL : ∀ x ∈ L, Bd ((N : Int) + 1) x.cl ∧ trimC x.cl = x.cl
  bQ : ∀ x ∈ Q, Bd ((N : Int) + 1) x.cl ∧ trimC x.cl = x.cl
  rng : ∀ i, s.g i ≠ none → 0 ≤ i ∧ i ≤ 65535
  nL : L.length ≤ 3 * N + 1
  nQ : Q.length ≤ N
theorem DOk.at {en N s L Q} (h : DOk en N s L Q) (i : Int) : atK L i < 0 ↔ s.g i = none := by
  rw [← h.g i, look_at4]; split <;> simp <;> omega
theorem DOk.at' {en N s L Q} (h : DOk en N s L Q) (i : Int) : 0 ≤ atK L i ↔ s.g i ≠ none := by
  have := h.at i; constructor
  · intro q e; have := this.2 e; omega
  · intro q; rcases Int.lt_or_le (atK L i) 0 with r | r
    · exact absurd (this.1 r) q
    · exact r
theorem look_mem4 {A : List One4} {i : Int} {c : List Int} (h : lookO A i = some c) : ∃ x ∈ A, x.cl = c := by
  induction A with
  | nil => simp [lookO] at h
  | cons x A ih =>
    unfold lookO at h; split at h
    · exact ⟨x, .head _, by simpa using h⟩
    · obtain ⟨y, hy, e⟩ := ih h; exact ⟨y, .tail _ hy, e⟩
theorem th_mem (Q : List Thg4) (k o : Int) : thK Q k o = [] ∨ ∃ x ∈ Q, x.cl = thK Q k o := by
  induction Q with
  | nil => exact .inl rfl
  | cons y Q ih =>
    unfold thK; split
    · exact .inr ⟨y, .head _, rfl⟩
    · rcases ih with h | ⟨x, hx, h⟩
      · exact .inl h
      · exact .inr ⟨x, .tail _ hx, h⟩
theorem bd_nil (N : Int) : Bd N ([] : List Int) := ⟨by simp, by simp⟩
theorem DOk.gvb {en N s L Q} (h : DOk en N s L Q) (i : Int) : Bd ((N : Int) + 1) (gv s i) ∧ trimC (gv s i) = gv s i := by
  unfold _root_.Go.Proofs.YtjegpelofdopmaaGreatDoor.L.gv
  cases e : s.g i with
  | none => exact ⟨bd_nil _, rfl⟩
  | some c => obtain ⟨x, hx, rfl⟩ := look_mem4 ((h.g i).trans e); exact h.bL x hx
theorem DOk.tb {en N s L Q} (h : DOk en N s L Q) (k o : Int) : Bd ((N : Int) + 1) (s.t k o) ∧ trimC (s.t k o) = s.t k o := by
  rw [← h.t k o]
  rcases th_mem Q k o with e | ⟨x, hx, e⟩
  · rw [e]; exact ⟨bd_nil _, rfl⟩
  · rw [← e]; exact h.bQ x hx
theorem DOk.of {en N s L Q} (h : DOk en N s L Q) (i : Int) : trimC (ofK L i) = gv s i := by
  have e := h.g i; rw [look_at4] at e
  have q := (h.gvb i).2
  unfold _root_.Go.Proofs.YtjegpelofdopmaaGreatDoor.L.gv at q ⊢; rw [← e] at q ⊢
  split
  · rename_i r; rw [if_pos r] at q; exact q
  · rename_i r; unfold ofK; rw [if_neg r]; rfl
theorem DOk.cL {en N s L Q} (h : DOk en N s L Q) : ∀ x ∈ L, x.cl.length ≤ 65536 := fun x hx => (h.bL x hx).1.1
theorem DOk.cQ {en N s L Q} (h : DOk en N s L Q) : ∀ x ∈ Q, x.cl.length ≤ 65536 := fun x hx => (h.bQ x hx).1.1
theorem bd_nn {N : Int} {c : List Int} (h : Bd N c) : NN0 c := fun g => by
  cases c with
  | nil => rw [getC_nil]; exact Int.le_refl _
  | cons a c => have := h.2 a (.head _); exact (getC_bd h.2 (by omega) g).1
theorem fold_bd {en N s L Q} (h : DOk en N s L Q) (x : Event) : Bd ((N : Int) + 1) (kacc s x) ∧ trimC (kacc s x) = kacc s x := by
  unfold kacc
  have key : ∀ (ks : List Int) (c : List Int), Bd ((N : Int) + 1) c ∧ trimC c = c → Bd ((N : Int) + 1) (ks.foldl (fun c k => join2 c (s.t k x.obj)) c) ∧ trimC (ks.foldl (fun c k => join2 c (s.t k x.obj)) c) = ks.foldl (fun c k => join2 c (s.t k x.obj)) c := by
    intro ks
    induction ks with
    | nil => intro c hc; exact hc
    | cons k ks ih => intro c hc; exact ih _ ⟨join2_bd hc.1 (h.tb k x.obj).1, by unfold join2; exact trim_trim _⟩
  exact key _ _ (h.gvb x.g)
theorem DOk.acc0 {en N s L Q} (h : DOk en N s L Q) {x : Event} (h5 : x.kind ≠ 5) (h7 : x.kind ≠ 7) (h9 : x.kind ≠ 9) (h12 : x.kind ≠ 12) : trimC (joinC [] (gv s x.g)) = kacc s x := by
  obtain ⟨a, b⟩ := h.gvb x.g
  rw [join_nil_tr (bd_nn a) b]; unfold kacc fromL; rw [if_neg h5, if_neg h7, if_neg h9, if_neg h12]; rfl
theorem DOk.acc1 {s : KSt} {x : Event} {k : Int} (hk : fromL x.kind = [k]) : join2 (gv s x.g) (s.t k x.obj) = kacc s x := by unfold kacc; rw [hk]; rfl
theorem DOk.acc9 {en N s L Q} (h : DOk en N s L Q) {x : Event} (hk : x.kind = 9) : trimC (joinC (joinC (joinC [] (gv s x.g)) (s.t 10 x.obj)) (s.t 8 x.obj)) = kacc s x := by
  rw [join_two (bd_nn (h.gvb _).1)]; unfold kacc; rw [hk]; rfl
theorem DOk.more {en N s L Q} (h : DOk en N s L Q) : DOk en (N + 1) s L Q :=
  { h with bL := fun x hx => ⟨(h.bL x hx).1.mono (by omega), (h.bL x hx).2⟩, bQ := fun x hx => ⟨(h.bQ x hx).1.mono (by omega), (h.bQ x hx).2⟩, nL := by have := h.nL; omega, nQ := by have := h.nQ; omega }
/-- An event that does not release. -/
theorem DOk.come1 {en N s L Q} (h : DOk en N s L Q) {x : Event} (hx : EvOk x) (hr : ¬ EvRel x) {u : One4} (h1 : u.w = x.g) (h2 : u.cl = kacc s x) : DOk en (N + 1) (comeS s x) (withL L x.g u) Q := by
  obtain ⟨f1, f2⟩ := fold_bd h x
  have hg : 0 ≤ x.g ∧ x.g ≤ 65535 := by unfold EvOk at hx; omega
  refine { h.more with g := fun i => ?_, t := fun k o => ?_, srt := with_srt h1 h.srt, bL := fun y hy => ?_, rng := fun i hi => ?_, nL := by have := with_len L x.g u; have := h.nL; omega }
  · rw [look_with h1, h2, ← come_no hr]; unfold setK; simp only; rw [h.g]
  · rw [← come_no hr]; exact h.t k o
  · rcases with_mem hy with rfl | hy
    · rw [h2]; exact ⟨f1.mono (by omega), f2⟩
    · exact h.more.bL y hy
  · rw [← come_no hr] at hi; unfold setK at hi; simp only at hi
    by_cases q : i = x.g
    · omega
    · rw [if_neg q] at hi; exact h.rng i hi
theorem tick_good {N : Nat} {c : List Int} {id : Int} (h : Bd ((N : Int) + 1) c) (h0 : 0 ≤ id) (h1 : id ≤ 65535) : Bd (((N + 1 : Nat) : Int) + 1) (tick1 c id) ∧ trimC (tick1 c id) = tick1 c id :=
  ⟨(tick1_bd h (by omega) h0 h1).mono (by omega), tick1_tr _ _⟩
/-- One that makes a goroutine. -/
theorem DOk.come4 {en N s L Q} (h : DOk en N s L Q) {x : Event} (hx : EvOk x) (hk : x.kind = 4) {u v z : One4} (h1 : u.w = x.g) (h2 : u.cl = kacc s x) (h3 : v.w = x.child) (h4 : v.cl = tick1 (kacc s x) x.child) (h5 : z.w = x.g) (h6 : z.cl = tick1 (kacc s x) x.g) : DOk en (N + 1) (comeS s x) (withL (withL (withL L x.g u) x.child v) x.g z) Q := by
  obtain ⟨f1, f2⟩ := fold_bd h x
  have hr : EvRel x := .inl hk
  have hg : 0 ≤ x.g ∧ x.g ≤ 65535 := by unfold EvOk at hx; omega
  have hc : 0 ≤ x.child ∧ x.child ≤ 65535 := by unfold EvOk at hx; omega
  refine { h.more with g := fun i => ?_, t := fun k o => ?_, srt := with_srt h5 (with_srt h3 (with_srt h1 h.srt)), bL := fun y hy => ?_, rng := fun i hi => ?_, nL := ?_ }
  · rw [look_with h5, look_with h3, look_with h1, h4, h6]; unfold comeS; simp only [if_pos hr, hk, true_and]
    by_cases q : i = x.g
    · rw [if_pos q, if_pos q]
    · rw [if_neg q, if_neg q, if_neg q, h.g]
  · unfold comeS; simp only; rw [if_neg (fun e => e.2.1 hk)]; exact h.t k o
  · rcases with_mem hy with rfl | hy
    · rw [h6]; exact tick_good f1 hg.1 hg.2
    · rcases with_mem hy with rfl | hy
      · rw [h4]; exact tick_good f1 hc.1 hc.2
      · rcases with_mem hy with rfl | hy
        · rw [h2]; exact ⟨f1.mono (by omega), f2⟩
        · exact h.more.bL y hy
  · unfold comeS at hi; simp only at hi
    by_cases q : i = x.g
    · omega
    · rw [if_neg q] at hi
      by_cases r : x.kind = 4 ∧ i = x.child
      · omega
      · rw [if_neg r] at hi; exact h.rng i hi
  · have := with_len (withL (withL L x.g u) x.child v) x.g z; have := with_len (withL L x.g u) x.child v; have := with_len L x.g u; have := h.nL; omega
/-- One that releases an object. -/
theorem DOk.come2 {en N s L Q} (h : DOk en N s L Q) {x : Event} (hx : EvOk x) (hr : EvRel x) (hk : x.kind ≠ 4) {u z : One4} {v : Thg4} (h1 : u.w = x.g) (h2 : u.cl = kacc s x) (h3 : v.kq = x.kind) (h3' : v.oq = x.obj) (h4 : v.cl = join2 (thK Q x.kind x.obj) (kacc s x)) (h5 : z.w = x.g) (h6 : z.cl = tick1 (kacc s x) x.g) : DOk en (N + 1) (comeS s x) (withL (withL L x.g u) x.g z) (relL Q x.kind x.obj v) := by
  obtain ⟨f1, f2⟩ := fold_bd h x
  have hg : 0 ≤ x.g ∧ x.g ≤ 65535 := by unfold EvOk at hx; omega
  refine { h.more with g := fun i => ?_, t := fun k o => ?_, srt := with_srt h5 (with_srt h1 h.srt), bL := fun y hy => ?_, bQ := fun y hy => ?_, rng := fun i hi => ?_, nL := ?_, nQ := ?_ }
  · rw [look_with h5, look_with h1, h6]; unfold comeS; simp only [if_pos hr, hk, false_and, if_false]
    by_cases q : i = x.g
    · rw [if_pos q, if_pos q]
    · rw [if_neg q, if_neg q, if_neg q, h.g]
  · rw [th_rel h3 h3', h4, h.t, h.t]; unfold comeS; simp only
    by_cases q : k = x.kind ∧ o = x.obj
    · rw [if_pos q, if_pos ⟨hr, hk, q.1, q.2⟩, q.1, q.2]
    · rw [if_neg q, if_neg (fun e => q e.2.2)]
  · rcases with_mem hy with rfl | hy
    · rw [h6]; exact tick_good f1 hg.1 hg.2
    · rcases with_mem hy with rfl | hy
      · rw [h2]; exact ⟨f1.mono (by omega), f2⟩
      · exact h.more.bL y hy
  · rcases rel_mem hy with rfl | hy
    · rw [h4, h.t]; exact ⟨(join2_bd (h.tb _ _).1 f1).mono (by omega), by unfold join2; exact trim_trim _⟩
    · exact h.more.bQ y hy
  · unfold comeS at hi; simp only at hi
    by_cases q : i = x.g
    · omega
    · rw [if_neg q] at hi
      by_cases r : x.kind = 4 ∧ i = x.child
      · exact absurd r.1 hk
      · rw [if_neg r] at hi; exact h.rng i hi
  · have := with_len (withL L x.g u) x.g z; have := with_len L x.g u; have := h.nL; omega
  · have := rel_len Q x.kind x.obj v; have := h.nQ; omega
theorem DOk.start {en : Int} (h1 : 1 ≤ en) (h2 : en ≤ 281474976710655) {u : One4} (hw : u.w = 0) (hc : u.cl = [1]) : DOk en 0 kst0 [u] [] where
  e1 := h1
  e2 := h2
  g i := by
    unfold kst0 lookO; rw [hw, hc]; simp only [lookO]
    by_cases q : i = 0
    · rw [if_pos q.symm, if_pos q]
    · rw [if_neg (fun e => q e.symm), if_neg q]
  t _ _ := rfl
  srt := by simp
  bL x hx := by rw [List.mem_singleton.1 hx, hc]; exact ⟨⟨by simp, by simp⟩, rfl⟩
  bQ x hx := by simp at hx
  rng i hi := by
    unfold kst0 at hi; simp only at hi
    by_cases q : i = 0
    · omega
    · rw [if_neg q] at hi; exact absurd rfl hi
  nL := by simp
  nQ := by simp
end Go.Proofs.YtjegpelofdopmaaGreatDoor.L
