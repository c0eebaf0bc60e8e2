/- Contracts, walked by program over the engine's laws. -/
import Derived.Test.YtoakhhilmnfpkaaGreatDoorProg
import Derived.Test.YtoakhhilmnfpkaaGreatDoorT7
namespace Go.Proofs.YtoakhhilmnfpkaaGreatDoor.L
open Go.RowKit
open Go.Value renaming int → vI, slice → vS, bool → vB, pointer → vP, func → vF, agg → vA, map → vM, tuple → vT

def nilSV : SV := ⟨[], none, 0⟩
/-- All that an order's slices list: of events, of goroutines, of things. -/
def NV (C : List SV) (G : List (Int × SV)) (T : List (Thing × SV)) : List SV := nilSV :: (C ++ (G.map (·.2) ++ T.map (·.2)))
theorem nv_nil {C : List SV} {G : List (Int × SV)} {T : List (Thing × SV)} : nilSV ∈ NV C G T := .head _
theorem nv_c {C : List SV} {G : List (Int × SV)} {T : List (Thing × SV)} {x : SV} (h : x ∈ C) : x ∈ NV C G T := .tail _ (List.mem_append_left _ h)
theorem nv_g {C : List SV} {G : List (Int × SV)} {T : List (Thing × SV)} (g : Int) : (look G g).getD nilSV ∈ NV C G T := by
  cases h : look G g with
  | none => exact nv_nil
  | some y => exact .tail _ (List.mem_append_right _ (List.mem_append_left _ (List.mem_map.2 ⟨_, look_mem h, rfl⟩)))
theorem nv_t {C : List SV} {G : List (Int × SV)} {T : List (Thing × SV)} (t : Thing) : (look T t).getD nilSV ∈ NV C G T := by
  cases h : look T t with
  | none => exact nv_nil
  | some y => exact .tail _ (List.mem_append_right _ (List.mem_append_right _ (List.mem_map.2 ⟨_, look_mem h, rfl⟩)))
theorem put_vals {κ ν : Type} [DecidableEq κ] {m : List (κ × ν)} {k : κ} {v x : ν} (h : x ∈ (put m k v).map (·.2)) : x = v ∨ x ∈ m.map (·.2) := by
  induction m with
  | nil => simp [put] at h; exact .inl h
  | cons p r ih =>
    obtain ⟨a, u⟩ := p
    unfold put at h
    split at h
    · simp only [List.map_cons, List.mem_cons] at h ⊢; rcases h with h | h
      · exact .inl h
      · exact .inr (.inr h)
    · simp only [List.map_cons, List.mem_cons] at h ⊢; rcases h with h | h
      · exact .inr (.inl h)
      · rcases ih h with h | h
        · exact .inl h
        · exact .inr (.inr h)
def join2 (a b : List Int) : List Int := trimC (joinC (joinC [] a) b)
def tick1 (c : List Int) (id : Int) : List Int := trimC ((padC c id).set id.toNat (getC c id + 1))
theorem mem_trim {c : List Int} {n : Int} (h : n ∈ trimC c) : n ∈ c := by
  unfold trimC at h; exact List.mem_reverse.1 ((List.dropWhile_sublist _).mem (List.mem_reverse.1 h))
theorem mem_join : ∀ {a b : List Int} {n N : Int}, (∀ x ∈ a, 0 ≤ x ∧ x ≤ N) → (∀ x ∈ b, 0 ≤ x ∧ x ≤ N) → n ∈ joinC a b → 0 ≤ n ∧ n ≤ N
  | s, [], n, N, ha, _, h => by rw [joinC_nil] at h; exact ha n h
  | [], m :: c, n, N, _, hb, h => by
    simp only [joinC, List.mem_cons] at h
    rcases h with rfl | h
    · have := hb m (.head _); omega
    · exact mem_join (a := []) (b := c) (by simp) (fun x hx => hb x (.tail _ hx)) h
  | y :: s, m :: c, n, N, ha, hb, h => by
    simp only [joinC, List.mem_cons] at h
    rcases h with rfl | h
    · have := hb m (.head _); have := ha y (.head _); omega
    · exact mem_join (a := s) (b := c) (fun x hx => ha x (.tail _ hx)) (fun x hx => hb x (.tail _ hx)) h
/-- A clock of so many at most. -/
def Bd (N : Int) (c : List Int) : Prop := c.length ≤ 65536 ∧ ∀ n ∈ c, 0 ≤ n ∧ n ≤ N
theorem Bd.mono {N M : Int} {c : List Int} (h : Bd N c) (hm : N ≤ M) : Bd M c := ⟨h.1, fun n hn => ⟨(h.2 n hn).1, by have := (h.2 n hn).2; omega⟩⟩
theorem join2_bd {a b : List Int} {N : Int} (ha : Bd N a) (hb : Bd N b) : Bd N (join2 a b) := by
  unfold join2
  refine ⟨Nat.le_trans (trim_len _) ?_, fun n hn => mem_join (mem_join_nil ha.2) hb.2 (mem_trim hn)⟩
  rw [joinC_len, joinC_len]; have := ha.1; have := hb.1; simp; omega
where mem_join_nil {a : List Int} {N : Int} (h : ∀ x ∈ a, 0 ≤ x ∧ x ≤ N) : ∀ x ∈ joinC [] a, 0 ≤ x ∧ x ≤ N := fun x hx => mem_join (a := []) (by simp) h hx
theorem getC_bd {c : List Int} {N : Int} (h : ∀ n ∈ c, 0 ≤ n ∧ n ≤ N) (hN : 0 ≤ N) (i : Int) : 0 ≤ getC c i ∧ getC c i ≤ N := by
  unfold getC
  split
  · omega
  · cases e : c[i.toNat]? with
    | none => simpa using hN
    | some y => exact h y (List.mem_of_getElem? e)
theorem pad_len {c : List Int} {id : Int} : (padC c id).length = max c.length (id.toNat + 1) := by unfold padC; simp; omega
theorem tick1_bd {c : List Int} {N id : Int} (h : Bd N c) (hN : 0 ≤ N) (h0 : 0 ≤ id) (h1 : id ≤ 65535) : Bd (N + 1) (tick1 c id) := by
  unfold tick1
  refine ⟨Nat.le_trans (trim_len _) ?_, fun n hn => ?_⟩
  · rw [List.length_set, pad_len]; have := h.1; omega
  · rcases List.mem_or_eq_of_mem_set (mem_trim hn) with hn | rfl
    · unfold padC at hn
      rcases List.mem_append.1 hn with hn | hn
      · have := h.2 n hn; omega
      · have := (List.mem_replicate.1 hn).2; omega
    · have := getC_bd h.2 hN id; omega
theorem tick_eq {c : List Int} {N id : Int} (h : Bd N c) (hN : 0 ≤ N) (hN2 : N ≤ 4096) (h0 : 0 ≤ id) (h1 : id ≤ 65535) : tickC c id 281474976710655 = (tick1 c id, 0) := by
  have hg := getC_bd h.2 hN id
  have hv : vecOk c = true := by
    unfold vecOk; rw [decide_eq_true h.1, Bool.true_and, List.all_eq_true]; intro n hn; have := h.2 n hn; unfold big48; simp; omega
  have hp : packOk id (getC c id) = true := by unfold packOk; exact decide_eq_true (by omega)
  have he : epochE c id = 0 := by unfold epochE; rw [if_pos hv, hp]; rfl
  have hev : epochV c id = id * 281474976710656 + getC c id := by unfold epochV packV; rw [if_pos hv, if_pos hp]
  have hn : nextErr (epochV c id) 281474976710655 = 0 := by unfold nextErr; rw [if_neg (by omega), if_neg (by rw [hev]; omega)]
  unfold tickC tick1; rw [if_neg (by rw [he]; decide), if_neg (by rw [hn]; decide), hev, show (id * 281474976710656 + getC c id + 1) % 281474976710656 = getC c id + 1 from by omega]
theorem jn_hx {a b : SV} (ha : a.l.length ≤ 65536) (hb : b.l.length ≤ 65536) : ∀ x ∈ [a, b], x.l.length ≤ 100000 := by intro x hx; simp at hx; rcases hx with rfl | rfl <;> omega
theorem jn_hf {a b : SV} (ha : a.l.length ≤ 65536) (hb : b.l.length ≤ 65536) : (foldJ [a, b]).length ≤ 100000 := by
  show (joinC (joinC [] a.l) b.l).length ≤ 100000; rw [joinC_len, joinC_len]; simp; omega
/-! ### pieces that come back -/
theorem Ws.back {w0 w : World} {S : Nat → Prop} {H G : List Res} (h : Ws w0 S H G w) (j : Nat) {r r0 : Res} (hj : G[j]? = some r) (hs : r.src [r0] w0) (hS : ∀ b ∈ r0.fp, S b) : Ws w0 S (r :: H) [] w := by
  have hm := List.mem_of_getElem? hj
  refine ⟨h.fr, fun x hx => ?_, fun x hx => ?_, List.pairwise_cons.2 ⟨fun x hx b hb hb' => h.gd r hm x hx b hb' hb, h.nd⟩, fun x hx b hb => ?_, by simp, by simp, by simp⟩
  · rcases List.mem_cons.1 hx with rfl | hx
    · exact h.gat _ hm
    · exact h.at_ x hx
  · rcases List.mem_cons.1 hx with rfl | hx
    · exact h.glt _ hm
    · exact h.lt x hx
  · rcases List.mem_cons.1 hx with rfl | hx
    · rcases hs b hb with ⟨y, hy, hb'⟩ | hb'
      · rw [List.mem_singleton] at hy; subst hy; exact .inl (hS b hb')
      · exact .inr hb'
    · exact h.may x hx b hb
theorem mem_nv {C : List SV} {G : List (Int × SV)} {T : List (Thing × SV)} {x : SV} : x ∈ NV C G T ↔ x = nilSV ∨ x ∈ C ∨ x ∈ G.map (·.2) ∨ x ∈ T.map (·.2) := by unfold NV; simp only [List.mem_cons, List.mem_append]
theorem fromL_len (k : Int) : (fromL k).length ≤ 2 := by unfold fromL; (repeat' split) <;> decide
theorem ev_of {x : Event} (h : argErr (evOk x) = 0) : EvOk x := by
  unfold evOk at h; by_cases q : EvOk x
  · exact q
  · rw [decide_eq_false q] at h; exact absurd h (by decide)
theorem ev_no {x : Event} (h : argErr (evOk x) ≠ 0) : ¬ EvOk x ∧ argErr (evOk x) = 2 := by
  unfold evOk at h ⊢; by_cases q : EvOk x
  · rw [decide_eq_true q] at h; exact absurd (by decide) h
  · rw [decide_eq_false q]; exact ⟨q, rfl⟩
/-! ### the plain law: what goroutines and things know -/
structure KSt where
  g : Int → Option (List Int)
  t : Int → Int → List Int
def gv (s : KSt) (g : Int) : List Int := (s.g g).getD []
def kst0 : KSt := ⟨fun g => if g = 0 then some [1] else none, fun _ _ => []⟩
def kacc (s : KSt) (x : Event) : List Int := (fromL x.kind).foldl (fun c k => join2 c (s.t k x.obj)) (gv s x.g)
def fullK (en : Int) (s : KSt) (g : Int) : Prop := s.g g ≠ none ∧ en ≤ getC (gv s g) g
instance (en : Int) (s : KSt) (g : Int) : Decidable (fullK en s g) := by unfold fullK; infer_instance
def comeErr (en : Int) (s : KSt) (x : Event) : Int := if ¬ EvOk x then 2 else if s.g x.g = none then 4 else if x.kind = 4 ∧ s.g x.child ≠ none then 340 else if EvRel x ∧ fullK en s x.g then 130 else 0
def setK (s : KSt) (g : Int) (m : List Int) : KSt := ⟨fun i => if i = g then some m else s.g i, s.t⟩
def relK (s : KSt) (x : Event) (m : List Int) : KSt :=
  ⟨fun i => if i = x.g then some (tick1 m x.g) else if x.kind = 4 ∧ i = x.child then some (tick1 m x.child) else s.g i, fun k o => if x.kind ≠ 4 ∧ k = x.kind ∧ o = x.obj then join2 (s.t k o) m else s.t k o⟩
def comeS (s : KSt) (x : Event) : KSt :=
  ⟨fun i => if i = x.g then some (if EvRel x then tick1 (kacc s x) x.g else kacc s x) else if x.kind = 4 ∧ i = x.child then some (tick1 (kacc s x) x.child) else s.g i,
   fun k o => if EvRel x ∧ x.kind ≠ 4 ∧ k = x.kind ∧ o = x.obj then join2 (s.t k o) (kacc s x) else s.t k o⟩
theorem come_rel {s : KSt} {x : Event} (h : EvRel x) : relK (setK s x.g (kacc s x)) x (kacc s x) = comeS s x := by
  unfold relK setK comeS
  congr 1
  · funext i; simp only [if_pos h]
    by_cases q : i = x.g
    · rw [if_pos q, if_pos q]
    · rw [if_neg q, if_neg q, if_neg q]
  · funext k o; simp only [h, true_and]
theorem come_no {s : KSt} {x : Event} (h : ¬ EvRel x) : setK s x.g (kacc s x) = comeS s x := by
  have h4 : ¬ x.kind = 4 := fun q => h (.inl q)
  unfold setK comeS
  congr 1
  · funext i; simp only [if_neg h, h4, false_and, if_false]
  · funext k o; simp only [h, false_and, if_false]
def comeAt (s : KSt) (x : Event) : Int := x.g * 281474976710656 + getC (kacc s x) x.g
/-- The whole answer: what they know then, the epoch, the error. -/
def comeK (en : Int) (s : KSt) (x : Event) : KSt × Int × Int := if comeErr en s x = 0 then (comeS s x, comeAt s x, 0) else (s, 0, comeErr en s x)
/-- A memory is what they know; of at most so many events. -/
structure ClkOk (en : Int) (N : Nat) (s : KSt) (G : List (Int × SV)) (T : List (Thing × SV)) : Prop where
  e1 : 1 ≤ en
  e2 : en ≤ 281474976710655
  g : ∀ i, (look G i).map SV.l = s.g i
  t : ∀ k o, ((look T ⟨k, o⟩).getD nilSV).l = s.t k o
  cap : ∀ x ∈ NV [] G T, capSV x
  bd : ∀ x ∈ NV [] G T, Bd ((N : Int) + 1) x.l
  tr : ∀ x ∈ NV [] G T, trimC x.l = x.l
  rng : ∀ i, s.g i ≠ none → 0 ≤ i ∧ i ≤ 65535
theorem ClkOk.is {en N s G T} (h : ClkOk en N s G T) (i : Int) : (look G i).isSome = decide (s.g i ≠ none) := by
  rw [← h.g i]; cases look G i <;> simp
theorem ClkOk.gv {en N s G T} (h : ClkOk en N s G T) (i : Int) : ((look G i).getD nilSV).l = gv s i := by
  unfold L.gv; rw [← h.g i]; cases look G i <;> rfl
theorem ClkOk.at {en N s G T} (h : ClkOk en N s G T) {i : Int} {l : List Int} {A : Option Addr} {c : Nat} (hq : (look G i).getD nilSV = (⟨l, A, c⟩ : SV)) : l = L.gv s i := by rw [← h.gv i, hq]
theorem ClkOk.next {en N s G T} (h : ClkOk en N s G T) {s' G' T'} {L : List SV} (hg : ∀ i, (look G' i).map SV.l = s'.g i) (ht : ∀ k o, ((look T' ⟨k, o⟩).getD nilSV).l = s'.t k o)
    (hsub : ∀ y ∈ NV [] G' T', y ∈ L) (hc : ∀ y ∈ L, capSV y) (hL : ∀ y ∈ L, Bd ((N : Int) + 1 + 1) y.l ∧ trimC y.l = y.l) (hr : ∀ i, s'.g i ≠ none → 0 ≤ i ∧ i ≤ 65535) : ClkOk en (N + 1) s' G' T' where
  e1 := h.e1
  e2 := h.e2
  g := hg
  t := ht
  cap y hy := hc y (hsub y hy)
  bd y hy := (hL y (hsub y hy)).1.mono (by omega)
  tr y hy := (hL y (hsub y hy)).2
  rng := hr
theorem ClkOk.next0 {en N s G T} (h : ClkOk en N s G T) {s' G' T'} {L : List SV} (hg : ∀ i, (look G' i).map SV.l = s'.g i) (ht : ∀ k o, ((look T' ⟨k, o⟩).getD nilSV).l = s'.t k o)
    (hsub : ∀ y ∈ NV [] G' T', y ∈ L) (hc : ∀ y ∈ L, capSV y) (hL : ∀ y ∈ L, Bd ((N : Int) + 1) y.l ∧ trimC y.l = y.l) (hr : ∀ i, s'.g i ≠ none → 0 ≤ i ∧ i ≤ 65535) : ClkOk en N s' G' T' where
  e1 := h.e1
  e2 := h.e2
  g := hg
  t := ht
  cap y hy := hc y (hsub y hy)
  bd y hy := (hL y (hsub y hy)).1
  tr y hy := (hL y (hsub y hy)).2
  rng := hr
theorem ClkOk.old0 {en N s G T} (h : ClkOk en N s G T) : ∀ y ∈ NV [] G T, Bd ((N : Int) + 1) y.l ∧ trimC y.l = y.l := fun y hy => ⟨h.bd y hy, h.tr y hy⟩
theorem ClkOk.more {en N s G T} (h : ClkOk en N s G T) : ClkOk en (N + 1) s G T := { h with bd := fun y hy => (h.bd y hy).mono (by omega) }
theorem ClkOk.old {en N s G T} (h : ClkOk en N s G T) : ∀ y ∈ NV [] G T, Bd ((N : Int) + 1 + 1) y.l ∧ trimC y.l = y.l := fun y hy => ⟨(h.bd y hy).mono (by omega), h.tr y hy⟩
theorem dw_dw (c : List Int) (p : Int → Bool) : (c.dropWhile p).dropWhile p = c.dropWhile p := by
  induction c with
  | nil => rfl
  | cons a c ih =>
    by_cases h : p a
    · rw [List.dropWhile_cons_of_pos h]; exact ih
    · rw [List.dropWhile_cons_of_neg h, List.dropWhile_cons_of_neg h]
theorem trim_trim (c : List Int) : trimC (trimC c) = trimC c := by
  unfold trimC; rw [List.reverse_reverse, dw_dw]
theorem old_cons {N : Int} {u : SV} {L : List SV} (hu : Bd N u.l) (ht : trimC u.l = u.l) (h : ∀ y ∈ L, Bd N y.l ∧ trimC y.l = y.l) : ∀ y ∈ u :: L, Bd N y.l ∧ trimC y.l = y.l := by
  intro y hy; rcases List.mem_cons.1 hy with rfl | hy
  · exact ⟨hu, ht⟩
  · exact h y hy
theorem kv1 {G : List (Int × SV)} {T : List (Thing × SV)} {u : SV} {g : Int} : ∀ x ∈ NV [] (put G g u) T, x ∈ u :: NV [] G T := by
  intro x hx; rw [List.mem_cons, mem_nv]; rcases mem_nv.1 hx with h | h | h | h
  · exact .inr (.inl h)
  · exact .inr (.inr (.inl h))
  · rcases put_vals h with h | h
    · exact .inl h
    · exact .inr (.inr (.inr (.inl h)))
  · exact .inr (.inr (.inr (.inr h)))
theorem kvt {G : List (Int × SV)} {T : List (Thing × SV)} {u : SV} {g : Thing} : ∀ x ∈ NV [] G (put T g u), x ∈ u :: NV [] G T := by
  intro x hx; rw [List.mem_cons, mem_nv]; rcases mem_nv.1 hx with h | h | h | h
  · exact .inr (.inl h)
  · exact .inr (.inr (.inl h))
  · exact .inr (.inr (.inr (.inl h)))
  · rcases put_vals h with h | h
    · exact .inl h
    · exact .inr (.inr (.inr (.inr h)))
theorem kv2 {G : List (Int × SV)} {T : List (Thing × SV)} {u v : SV} {g k : Int} : ∀ x ∈ NV [] (put (put G k v) g u) T, x ∈ u :: v :: NV [] G T := by
  intro x hx; rcases List.mem_cons.1 (kv1 x hx) with h | h
  · exact h ▸ .head _
  · exact .tail _ (kv1 x h)
theorem kv3 {G : List (Int × SV)} {T : List (Thing × SV)} {u v : SV} {g : Int} {k : Thing} : ∀ x ∈ NV [] (put G g u) (put T k v), x ∈ u :: v :: NV [] G T := by
  intro x hx; rcases List.mem_cons.1 (kv1 x hx) with h | h
  · exact h ▸ .head _
  · exact .tail _ (kvt x h)
theorem tick_eqE {c : List Int} {N id en : Int} (h : Bd N c) (hN2 : N ≤ 281474976710655) (h0 : 0 ≤ id) (h1 : id ≤ 65535) (hf : getC c id < en) (he : en ≤ 281474976710655) : tickC c id en = (tick1 c id, 0) := by
  have hN : 0 ≤ N ∨ c = [] := by
    cases c with
    | nil => exact .inr rfl
    | cons a c => have := h.2 a (.head _); exact .inl (by omega)
  have hg : 0 ≤ getC c id ∧ getC c id ≤ 281474976710655 := by
    rcases hN with hN | rfl
    · have := getC_bd h.2 hN id; omega
    · unfold getC; split <;> simp
  have hv : vecOk c = true := by
    unfold vecOk; rw [decide_eq_true h.1, Bool.true_and, List.all_eq_true]; intro n hn; have := h.2 n hn; unfold big48; simp; omega
  have hp : packOk id (getC c id) = true := by unfold packOk; exact decide_eq_true (by omega)
  have h2 : epochE c id = 0 := by unfold epochE; rw [if_pos hv, hp]; rfl
  have hev : epochV c id = id * 281474976710656 + getC c id := by unfold epochV packV; rw [if_pos hv, if_pos hp]
  have hn : nextErr (epochV c id) en = 0 := by unfold nextErr; rw [if_neg (by omega), if_neg (by rw [hev]; omega)]
  unfold tickC tick1; rw [if_neg (by rw [h2]; decide), if_neg (by rw [hn]; decide), hev, show (id * 281474976710656 + getC c id + 1) % 281474976710656 = getC c id + 1 from by omega]
theorem epoch_eq {c : List Int} {N id : Int} (h : Bd N c) (hN : 0 ≤ N) (hN2 : N ≤ 281474976710655) (h0 : 0 ≤ id) (h1 : id ≤ 65535) : epochE c id = 0 ∧ epochV c id = id * 281474976710656 + getC c id := by
  have hg := getC_bd h.2 hN id
  have hv : vecOk c = true := by
    unfold vecOk; rw [decide_eq_true h.1, Bool.true_and, List.all_eq_true]; intro n hn; have := h.2 n hn; unfold big48; simp; omega
  have hp : packOk id (getC c id) = true := by unfold packOk; exact decide_eq_true (by omega)
  exact ⟨by unfold epochE; rw [if_pos hv, hp]; rfl, by unfold epochV packV; rw [if_pos hv, if_pos hp]⟩
def ClkR (m : Nat) (bg : Nat) (G : List (Int × SV)) (bt : Nat) (T : List (Thing × SV)) (en : Int) (_ks : KSt) (_nn : Nat) : Res := allR [Cel m #[vM (some bg), vM (some bt), vI .u64 en] 156, mapR bg (fun a : Int => vI .i64 a) SV.v G, mapR bt Thing.v SV.v T, nestR innerSV (NV [] G T)]
theorem ce2 {en : Int} {s : KSt} {x : Event} (h : ¬ EvOk x) : comeErr en s x = 2 := by unfold comeErr; rw [if_pos h]
theorem ce4 {en : Int} {s : KSt} {x : Event} (h : EvOk x) (h2 : ¬ s.g x.g ≠ none) : comeErr en s x = 4 := by unfold comeErr; rw [if_neg (fun q => q h), if_pos (Classical.not_not.1 h2)]
theorem ce340 {en : Int} {s : KSt} {x : Event} (h : EvOk x) (h2 : s.g x.g ≠ none) (h3 : x.kind = 4 ∧ s.g x.child ≠ none) : comeErr en s x = 340 := by unfold comeErr; rw [if_neg (fun q => q h), if_neg h2, if_pos h3]
theorem ce130 {en : Int} {s : KSt} {x : Event} (h : EvOk x) (h2 : s.g x.g ≠ none) (h3 : ¬ (x.kind = 4 ∧ s.g x.child ≠ none)) (h4 : EvRel x ∧ fullK en s x.g) : comeErr en s x = 130 := by unfold comeErr; rw [if_neg (fun q => q h), if_neg h2, if_neg h3, if_pos h4]
theorem ce0 {en : Int} {s : KSt} {x : Event} (h : EvOk x) (h2 : s.g x.g ≠ none) (h3 : ¬ (x.kind = 4 ∧ s.g x.child ≠ none)) (h4 : ¬ (EvRel x ∧ fullK en s x.g)) : comeErr en s x = 0 := by unfold comeErr; rw [if_neg (fun q => q h), if_neg h2, if_neg h3, if_neg h4]
set_option maxRecDepth 100000 in
theorem e_knone (m : Nat) (bg : Nat) (G : List (Int × SV)) (bt : Nat) (T : List (Thing × SV)) (en : Int) (ks : KSt) (nn : Nat) (w : World) (ho_c : (ClkR m bg G bt T en ks nn).p w) (hl_c : ∀ x_ ∈ (ClkR m bg G bt T en ks nn).fp, x_ < w.heap.size) (hok : ClkOk en nn ks G T) : Calls Tryz.prog 66 #[pA m 0] w (fun e w' => e = .returned (vB false) ∧ Fr No w w') := by
 have _hu := ho_c; have _hv := hl_c; clear _hu _hv
 have _hu := hok; clear _hu
 have he1_ := hok.e1; have he2_ := hok.e2
 refine enter_E 12 Tryz.func66 rfl rfl (by kernel_rfl) (L := [(0, pA m 0)]) (by kernel_rfl) ?_
 intro ac hA
 have hW := Ws.start w No
 have hW := hW.addG (ClkR m bg G bt T en ks nn) ho_c hl_c (by simp)
 have hW := hW.objG (L := [Cel m #[vM (some bg), vM (some bt), vI .u64 en] 156, mapR bg (fun a : Int => vI .i64 a) SV.v G, mapR bt Thing.v SV.v T, nestR innerSV (NV [] G T)]) ho_c hl_c
 clear ho_c hl_c
 refine wr <| st_p (vB false) hA ?_; clear hA ac; intro ac hA
 refine wn <| wr <| st_p (pA m 0) hA fun ac hA => st_p (vB false) hA fun ac hA => st_p (vB false) hA fun ac hA => st_p (pA m 0) hA fun ac hA => st_p (pA m 0) hA fun ac hA => st_p (pA m 2) hA fun ac hA => st_q (vI .u64 en) hA hW.cls (Rd.load (b := m) (i := 2) (by kernel_rfl) (fun _ hw => show _ = _ from (hw.1).getG 0 rfl) (by kernel_rfl)) fun ac hA => st_p (vB ((en : Int) == (0 : Int))) hA fun ac hA => st_p (vB ((en : Int) == (0 : Int))) hA fun ac hA => st_p (vB ((en : Int) == (0 : Int))) hA fun ac hA => wn <| wp_ret <| r1 (vB ((en : Int) == (0 : Int))) hA ?_
 clear hA
 exact ⟨retv (congrArg vB (beq_eq_false_iff_ne.2 (by omega))), hW.fr⟩

set_option maxRecDepth 100000 in
theorem e_kbegun (bg : Nat) (G : List (Int × SV)) (bt : Nat) (T : List (Thing × SV)) (en : Int) (ks : KSt) (nn : Nat) (g : Int) (w : World) (ho_gm : (mapR bg (fun a : Int => vI .i64 a) SV.v G).p w) (ho_tm : (mapR bt Thing.v SV.v T).p w) (hok : ClkOk en nn ks G T) (hg : -9223372036854775808 ≤ g ∧ g ≤ 9223372036854775807) : Calls Tryz.prog 105 #[vA #[vM (some bg), vM (some bt)], vI .i64 g] w (fun e w' => e = .returned (vB (decide (ks.g g ≠ none))) ∧ Fr No w w') := by
 have _hu := ho_gm; clear _hu
 have _hu := ho_tm; clear _hu
 have _hu := hok; clear _hu
 have _hu := hg; clear _hu
 refine enter_E 15 Tryz.func105 rfl rfl (by kernel_rfl) (L := [(0, vA #[vM (some bg), vM (some bt)]), (1, vI .i64 g)]) (by kernel_rfl) ?_
 intro ac hA
 have hW := Ws.start w No
 have hW := hW.mapG ho_gm
 have hW := hW.mapG ho_tm
 refine wp_seq ?_
 obtain ⟨c1_l, c1_l_A, c1_l_c, hqc1⟩ : ∃ l A c, (look G (g : Int)).getD nilSV = (⟨l, A, c⟩ : SV) := ⟨_, _, _, rfl⟩
 refine wp_region_lit <| st_s hA (Runs.cells (fun b => pA b 0) #[vM (some bg), vM (some bt)] 154 (fun _ => by kernel_rfl) hW ?_); clear hA ac hW; intro b2 w3 hW hb2 hfw3 ac hA
 refine st_p (vB false) hA ?_; clear hA ac; intro ac hA
 refine wn <| wr <| st_p (pA b2 0) hA fun ac hA => st_q (vM (some bg)) hA hW.cls (rl b2 0 0) fun ac hA => st_p (vI .i64 g) hA fun ac hA => st_q (vT #[vS c1_l_A c1_l.length c1_l_c, vB (look G (g : Int)).isSome]) hA hW.cls ((Rd.lookup (k := 3) (e := 81) (ek := (fun a : Int => vI .i64 a)) (ev := SV.v) (m := G) (z := vS none 0 0) (g : Int) true (by kernel_rfl) (by kernel_rfl) (KeyE.int (by kernel_rfl)) (by kernel_rfl) (fun _ => by kernel_rfl) (fun _ hw => (hw.1).getG 1 rfl)).cast (by have q_ := congrArg SV.v hqc1; revert q_; generalize look G (g : Int) = o_; intro q_; cases o_; exact congrArg (fun v_ => vT #[v_, vB false]) q_; exact congrArg (fun v_ => vT #[v_, vB true]) q_)) fun ac hA => st_p (vT #[vS c1_l_A c1_l.length c1_l_c, vB (look G (g : Int)).isSome]) hA fun ac hA => st_p (vS c1_l_A c1_l.length c1_l_c) hA fun ac hA => st_p (vB (look G (g : Int)).isSome) hA fun ac hA => st_p (vS c1_l_A c1_l.length c1_l_c) hA fun ac hA => st_p (vB (look G (g : Int)).isSome) hA fun ac hA => wn <| wr <| st_p (vB (look G (g : Int)).isSome) hA fun ac hA => st_p (vB (look G (g : Int)).isSome) hA fun ac hA => wn <| wp_ret <| r1 (vB (look G (g : Int)).isSome) hA ?_
 clear hA
 exact ⟨retv (congrArg vB (hok.is g)), hW.fr⟩

set_option maxRecDepth 100000 in
theorem e_kown (bg : Nat) (G : List (Int × SV)) (bt : Nat) (T : List (Thing × SV)) (en : Int) (ks : KSt) (nn : Nat) (g : Int) (w : World) (ho_gm : (mapR bg (fun a : Int => vI .i64 a) SV.v G).p w) (ho_tm : (mapR bt Thing.v SV.v T).p w) (hn_v : (nestR innerSV (NV [] G T)).p w) (hok : ClkOk en nn ks G T) (hg : -9223372036854775808 ≤ g ∧ g ≤ 9223372036854775807) : Calls Tryz.prog 127 #[vA #[vM (some bg), vM (some bt)], vI .i64 g] w (fun e w' => e = .returned (vI .u64 (getC (gv ks g) g)) ∧ Fr No w w') := by
 have _hu := ho_gm; clear _hu
 have _hu := ho_tm; clear _hu
 have _hu := hok; clear _hu
 have _hu := hg; clear _hu
 refine enter_E 11 Tryz.func127 rfl rfl (by kernel_rfl) (L := [(0, vA #[vM (some bg), vM (some bt)]), (1, vI .i64 g)]) (by kernel_rfl) ?_
 intro ac hA
 have hW := Ws.start w No
 have hW := hW.mapG ho_gm
 have hW := hW.mapG ho_tm
 refine wp_seq ?_
 have hW := hW.addG _ hn_v (nest_ltSV hn_v) (by simp)
 obtain ⟨c1_l, c1_l_A, c1_l_c, hqc1⟩ : ∃ l A c, (look G (g : Int)).getD nilSV = (⟨l, A, c⟩ : SV) := ⟨_, _, _, rfl⟩
 have hmc1 : (⟨c1_l, c1_l_A, c1_l_c⟩ : SV) ∈ NV [] G T := hqc1 ▸ nv_g _
 have hW := Ws.nestAt (inner := innerSV) (x := ⟨c1_l, c1_l_A, c1_l_c⟩) hW 0 rfl hmc1
 replace hW : Ws w No [] [roR c1_l_A 1 enU8 c1_l, nestR innerSV (NV [] G T), mapR bt Thing.v SV.v T, mapR bg (fun a : Int => vI .i64 a) SV.v G] w := hW
 have hc_c1_l : c1_l.length ≤ c1_l_c := hok.cap _ hmc1
 have hbc1 : Bd ((nn : Int) + 1) c1_l := hok.bd _ hmc1
 have hblc1 := hbc1.1; have htrc1 : trimC c1_l = c1_l := hok.tr _ hmc1
 have hec1 : c1_l = gv ks (g : Int) := hok.at hqc1
 refine wp_region_lit <| st_s hA (Runs.cells (fun b => pA b 0) #[vM (some bg), vM (some bt)] 154 (fun _ => by kernel_rfl) hW ?_); clear hA ac hW; intro b2 w3 hW hb2 hfw3 ac hA
 refine st_p (vI .u64 0) hA ?_; clear hA ac; intro ac hA
 refine wn <| wr <| st_p (pA b2 0) hA fun ac hA => st_q (vM (some bg)) hA hW.cls (rl b2 0 0) fun ac hA => st_p (vI .i64 g) hA fun ac hA => st_q (vS c1_l_A c1_l.length c1_l_c) hA hW.cls ((Rd.lookup (k := 3) (e := 81) (ek := (fun a : Int => vI .i64 a)) (ev := SV.v) (m := G) (z := vS none 0 0) (g : Int) false (by kernel_rfl) (by kernel_rfl) (KeyE.int (by kernel_rfl)) (by kernel_rfl) (fun _ => by kernel_rfl) (fun _ hw => (hw.1).getG 3 rfl)).cast (by have q_ := congrArg SV.v hqc1; revert q_; generalize look G (g : Int) = o_; intro q_; cases o_ <;> exact q_)) fun ac hA => st_p (vI .i64 g) hA fun ac hA => st_s hA (Runs.callN (v := vI .u64 (getC c1_l (g))) (fun _ => by kernel_rfl) hW (e_vget c1_l_A c1_l_c c1_l (g) w3 ((hW).getG 0 rfl) (by first | assumption | omega | (simp; omega) | simp) (by first | omega | assumption)) ?_); clear hA ac hW; intro w4 hW hfw4 ac hA
 refine st_p (vI .u64 (getC c1_l (g))) hA ?_; clear hA ac; intro ac hA
 refine wn <| wp_ret <| r1 (vI .u64 (getC c1_l (g))) hA ?_
 clear hA
 exact ⟨retv (by rw [hec1]), hW.fr⟩

set_option maxRecDepth 100000 in
theorem e_kfull (m : Nat) (bg : Nat) (G : List (Int × SV)) (bt : Nat) (T : List (Thing × SV)) (en : Int) (ks : KSt) (nn : Nat) (g : Int) (w : World) (ho_c : (ClkR m bg G bt T en ks nn).p w) (hl_c : ∀ x_ ∈ (ClkR m bg G bt T en ks nn).fp, x_ < w.heap.size) (hok : ClkOk en nn ks G T) (hg : -9223372036854775808 ≤ g ∧ g ≤ 9223372036854775807) : Calls Tryz.prog 106 #[pA m 0, vI .i64 g] w (fun e w' => e = .returned (vB (decide (fullK en ks g))) ∧ Fr No w w') := by
 have _hu := ho_c; have _hv := hl_c; clear _hu _hv
 have _hu := hok; clear _hu
 have _hu := hg; clear _hu
 have he1_ := hok.e1; have he2_ := hok.e2
 refine enter_E 29 Tryz.func106 rfl rfl (by kernel_rfl) (L := [(0, pA m 0), (1, vI .i64 g)]) (by kernel_rfl) ?_
 intro ac hA
 have hW := Ws.start w No
 have hW := hW.addG (ClkR m bg G bt T en ks nn) ho_c hl_c (by simp)
 have hW := hW.objG (L := [Cel m #[vM (some bg), vM (some bt), vI .u64 en] 156, mapR bg (fun a : Int => vI .i64 a) SV.v G, mapR bt Thing.v SV.v T, nestR innerSV (NV [] G T)]) ho_c hl_c
 clear ho_c hl_c
 refine wr <| st_p (vB false) hA ?_; clear hA ac; intro ac hA
 refine wn <| wp_seq <| q_region (by kernel_rfl) (by kernel_rfl) hW <| sq_p (pA m 0) hA ?_; clear hA ac; intro ac hA
 refine sq_call (v := vB false) hA (by kernel_rfl) (by kernel_rfl) (by kernel_rfl) (fun _ => by kernel_rfl) (Cls.callNC fun wx hwx => e_knone m bg G bt T en ks nn wx ((hwx.1).getG 4 rfl) ((hwx.1).glt _ (List.mem_of_getElem? (i := 4) rfl)) (by first | omega | assumption)) ?_; clear hA ac; intro ac hA
 refine sq_p (vB true) hA fun ac hA => sq_p (vB true) hA fun ac hA => sq_p (pA m 0) hA fun ac hA => sq_p (pA m 0) hA fun ac hA => sq_p (pA m 0) hA fun ac hA => sq_q (vA #[vM (some bg), vM (some bt)]) hA (Rd.load (b := m) (i := 0) (by kernel_rfl) (fun _ hw => show _ = _ from (hw.1).getG 0 rfl) (by kernel_rfl)) fun ac hA => sq_p (vI .i64 g) hA fun ac hA => sq_call (v := vB (decide (ks.g (g) ≠ none))) hA (by kernel_rfl) (by kernel_rfl) (by kernel_rfl) (fun _ => by kernel_rfl) (Cls.callNC fun wx hwx => e_kbegun bg G bt T en ks nn (g) wx ((hwx.1).getG 1 rfl) ((hwx.1).getG 2 rfl) (by first | omega | assumption) (by first | omega | assumption)) ?_; clear hA ac; intro ac hA
 refine sq_p (vB (decide (ks.g (g) ≠ none))) hA fun ac hA => sq_p (vB (decide (ks.g (g) ≠ none))) hA fun ac hA => ?_
 rcases Bool.eq_false_or_eq_true (decide (ks.g (g) ≠ none)) with h1 | h1
 ·
  rw [h1] at hA
  have h1 := of_decide_eq_true h1
  refine sq_p (pA m 0) hA fun ac hA => sq_p (pA m 0) hA fun ac hA => sq_p (pA m 0) hA fun ac hA => sq_q (vA #[vM (some bg), vM (some bt)]) hA (Rd.load (b := m) (i := 0) (by kernel_rfl) (fun _ hw => show _ = _ from (hw.1).getG 0 rfl) (by kernel_rfl)) fun ac hA => sq_p (vI .i64 g) hA fun ac hA => sq_call (v := vI .u64 (getC (gv ks (g)) (g))) hA (by kernel_rfl) (by kernel_rfl) (by kernel_rfl) (fun _ => by kernel_rfl) (Cls.callNC fun wx hwx => e_kown bg G bt T en ks nn (g) wx ((hwx.1).getG 1 rfl) ((hwx.1).getG 2 rfl) ((hwx.1).getG 3 rfl) (by first | omega | assumption) (by first | omega | assumption)) ?_; clear hA ac; intro ac hA
  refine sq_p (pA m 0) hA fun ac hA => sq_p (pA m 0) hA fun ac hA => sq_p (pA m 2) hA fun ac hA => sq_q (vI .u64 en) hA (Rd.load (b := m) (i := 2) (by kernel_rfl) (fun _ hw => show _ = _ from (hw.1).getG 0 rfl) (by kernel_rfl)) fun ac hA => sq_p (vB (decide ((getC (gv ks (g)) (g) : Int) ≥ (en : Int)))) hA fun ac hA => sq_p (vB (decide ((getC (gv ks (g)) (g) : Int) ≥ (en : Int)))) hA fun ac hA => sq_p (vB (decide ((getC (gv ks (g)) (g) : Int) ≥ (en : Int)))) hA fun ac hA => sq_nil ?_; intro w2 hww2; have hW := hww2.1; have hfw2 := hww2.2; clear hww2
  refine thenN <| wp_ret <| r1 (vB (decide ((getC (gv ks (g)) (g) : Int) ≥ (en : Int)))) hA ?_
  clear hA
  exact ⟨retv (congrArg vB (decide_eq_decide.2 ⟨fun q_ => ⟨h1, q_⟩, fun q_ => q_.2⟩)), hW.fr⟩
 rw [h1] at hA
 have h1 := of_decide_eq_false h1
 refine sq_k hA fun ac hA => sq_k hA fun ac hA => sq_k hA fun ac hA => sq_k hA fun ac hA => sq_k hA fun ac hA => sq_k hA fun ac hA => sq_k hA fun ac hA => sq_k hA fun ac hA => sq_k hA fun ac hA => sq_k hA fun ac hA => sq_k hA fun ac hA => sq_p (vB false) hA fun ac hA => sq_p (vB false) hA fun ac hA => sq_nil ?_; intro w3 hww3; have hW := hww3.1; have hfw3 := hww3.2; clear hww3
 refine thenN <| wp_ret <| r1 (vB false) hA ?_
 clear hA
 exact ⟨retv (congrArg vB (decide_eq_false (fun h_ => h1 h_.1)).symm), hW.fr⟩

set_option maxRecDepth 100000 in
theorem e_krefused (m : Nat) (bg : Nat) (G : List (Int × SV)) (bt : Nat) (T : List (Thing × SV)) (en : Int) (ks : KSt) (nn : Nat) (x : Event) (w : World) (ho_c : (ClkR m bg G bt T en ks nn).p w) (hl_c : ∀ x_ ∈ (ClkR m bg G bt T en ks nn).fp, x_ < w.heap.size) (hok : ClkOk en nn ks G T) (hxa : 0 ≤ x.addr ∧ x.addr ≤ 4294967295) (hxg : -9223372036854775808 ≤ x.g ∧ x.g ≤ 9223372036854775807 ∧ -9223372036854775808 ≤ x.child ∧ x.child ≤ 9223372036854775807) : Calls Tryz.prog 67 #[pA m 0, x.v] w (fun e w' => e = .returned (vI .i64 (comeErr en ks x)) ∧ Fr No w w') := by
 have _hu := ho_c; have _hv := hl_c; clear _hu _hv
 have _hu := hok; clear _hu
 have _hu := hxa; clear _hu
 have _hu := hxg; clear _hu
 have he1_ := hok.e1; have he2_ := hok.e2
 refine enter_E 40 Tryz.func67 rfl rfl (by kernel_rfl) (L := [(0, pA m 0), (1, x.v)]) (by kernel_rfl) ?_
 intro ac hA
 have hW := Ws.start w No
 have hW := hW.addG (ClkR m bg G bt T en ks nn) ho_c hl_c (by simp)
 have hW := hW.objG (L := [Cel m #[vM (some bg), vM (some bt), vI .u64 en] 156, mapR bg (fun a : Int => vI .i64 a) SV.v G, mapR bt Thing.v SV.v T, nestR innerSV (NV [] G T)]) ho_c hl_c
 clear ho_c hl_c
 refine wr <| st_s hA (Runs.cells (fun b => pA b 0) #[vI .i64 x.g, vI .i64 x.kind, vI .i64 x.site.f, vI .i64 x.site.pc, vI .u32 x.addr, vI .i64 x.child, vI .i64 x.obj, vI .i64 x.n, vI .i64 x.trap] 43 (fun _ => by kernel_rfl) hW ?_); clear hA ac hW; intro b1 w2 hW hb1 hfw2 ac hA
 refine st_p (vI .i64 0) hA ?_; clear hA ac; intro ac hA
 refine wn <| wp_seq <| wp_block <| wr <| st_q (vA #[vI .i64 x.g, vI .i64 x.kind, vI .i64 x.site.f, vI .i64 x.site.pc, vI .u32 x.addr, vI .i64 x.child, vI .i64 x.obj, vI .i64 x.n, vI .i64 x.trap]) hA hW.cls (rl b1 0 0) ?_; clear hA ac; intro ac hA
 refine st_s hA (Runs.callN (v := vI .i64 (argErr (evOk x))) (fun _ => by kernel_rfl) hW (e_echeck x w2 (by first | omega | assumption)) ?_); clear hA ac hW; intro w3 hW hfw3 ac hA
 refine st_p (vB ((argErr (evOk x) : Int) != (0 : Int))) hA fun ac hA => st_p (vB ((argErr (evOk x) : Int) != (0 : Int))) hA fun ac hA => wn <| wp_cond_split (t := (argErr (evOk x) : Int) != (0 : Int)) (hA.eval (by kernel_rfl)) (fun h4 => ?_) (fun h4 => ?_)
 ·
  have h4 := bne_iff_ne.1 h4
  refine wr <| st_p (vI .i64 2) hA ?_; clear hA ac; intro ac hA
  refine wn <| wp_ret <| blkR <| thenR <| r1 (vI .i64 2) hA ?_
  clear hA
  exact ⟨retv (congrArg (vI .i64) (ce2 (ev_no h4).1).symm), hW.fr⟩
 have h4 := of_bne_f h4
 refine wp_seq <| q_region (by kernel_rfl) (by kernel_rfl) hW <| sq_p (pA m 0) hA fun ac hA => sq_p (pA m 0) hA fun ac hA => sq_p (pA m 0) hA fun ac hA => sq_q (vA #[vM (some bg), vM (some bt)]) hA (Rd.load (b := m) (i := 0) (by kernel_rfl) (fun _ hw => show _ = _ from (hw.1).getG 0 rfl) (by kernel_rfl)) fun ac hA => sq_p (pA b1 0) hA fun ac hA => sq_q (vI .i64 x.g) hA (rl b1 0 0) fun ac hA => sq_call (v := vB (decide (ks.g (x.g) ≠ none))) hA (by kernel_rfl) (by kernel_rfl) (by kernel_rfl) (fun _ => by kernel_rfl) (Cls.callNC fun wx hwx => e_kbegun bg G bt T en ks nn (x.g) wx ((hwx.1).getG 1 rfl) ((hwx.1).getG 2 rfl) (by first | omega | assumption) (by first | omega | assumption)) ?_; clear hA ac; intro ac hA
 refine sq_p (vB (!(decide (ks.g (x.g) ≠ none)))) hA fun ac hA => sq_p (vB (!(decide (ks.g (x.g) ≠ none)))) hA fun ac hA => sq_nil ?_; intro w5 hww5; have hW := hww5.1; have hfw5 := hww5.2; clear hww5
 refine thenN <| wp_cond_split (t := !(decide (ks.g (x.g) ≠ none))) (hA.eval (by kernel_rfl)) (fun h6 => ?_) (fun h6 => ?_)
 ·
  have h6 := not_t h6
  have h6 := of_decide_eq_false h6
  refine wr <| st_p (vI .i64 4) hA ?_; clear hA ac; intro ac hA
  refine wn <| wp_ret <| blkR <| thenR <| r1 (vI .i64 4) hA ?_
  clear hA
  exact ⟨retv (congrArg (vI .i64) (ce4 (ev_of h4) h6).symm), hW.fr⟩
 have h6 := not_f h6
 have h6 := of_decide_eq_true h6
 refine wp_seq <| q_region (by kernel_rfl) (by kernel_rfl) hW <| sq_p (pA b1 1) hA fun ac hA => sq_q (vI .i64 x.kind) hA (rl b1 1 0) fun ac hA => sq_p (vB ((x.kind : Int) == (4 : Int))) hA fun ac hA => sq_p (vB ((x.kind : Int) == (4 : Int))) hA fun ac hA => ?_
 rcases Bool.eq_false_or_eq_true ((x.kind : Int) == (4 : Int)) with h7 | h7
 ·
  rw [h7] at hA
  have h7 := eq_of_beq h7
  refine sq_p (pA m 0) hA fun ac hA => sq_p (pA m 0) hA fun ac hA => sq_p (pA m 0) hA fun ac hA => sq_q (vA #[vM (some bg), vM (some bt)]) hA (Rd.load (b := m) (i := 0) (by kernel_rfl) (fun _ hw => show _ = _ from (hw.1).getG 0 rfl) (by kernel_rfl)) fun ac hA => sq_p (pA b1 5) hA fun ac hA => sq_q (vI .i64 x.child) hA (rl b1 5 0) fun ac hA => sq_call (v := vB (decide (ks.g (x.child) ≠ none))) hA (by kernel_rfl) (by kernel_rfl) (by kernel_rfl) (fun _ => by kernel_rfl) (Cls.callNC fun wx hwx => e_kbegun bg G bt T en ks nn (x.child) wx ((hwx.1).getG 1 rfl) ((hwx.1).getG 2 rfl) (by first | omega | assumption) (by first | omega | assumption)) ?_; clear hA ac; intro ac hA
  refine sq_p (vB (decide (ks.g (x.child) ≠ none))) hA fun ac hA => sq_p (vB (decide (ks.g (x.child) ≠ none))) hA fun ac hA => sq_nil ?_; intro w8 hww8; have hW := hww8.1; have hfw8 := hww8.2; clear hww8
  refine thenN <| wp_cond_split (t := decide (ks.g (x.child) ≠ none)) (hA.eval (by kernel_rfl)) (fun h9 => ?_) (fun h9 => ?_)
  ·
   have h9 := of_decide_eq_true h9
   refine wr <| st_p (vI .i64 340) hA ?_; clear hA ac; intro ac hA
   refine wn <| wp_ret <| blkR <| thenR <| r1 (vI .i64 340) hA ?_
   clear hA
   exact ⟨retv (congrArg (vI .i64) (ce340 (ev_of h4) h6 ⟨by omega, h9⟩).symm), hW.fr⟩
  have h9 := of_decide_eq_false h9
  refine wr <| st_q (vA #[vI .i64 x.g, vI .i64 x.kind, vI .i64 x.site.f, vI .i64 x.site.pc, vI .u32 x.addr, vI .i64 x.child, vI .i64 x.obj, vI .i64 x.n, vI .i64 x.trap]) hA hW.cls (rl b1 0 0) ?_; clear hA ac; intro ac hA
  refine st_s hA (Runs.callN (v := vB (evRel x)) (fun _ => by kernel_rfl) hW (e_erel x w8) ?_); clear hA ac hW; intro w10 hW hfw10 ac hA
  refine st_p (vB (evRel x)) hA ?_; clear hA ac; intro ac hA
  rcases Bool.eq_false_or_eq_true (evRel x) with h11 | h11
  ·
   rw [h11] at hA
   refine st_p (pA m 0) hA fun ac hA => st_p (pA b1 0) hA fun ac hA => st_q (vI .i64 x.g) hA hW.cls (rl b1 0 0) fun ac hA => st_s hA (Runs.callN (v := vB (decide (fullK en ks (x.g)))) (fun _ => by kernel_rfl) hW (e_kfull m bg G bt T en ks nn (x.g) w10 ((hW).getG 4 rfl) ((hW).glt _ (List.mem_of_getElem? (i := 4) rfl)) (by first | omega | assumption) (by first | omega | assumption)) ?_); clear hA ac hW; intro w12 hW hfw12 ac hA
   refine st_p (vB (decide (fullK en ks (x.g)))) hA fun ac hA => st_p (vB (decide (fullK en ks (x.g)))) hA fun ac hA => wn <| wp_cond_split (t := decide (fullK en ks (x.g))) (hA.eval (by kernel_rfl)) (fun h13 => ?_) (fun h13 => ?_)
   ·
    have h13 := of_decide_eq_true h13
    refine wr <| st_p (vI .i64 130) hA ?_; clear hA ac; intro ac hA
    refine wn <| wp_ret <| blkR <| thenR <| r1 (vI .i64 130) hA ?_
    clear hA
    exact ⟨retv (congrArg (vI .i64) (ce130 (ev_of h4) h6 (fun q_ => h9 q_.2) ⟨of_decide_eq_true h11, h13⟩).symm), hW.fr⟩
   have h13 := of_decide_eq_false h13
   refine wp_skip <| blkN <| thenN <| wr <| st_p (vI .i64 0) hA ?_; clear hA ac; intro ac hA
   refine wn <| wp_ret <| r1 (vI .i64 0) hA ?_
   clear hA
   exact ⟨retv (congrArg (vI .i64) (ce0 (ev_of h4) h6 (fun q_ => h9 q_.2) (fun q_ => h13 q_.2)).symm), hW.fr⟩
  rw [h11] at hA
  refine st_k hA fun ac hA => st_k hA fun ac hA => st_k hA fun ac hA => st_k hA fun ac hA => st_p (vB false) hA fun ac hA => st_p (vB false) hA fun ac hA => wn <| wp_cond_false (hA.eval (by kernel_rfl)) <| wp_skip <| blkN <| thenN <| wr <| st_p (vI .i64 0) hA ?_; clear hA ac; intro ac hA
  refine wn <| wp_ret <| r1 (vI .i64 0) hA ?_
  clear hA
  exact ⟨retv (congrArg (vI .i64) (ce0 (ev_of h4) h6 (fun q_ => h9 q_.2) (fun q_ => absurd q_.1 (of_decide_eq_false h11))).symm), hW.fr⟩
 rw [h7] at hA
 have h7 := ne_of_beq_false h7
 refine sq_k hA fun ac hA => sq_k hA fun ac hA => sq_k hA fun ac hA => sq_k hA fun ac hA => sq_k hA fun ac hA => sq_k hA fun ac hA => sq_k hA fun ac hA => sq_p (vB false) hA fun ac hA => sq_p (vB false) hA fun ac hA => sq_nil ?_; intro w14 hww14; have hW := hww14.1; have hfw14 := hww14.2; clear hww14
 refine thenN <| wp_cond_false (hA.eval (by kernel_rfl)) <| wr <| st_q (vA #[vI .i64 x.g, vI .i64 x.kind, vI .i64 x.site.f, vI .i64 x.site.pc, vI .u32 x.addr, vI .i64 x.child, vI .i64 x.obj, vI .i64 x.n, vI .i64 x.trap]) hA hW.cls (rl b1 0 0) ?_; clear hA ac; intro ac hA
 refine st_s hA (Runs.callN (v := vB (evRel x)) (fun _ => by kernel_rfl) hW (e_erel x w14) ?_); clear hA ac hW; intro w15 hW hfw15 ac hA
 refine st_p (vB (evRel x)) hA ?_; clear hA ac; intro ac hA
 rcases Bool.eq_false_or_eq_true (evRel x) with h16 | h16
 ·
  rw [h16] at hA
  refine st_p (pA m 0) hA fun ac hA => st_p (pA b1 0) hA fun ac hA => st_q (vI .i64 x.g) hA hW.cls (rl b1 0 0) fun ac hA => st_s hA (Runs.callN (v := vB (decide (fullK en ks (x.g)))) (fun _ => by kernel_rfl) hW (e_kfull m bg G bt T en ks nn (x.g) w15 ((hW).getG 4 rfl) ((hW).glt _ (List.mem_of_getElem? (i := 4) rfl)) (by first | omega | assumption) (by first | omega | assumption)) ?_); clear hA ac hW; intro w17 hW hfw17 ac hA
  refine st_p (vB (decide (fullK en ks (x.g)))) hA fun ac hA => st_p (vB (decide (fullK en ks (x.g)))) hA fun ac hA => wn <| wp_cond_split (t := decide (fullK en ks (x.g))) (hA.eval (by kernel_rfl)) (fun h18 => ?_) (fun h18 => ?_)
  ·
   have h18 := of_decide_eq_true h18
   refine wr <| st_p (vI .i64 130) hA ?_; clear hA ac; intro ac hA
   refine wn <| wp_ret <| blkR <| thenR <| r1 (vI .i64 130) hA ?_
   clear hA
   exact ⟨retv (congrArg (vI .i64) (ce130 (ev_of h4) h6 (fun q_ => absurd q_.1 (by omega)) ⟨of_decide_eq_true h16, h18⟩).symm), hW.fr⟩
  have h18 := of_decide_eq_false h18
  refine wp_skip <| blkN <| thenN <| wr <| st_p (vI .i64 0) hA ?_; clear hA ac; intro ac hA
  refine wn <| wp_ret <| r1 (vI .i64 0) hA ?_
  clear hA
  exact ⟨retv (congrArg (vI .i64) (ce0 (ev_of h4) h6 (fun q_ => absurd q_.1 (by omega)) (fun q_ => h18 q_.2)).symm), hW.fr⟩
 rw [h16] at hA
 refine st_k hA fun ac hA => st_k hA fun ac hA => st_k hA fun ac hA => st_k hA fun ac hA => st_p (vB false) hA fun ac hA => st_p (vB false) hA fun ac hA => wn <| wp_cond_false (hA.eval (by kernel_rfl)) <| wp_skip <| blkN <| thenN <| wr <| st_p (vI .i64 0) hA ?_; clear hA ac; intro ac hA
 refine wn <| wp_ret <| r1 (vI .i64 0) hA ?_
 clear hA
 exact ⟨retv (congrArg (vI .i64) (ce0 (ev_of h4) h6 (fun q_ => absurd q_.1 (by omega)) (fun q_ => absurd q_.1 (of_decide_eq_false h16))).symm), hW.fr⟩

set_option maxRecDepth 100000 in
theorem e_vtrimR (A_l : Option Addr) (c_l : Nat) (l : List Int) (w : World) (hr_l : RowAt w A_l 1 enU8 l) (hc_l : l.length ≤ c_l) (hl : l.length ≤ 100000) : Calls Tryz.prog 74 #[vS A_l l.length c_l] w (Fresh 29 1 enU8 (trimC l) w) := by
 have _hu := hc_l; have _hv := hr_l; clear _hu _hv
 have _hu := hl; clear _hu
 refine enter_E 27 Tryz.func74 rfl rfl (by kernel_rfl) (L := [(0, vS A_l l.length c_l)]) (by kernel_rfl) ?_
 intro ac hA
 have hW := Ws.start w No
 have hW := hW.arg hr_l
 refine wr <| st_p (vS none 0 0) hA ?_; clear hA ac; intro ac hA
 refine wn <| wr <| st_p (vS A_l l.length c_l) hA ?_; clear hA ac; intro ac hA
 refine st_s hA (Runs.callRow (E := 29) (sz := 1) (en := enU8) (l := l) (fun _ => by kernel_rfl) hW (e_vclone A_l c_l l w ((hW).getG 0 rfl) (by first | assumption | omega | (simp; omega) | simp) (by omega)) ?_); clear hA ac hW; intro A2 c3 w1 hW hcc3 hfw1 ac hA
 refine st_p (vS A2 l.length c3) hA ?_; clear hA ac; intro ac hA
 refine wn <| wp_seq <| wp_block <| wp_loop_m (fun m_ ac_ wl_ => ∃ d : List Int, ∃ A : Option Addr, ∃ c : Nat, m_ = d.length ∧ (trimC d = trimC l) ∧ (d.length ≤ 100000) ∧ (d.length ≤ c) ∧ Fm 27 [] [(3, vS A d.length c)] ac_ ∧ Ws w No [rowR 29 1 enU8 (vS A d.length c) d] [roR A_l 1 enU8 l] wl_) _ ⟨l, A2, c3, rfl, by rfl, by omega, by omega, hA.sub ⟨⟨by kernel_rfl, by kernel_rfl⟩, trivial⟩, (hW.pick [0] (by decide) rfl).pickG [0] rfl⟩ ?_
 clear hA ac hW; rintro m_ ac w5 ⟨d, A, c, rfl, ht, hd, hdc, hA, hW⟩
 refine wp_seq <| wr <| st_p (vS A d.length c) hA fun ac hA => st_p (vI .i64 (d.length : Int)) hA fun ac hA => st_p (vB (decide ((d.length : Int) > (0 : Int)))) hA fun ac hA => st_p (vB (decide ((d.length : Int) > (0 : Int)))) hA fun ac hA => ?_
 rcases Bool.eq_false_or_eq_true (decide ((d.length : Int) > (0 : Int))) with h6 | h6
 ·
  rw [h6] at hA
  have h6 := of_decide_eq_true h6
  refine st_p (vS A d.length c) hA fun ac hA => st_p (vS A d.length c) hA fun ac hA => st_p (vI .i64 (d.length : Int)) hA fun ac hA => st_q (vI .i64 ((d.length - 1 : Nat) : Int)) hA hW.cls (Rd.pureE (v0 := vI .i64 (IntKind.i64.wrap ((d.length : Int) - 1))) (fun _ => by kernel_rfl) (congrArg (vI .i64) ((w_i64 (x := (d.length : Int) - 1) (by omega) (by omega)).trans (by omega)))) fun ac hA => ?_
  obtain ⟨y7, hy7⟩ : ∃ y, d[d.length - 1]? = some y := ⟨_, List.getElem?_eq_getElem (by first | omega | (simp; done) | (simp; omega))⟩
  obtain ⟨b8, o9, rfl, hbb8⟩ := row_some (rowR_at ((hW).get 0 rfl) elt_U8.len) hy7
  refine st_q (vP (some ⟨b8, o9 + (d.length - 1) * 1, none⟩)) hA hW.cls (Rd.indexAddr (e := 29) (sz := 1) (b := b8) (off := o9) (n := d.length) (c := c) (k := d.length - 1) (by kernel_rfl) (by kernel_rfl) (by first | omega | (simp; done) | (simp; omega)) (fun _ => by kernel_rfl) (fun _ => by kernel_rfl)) fun ac hA => st_q (vI .u64 y7) hA hW.cls (Rd.loadRow (b := b8) (i := o9 + (d.length - 1) * 1) (xs := [vI .u64 y7]) (by kernel_rfl) (fun _ hw => row_ld (rowR_at ((hw.1).get 0 rfl) elt_U8.len) hy7 (Fr.refl No _) (fun h => h) 0 1 (by kernel_rfl)) (by kernel_rfl)) fun ac hA => st_p (vB ((y7 : Int) == (0 : Int))) hA fun ac hA => st_p (vB ((y7 : Int) == (0 : Int))) hA fun ac hA => wn <| wp_cond_split (t := (y7 : Int) == (0 : Int)) (hA.eval (by kernel_rfl)) (fun h10 => ?_) (fun h10 => ?_)
  ·
   have h10 := eq_of_beq h10
   refine wp_skip <| thenN <| wp_block <| wp_region_lit <| st_p (vS (some ⟨b8, o9, none⟩) d.length c) hA fun ac hA => st_p (vS (some ⟨b8, o9, none⟩) d.length c) hA fun ac hA => st_p (vI .i64 (d.length : Int)) hA fun ac hA => st_q (vI .i64 ((d.length - 1 : Nat) : Int)) hA hW.cls (Rd.pureE (v0 := vI .i64 (IntKind.i64.wrap ((d.length : Int) - 1))) (fun _ => by kernel_rfl) (congrArg (vI .i64) ((w_i64 (x := (d.length : Int) - 1) (by omega) (by omega)).trans (by omega)))) fun ac hA => st_q (vS (some ⟨b8, o9, none⟩) (d.take (d.length - 1)).length c) hA hW.cls ((Rd.slice (E := 29) (A := (some ⟨b8, o9, none⟩)) (n := d.length) (c := c) (l := 0) (h := (d.length - 1)) (m := c) (sz := 1) (by kernel_rfl) (fun _ => by kernel_rfl) (fun _ => by kernel_rfl) (fun w => bounds_hi (by omega) w)).cast (slice_eq (addr_zero _ _ _) (by first | omega | (simp; done) | (simp; omega)) (by first | omega | (simp; done) | (simp; omega)))) fun ac hA => st_p (vS (some ⟨b8, o9, none⟩) (d.take (d.length - 1)).length c) hA fun ac hA => wpList_nil <| blkN <| thenN ?_
   have hW := hW.rowTake (H' := [rowR 29 1 enU8 (vS (some ⟨b8, o9, none⟩) (d.take (d.length - 1)).length c) (d.take (d.length - 1))]) 0 rfl elt_U8.len (by first | rfl | simp) (d.length - 1) rfl
   have htl_ : (d.take (d.length - 1)).length = d.length - 1 := by simp
   exact ⟨(d.take (d.length - 1)).length, by omega, d.take (d.length - 1), (some ⟨b8, o9, none⟩), c, rfl, by rw [trim_step hy7 (by omega)]; exact ht, by rw [List.length_take]; omega, by rw [List.length_take]; omega, hA.sub ⟨⟨by kernel_rfl, by kernel_rfl⟩, trivial⟩, (hW.pick [0] (by decide) rfl).pickG [0] rfl⟩
  have h10 := ne_of_beq_false h10
  refine wp_exit <| thenX <| thenX <| blkX <| thenN <| wp_seq <| wr <| st_p (vS (some ⟨b8, o9, none⟩) d.length c) hA fun ac hA => st_p (vI .i64 (d.length : Int)) hA fun ac hA => st_p (vB ((d.length : Int) == (0 : Int))) hA fun ac hA => wn <| wp_cond_split (t := (d.length : Int) == (0 : Int)) (hA.eval (by kernel_rfl)) (fun h11 => ?_) (fun h11 => ?_)
  ·
   have h11 := eq_of_beq h11
   exfalso; clear hA hW; omega
  have h11 := ne_of_beq_false h11
  refine wp_skip <| thenN <| wr <| st_p (vS (some ⟨b8, o9, none⟩) d.length c) hA fun ac hA => st_p (vS (some ⟨b8, o9, none⟩) d.length c) hA fun ac hA => wn <| wp_ret <| r1 (vS (some ⟨b8, o9, none⟩) d.length c) hA ?_
  clear hA
  rw [show trimC l = d from by rw [← ht]; exact trim_done hy7 (by omega)]
  exact ⟨_, rfl, hW.fresh 0 rfl (fun _ h => h), hW.fr⟩
 rw [h6] at hA
 have h6 := of_decide_eq_false h6
 refine st_k hA fun ac hA => st_k hA fun ac hA => st_k hA fun ac hA => st_k hA fun ac hA => st_k hA fun ac hA => st_k hA fun ac hA => st_k hA fun ac hA => st_p (vB false) hA fun ac hA => wn <| wp_cond_false (hA.eval (by kernel_rfl)) <| wp_exit <| thenX <| thenX <| blkX <| thenN <| wp_seq <| wr <| st_p (vS A d.length c) hA fun ac hA => st_p (vI .i64 (d.length : Int)) hA fun ac hA => st_p (vB ((d.length : Int) == (0 : Int))) hA fun ac hA => wn <| wp_cond_split (t := (d.length : Int) == (0 : Int)) (hA.eval (by kernel_rfl)) (fun h12 => ?_) (fun h12 => ?_)
 ·
  have h12 := eq_of_beq h12
  refine wr <| st_p (vS none 0 0) hA ?_; clear hA ac; intro ac hA
  refine wn <| wp_ret <| thenR <| r1 (vS none 0 0) hA ?_
  clear hA
  rw [show trimC l = [] from by rw [← ht]; exact trim_nil (by omega)]
  have hW := hW.addNil 29 1 enU8
  exact ⟨_, rfl, hW.fresh 0 rfl (fun _ h => h), hW.fr⟩
 have h12 := ne_of_beq_false h12
 exfalso; clear hA hW; omega

set_option maxRecDepth 100000 in
theorem e_kof (m : Nat) (bg : Nat) (G : List (Int × SV)) (bt : Nat) (T : List (Thing × SV)) (en : Int) (ks : KSt) (nn : Nat) (g : Int) (w : World) (ho_c : (ClkR m bg G bt T en ks nn).p w) (hl_c : ∀ x_ ∈ (ClkR m bg G bt T en ks nn).fp, x_ < w.heap.size) (hok : ClkOk en nn ks G T) (hg : -9223372036854775808 ≤ g ∧ g ≤ 9223372036854775807) : Calls Tryz.prog 35 #[pA m 0, vI .i64 g] w (Fresh 29 1 enU8 (gv ks g) w) := by
 have _hu := ho_c; have _hv := hl_c; clear _hu _hv
 have _hu := hok; clear _hu
 have _hu := hg; clear _hu
 have he1_ := hok.e1; have he2_ := hok.e2
 refine enter_E 15 Tryz.func35 rfl rfl (by kernel_rfl) (L := [(0, pA m 0), (1, vI .i64 g)]) (by kernel_rfl) ?_
 intro ac hA
 have hW := Ws.start w No
 have hW := hW.addG (ClkR m bg G bt T en ks nn) ho_c hl_c (by simp)
 have hW := hW.objG (L := [Cel m #[vM (some bg), vM (some bt), vI .u64 en] 156, mapR bg (fun a : Int => vI .i64 a) SV.v G, mapR bt Thing.v SV.v T, nestR innerSV (NV [] G T)]) ho_c hl_c
 clear ho_c hl_c
 refine wr <| st_p (vS none 0 0) hA ?_; clear hA ac; intro ac hA
 refine wn <| wp_seq <| wr <| st_p (pA m 0) hA ?_; clear hA ac; intro ac hA
 refine st_s hA (Runs.callN (v := vB false) (fun _ => by kernel_rfl) hW (e_knone m bg G bt T en ks nn w ((hW).getG 4 rfl) ((hW).glt _ (List.mem_of_getElem? (i := 4) rfl)) (by first | omega | assumption)) ?_); clear hA ac hW; intro w1 hW hfw1 ac hA
 refine wn <| wp_cond_false (hA.eval (by kernel_rfl)) <| wp_skip <| thenN <| wp_seq ?_
 obtain ⟨c2_l, c2_l_A, c2_l_c, hqc2⟩ : ∃ l A c, (look G (g : Int)).getD nilSV = (⟨l, A, c⟩ : SV) := ⟨_, _, _, rfl⟩
 have hmc2 : (⟨c2_l, c2_l_A, c2_l_c⟩ : SV) ∈ NV [] G T := hqc2 ▸ nv_g _
 have hW := Ws.nestAt (inner := innerSV) (x := ⟨c2_l, c2_l_A, c2_l_c⟩) hW 3 rfl hmc2
 replace hW : Ws w No [] [roR c2_l_A 1 enU8 c2_l, Cel m #[vM (some bg), vM (some bt), vI .u64 en] 156, mapR bg (fun a : Int => vI .i64 a) SV.v G, mapR bt Thing.v SV.v T, nestR innerSV (NV [] G T), ClkR m bg G bt T en ks nn] w1 := hW
 have hc_c2_l : c2_l.length ≤ c2_l_c := hok.cap _ hmc2
 have hbc2 : Bd ((nn : Int) + 1) c2_l := hok.bd _ hmc2
 have hblc2 := hbc2.1; have htrc2 : trimC c2_l = c2_l := hok.tr _ hmc2
 have hec2 : c2_l = gv ks (g : Int) := hok.at hqc2
 refine wp_region_lit <| st_p (pA m 0) hA fun ac hA => st_p (pA m 0) hA fun ac hA => st_p (pA m 0) hA fun ac hA => st_p (pA m 0) hA fun ac hA => st_q (vM (some bg)) hA hW.cls (Rd.load (b := m) (i := 0) (by kernel_rfl) (fun _ hw => show _ = _ from (hw.1).getG 1 rfl) (by kernel_rfl)) fun ac hA => st_p (vI .i64 g) hA fun ac hA => st_q (vS c2_l_A c2_l.length c2_l_c) hA hW.cls ((Rd.lookup (k := 3) (e := 81) (ek := (fun a : Int => vI .i64 a)) (ev := SV.v) (m := G) (z := vS none 0 0) (g : Int) false (by kernel_rfl) (by kernel_rfl) (KeyE.int (by kernel_rfl)) (by kernel_rfl) (fun _ => by kernel_rfl) (fun _ hw => (hw.1).getG 2 rfl)).cast (by have q_ := congrArg SV.v hqc2; revert q_; generalize look G (g : Int) = o_; intro q_; cases o_ <;> exact q_)) fun ac hA => st_s hA (Runs.callRow (E := 29) (sz := 1) (en := enU8) (l := (trimC c2_l)) (fun _ => by kernel_rfl) hW (e_vtrimR c2_l_A c2_l_c c2_l w1 ((hW).getG 0 rfl) (by first | assumption | omega | (simp; omega) | simp) (by first | omega | assumption)) ?_); clear hA ac hW; intro A4 c5 w3 hW hcc5 hfw3 ac hA
 refine st_p (vS A4 (trimC c2_l).length c5) hA ?_; clear hA ac; intro ac hA
 refine wn <| wp_ret <| r1 (vS A4 (trimC c2_l).length c5) hA ?_
 clear hA
 rw [show gv ks g = trimC c2_l from by rw [← hec2, htrc2]]
 exact ⟨_, rfl, hW.fresh 0 rfl (fun _ h => h), hW.fr⟩

end Go.Proofs.YtoakhhilmnfpkaaGreatDoor.L
