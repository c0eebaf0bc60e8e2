/- Contracts, walked by program over the engine's laws. -/
import Derived.Test.YtobbocpacacnhaaProg
import Derived.Test.YtobbocpacacnhaaT8
namespace Go.Proofs.Ytobbocpacacnhaa.L
open Go.RowKit

structure Act23 where
  what : Int
  h : Int
  id : Int
  m : Mark
deriving DecidableEq
def Act23.v (x : Act23) : Value := .agg #[.int .i64 x.what, .int .i64 x.h, .int .i64 x.id, .int .u64 x.m.clock, .int .i64 x.m.site.f, .int .i64 x.m.site.pc]
def enAct23 (x : Act23) : List Value := [.int .i64 x.what, .int .i64 x.h, .int .i64 x.id, .int .u64 x.m.clock, .int .i64 x.m.site.f, .int .i64 x.m.site.pc]
theorem elt_Act23 : Elt Try.prog 34 6 enAct23 := ⟨⟨Value.agg #[Value.int .i64 0, Value.int .i64 0, Value.int .i64 0, Value.int .u64 0, Value.int .i64 0, Value.int .i64 0], 48, by kernel_rfl, rfl, by decide⟩, by decide, fun _ => rfl, fun x u hu => List.all_eq_true.1 (show (enAct23 x).all (·.oneCell') = true from rfl) u hu⟩
def deAct23 : List Value → Act23
  | [.int _ a0, .int _ a1, .int _ a2, .int _ a3, .int _ a4, .int _ a5] => ⟨a0, a1, a2, ⟨a3, ⟨a4, a5⟩⟩⟩
  | _ => ⟨0, 0, 0, ⟨0, ⟨0, 0⟩⟩⟩
def wfAct23 (x : Act23) : Prop := (Lit.int .i64 x.what).wf = true ∧ (Lit.int .i64 x.h).wf = true ∧ (Lit.int .i64 x.id).wf = true ∧ (Lit.int .u64 x.m.clock).wf = true ∧ (Lit.int .i64 x.m.site.f).wf = true ∧ (Lit.int .i64 x.m.site.pc).wf = true ∧ True
theorem deAct23_ok (cs : List Value) (h : cksOk [.int .i64, .int .i64, .int .i64, .int .u64, .int .i64, .int .i64] cs) : enAct23 (deAct23 cs) = cs ∧ wfAct23 (deAct23 cs) := by
  have hl := cksOk_length h
  match cs, hl, h with
  | [c0, c1, c2, c3, c4, c5], _, ⟨⟨_, h0, w0⟩, ⟨_, h1, w1⟩, ⟨_, h2, w2⟩, ⟨_, h3, w3⟩, ⟨_, h4, w4⟩, ⟨_, h5, w5⟩, _⟩ =>
    subst h0 h1 h2 h3 h4 h5
    exact ⟨rfl, w0, w1, w2, w3, w4, w5, trivial⟩
theorem flatAct23 {v : Value} (h : cksOk [.int .i64, .int .i64, .int .i64, .int .u64, .int .i64, .int .i64] v.cells.toList) : ∃ x : Act23, v = x.v ∧ wfAct23 x := by
  have hl := cksOk_length h
  cases v with
  | agg a => exact ⟨deAct23 a.toList, by have := (deAct23_ok _ h).1; have h2 := congrArg List.toArray this; exact congrArg Value.agg (h2.symm), (deAct23_ok _ h).2⟩
  | _ => simp [Value.cells] at hl

theorem Act23.bounds {x : Act23} (h : wfAct23 x) : (-9223372036854775808 ≤ x.id ∧ x.id ≤ 9223372036854775807) ∧ (0 ≤ x.m.clock ∧ x.m.clock ≤ 18446744073709551615) := by
  obtain ⟨-, -, h1, h2, -⟩ := h
  simp [Lit.wf] at h1 h2
  have e1 : IntKind.i64.min = -9223372036854775808 := by decide
  have e2 : IntKind.i64.max = 9223372036854775807 := by decide
  have e3 : IntKind.u64.min = 0 := by decide
  have e4 : IntKind.u64.max = 18446744073709551615 := by decide
  omega
theorem each_none {pre : List (Int × Mark)} {x : Int × Mark} (hc : Comes (EachR none) pre x) : False := by
  obtain ⟨xs, ⟨ks, hp, -, rfl⟩, t, ht⟩ := hc
  obtain rfl : ks = [] := hp.eq_nil
  simp at ht
/-- How a pool stands, k calls having been made. -/
structure PoolOk (k : Nat) (V : VT23) : Prop where
  nd : (keys (vals V)).Nodup
  len : V.length ≤ k
  hn : ∀ e ∈ V, 1 ≤ e.1 ∧ e.1 ≤ k
  mks : ∀ e ∈ V, e.2.2.length ≤ k ∧ ∀ x ∈ e.2.2, 0 ≤ x.1 ∧ x.1 ≤ 65535
theorem PoolOk.start : PoolOk 0 [] := ⟨by simp [vals, keys], by simp, by simp, by simp⟩
theorem PoolOk.mono {k : Nat} {V : VT23} (h : PoolOk k V) : PoolOk (k + 1) V := ⟨h.nd, by have := h.len; omega, fun e he => by have := h.hn e he; omega, fun e he => ⟨by have := (h.mks e he).1; omega, (h.mks e he).2⟩⟩
theorem PoolOk.make {k : Nat} {V V' : VT23} {g : Int} (h : PoolOk k V) (hM : MakeR V g V') : PoolOk (k + 1) V' ∧ V'.length = V.length + 1 := by
  obtain ⟨h1, h2, h3, -, b, rfl⟩ := hM
  have hl := h.len
  refine ⟨⟨?_, by simp; omega, fun e he => ?_, fun e he => ?_⟩, by simp⟩
  · rw [vals_snoc, ← put_end h3]; exact nodup_put h.nd _ _
  · rcases List.mem_append.1 he with he | he
    · have := h.hn e he; omega
    · simp at he; subst he; simp only; omega
  · rcases List.mem_append.1 he with he | he
    · exact ⟨by have := (h.mks e he).1; omega, (h.mks e he).2⟩
    · simp at he; subst he; simp
theorem del_len {α : Type} {m : List (Int × α)} {k : Int} (hs : (look m k).isSome = true) : ((del m k).length : Int) = m.length - 1 := by
  induction m with
  | nil => cases hs
  | cons x r ih =>
    obtain ⟨a, u⟩ := x
    simp only [look, del] at hs ⊢
    by_cases e : a = k
    · rw [if_pos e]; simp
    · rw [if_neg e] at hs ⊢; have := ih hs; simp; omega
theorem PoolOk.free {k : Nat} {V V' : VT23} {g er : Int} (h : PoolOk k V) (hM : FreeR V g V' er) : PoolOk (k + 1) V' ∧ ((er = 0 ∧ (V'.length : Int) = V.length - 1) ∨ (er = 5 ∧ V'.length = V.length)) := by
  unfold FreeR at hM
  split at hM
  · rename_i hs
    obtain ⟨rfl, rfl⟩ := hM
    have hsub := delV_sub (V := V) (k := g)
    refine ⟨⟨?_, by have := hsub.length_le; have := h.len; omega, fun e he => ?_, fun e he => ?_⟩, .inl ⟨rfl, ?_⟩⟩
    · rw [vals_delV]; exact nodup_del h.nd _
    · have := h.hn e (hsub.subset he); omega
    · have := h.mks e (hsub.subset he); exact ⟨by omega, this.2⟩
    · have h1 := del_len (m := vals V) (k := g) hs
      rw [← vals_delV, vals_len, vals_len] at h1; omega
  · obtain ⟨rfl, rfl⟩ := hM
    exact ⟨h.mono, .inr ⟨rfl, rfl⟩⟩
theorem put_len {κ α : Type} [DecidableEq κ] {m : List (κ × α)} {k : κ} {v : α} : (put m k v).length ≤ m.length + 1 := by
  induction m with
  | nil => simp [put]
  | cons x r ih =>
    obtain ⟨a, u⟩ := x
    simp only [put]; split
    · simp
    · simp; omega
theorem put_mem {κ α : Type} [DecidableEq κ] {m : List (κ × α)} {k : κ} {v : α} {x : κ × α} (h : x ∈ put m k v) : x = (k, v) ∨ x ∈ m := by
  induction m with
  | nil => simp [put] at h; exact .inl h
  | cons y r ih =>
    obtain ⟨a, u⟩ := y
    simp only [put] at h
    split at h
    · rename_i e; subst e
      rcases List.mem_cons.1 h with rfl | h
      · exact .inl rfl
      · exact .inr (.tail _ h)
    · rcases List.mem_cons.1 h with rfl | h
      · exact .inr (.head _)
      · rcases ih h with h | h
        · exact .inl h
        · exact .inr (.tail _ h)
theorem fineM_id {id : Int} {m : Mark} (h : fineM id m = true) : 0 ≤ id ∧ id ≤ 65535 := by
  unfold fineM at h
  simp only [Bool.and_eq_true, decide_eq_true_eq] at h
  omega
theorem PoolOk.mark {k : Nat} {V V' : VT23} {g id er : Int} {m : Mark} (h : PoolOk k V) (hM : MarkR V g id m V' er) : PoolOk (k + 1) V' ∧ V'.length = V.length := by
  unfold MarkR at hM
  split at hM
  · obtain ⟨rfl, rfl⟩ := hM; exact ⟨h.mono, rfl⟩
  rename_i hf
  have hf' : fineM id m = true := by simpa using hf
  split at hM
  · obtain ⟨rfl, rfl⟩ := hM; exact ⟨h.mono, rfl⟩
  rename_i c hc
  obtain ⟨i, b, hi, rfl, rfl⟩ := hM
  have hi' := List.mem_of_getElem? hi
  refine ⟨⟨?_, by simp; have := h.len; omega, fun e he => ?_, fun e he => ?_⟩, by simp⟩
  · rw [vals_set h.nd hi]; exact nodup_put h.nd _ _
  · rcases List.mem_or_eq_of_mem_set he with he | rfl
    · have := h.hn e he; omega
    · have := h.hn _ hi'; simp only at this ⊢; omega
  · rcases List.mem_or_eq_of_mem_set he with he | rfl
    · exact ⟨by have := (h.mks e he).1; omega, (h.mks e he).2⟩
    · have h1 := h.mks _ hi'
      simp only at h1 ⊢
      refine ⟨by have := put_len (m := c) (k := id) (v := m); omega, fun x hx => ?_⟩
      rcases put_mem hx with rfl | hx
      · exact fineM_id hf'
      · exact h1.2 x hx
theorem PoolOk.look {k : Nat} {V : VT23} (h : PoolOk k V) (hk : k ≤ 1000) {g : Int} : ∀ m, look (vals V) g = some m → m.length ≤ 100000 ∧ ∀ x ∈ m, 0 ≤ x.1 ∧ x.1 ≤ 65536 := fun m hm => by
  have h1 := look_mem hm
  obtain ⟨e, he, e2⟩ := List.mem_map.1 h1
  have h2 := h.mks e he
  cases e2
  exact ⟨by omega, fun x hx => by have := h2.2 x hx; omega⟩
theorem keys_len {κ α : Type} {m : List (κ × α)} : (keys m).length = m.length := by simp [keys]
/-- Whether something lies beyond, told twice. -/
theorem bey_each {o : Option MarkM} {c : List Int} {id : Int} {mk : Mark} {is bd : Bool} {xs : List (Int × Mark)} (hB : BeyR o c id mk is) (hE : EachR o xs) (hb : bd = xs.any fun x => decide (x.2.clock > getC c x.1)) : is = bd := by
  obtain ⟨ks, hp, -, hf⟩ := hB
  obtain ⟨ls, lp, -, rfl⟩ := hE
  rw [List.any_map] at hb
  have h1 : bd = ks.any fun i => decide ((markAt (o.getD []) i).clock > getC c i) := by
    rw [hb]; exact (lp.trans hp.symm).any_eq
  rw [h1]
  cases q : ks.find? fun i => decide ((markAt (o.getD []) i).clock > getC c i) with
  | none =>
    rw [q] at hf
    rw [hf.2.2, eq_comm, List.any_eq_false]
    exact fun x hx => by simpa using List.find?_eq_none.1 q x hx
  | some i =>
    rw [q] at hf
    rw [hf.2.2, eq_comm, List.any_eq_true]
    exact ⟨i, List.mem_of_find?_eq_some q, by simpa using List.find?_some q⟩
theorem any_snoc {α : Type} {l : List α} {x : α} {p : α → Bool} : (l ++ [x]).any p = (l.any p || p x) := by simp

end Go.Proofs.Ytobbocpacacnhaa.L
