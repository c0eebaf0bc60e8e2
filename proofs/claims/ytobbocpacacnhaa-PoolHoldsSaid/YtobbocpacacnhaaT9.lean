/- Contracts, walked by program over the engine's laws. -/
import Derived.Test.YtobbocpacacnhaaProg
import Derived.Test.YtobbocpacacnhaaT8
import Derived.Test.YtobbocpacacnhaaE15
namespace Go.Proofs.Ytobbocpacacnhaa.L
open Go.RowKit

structure Act23 where
  what : Int
  h : Int
  id : Int
  m : Mark
deriving DecidableEq
def Act23.v (x : Act23) : Value := .agg #[.int .i64 x.what, .int .i64 x.h, .int .i64 x.id, .int .u64 x.m.clock, .int .i64 x.m.site.f, .int .i64 x.m.site.pc]
def enAct23 (x : Act23) : List Value := [.int .i64 x.what, .int .i64 x.h, .int .i64 x.id, .int .u64 x.m.clock, .int .i64 x.m.site.f, .int .i64 x.m.site.pc]
theorem elt_Act23 : Elt Try.prog 34 6 enAct23 := ⟨⟨Value.agg #[Value.int .i64 0, Value.int .i64 0, Value.int .i64 0, Value.int .u64 0, Value.int .i64 0, Value.int .i64 0], 48, by kernel_rfl, rfl, by decide⟩, by decide, fun _ => rfl, fun x u hu => List.all_eq_true.1 (show (enAct23 x).all (·.oneCell') = true from rfl) u hu⟩
def deAct23 : List Value → Act23
  | [.int _ a0, .int _ a1, .int _ a2, .int _ a3, .int _ a4, .int _ a5] => ⟨a0, a1, a2, ⟨a3, ⟨a4, a5⟩⟩⟩
  | _ => ⟨0, 0, 0, ⟨0, ⟨0, 0⟩⟩⟩
def wfAct23 (x : Act23) : Prop := (Lit.int .i64 x.what).wf = true ∧ (Lit.int .i64 x.h).wf = true ∧ (Lit.int .i64 x.id).wf = true ∧ (Lit.int .u64 x.m.clock).wf = true ∧ (Lit.int .i64 x.m.site.f).wf = true ∧ (Lit.int .i64 x.m.site.pc).wf = true ∧ True
theorem deAct23_ok (cs : List Value) (h : cksOk [.int .i64, .int .i64, .int .i64, .int .u64, .int .i64, .int .i64] cs) : enAct23 (deAct23 cs) = cs ∧ wfAct23 (deAct23 cs) := by
  have hl := cksOk_length h
  match cs, hl, h with
  | [c0, c1, c2, c3, c4, c5], _, ⟨⟨_, h0, w0⟩, ⟨_, h1, w1⟩, ⟨_, h2, w2⟩, ⟨_, h3, w3⟩, ⟨_, h4, w4⟩, ⟨_, h5, w5⟩, _⟩ =>
    subst h0 h1 h2 h3 h4 h5
    exact ⟨rfl, w0, w1, w2, w3, w4, w5, trivial⟩
theorem flatAct23 {v : Value} (h : cksOk [.int .i64, .int .i64, .int .i64, .int .u64, .int .i64, .int .i64] v.cells.toList) : ∃ x : Act23, v = x.v ∧ wfAct23 x := by
  have hl := cksOk_length h
  cases v with
  | agg a => exact ⟨deAct23 a.toList, by have := (deAct23_ok _ h).1; have h2 := congrArg List.toArray this; exact congrArg Value.agg (h2.symm), (deAct23_ok _ h).2⟩
  | _ => simp [Value.cells] at hl

theorem Act23.bounds {x : Act23} (h : wfAct23 x) : (-9223372036854775808 ≤ x.id ∧ x.id ≤ 9223372036854775807) ∧ (0 ≤ x.m.clock ∧ x.m.clock ≤ 18446744073709551615) := by
  obtain ⟨-, -, h1, h2, -⟩ := h
  simp [Lit.wf] at h1 h2
  have e1 : IntKind.i64.min = -9223372036854775808 := by decide
  have e2 : IntKind.i64.max = 9223372036854775807 := by decide
  have e3 : IntKind.u64.min = 0 := by decide
  have e4 : IntKind.u64.max = 18446744073709551615 := by decide
  omega
theorem each_none {pre : List (Int × Mark)} {x : Int × Mark} (hc : Comes (EachR none) pre x) : False := by
  obtain ⟨xs, ⟨ks, hp, -, rfl⟩, t, ht⟩ := hc
  obtain rfl : ks = [] := hp.eq_nil
  simp at ht
/-- How a pool stands, k calls having been made. -/
structure PoolOk (k : Nat) (V : VT23) : Prop where
  nd : (keys (vals V)).Nodup
  len : V.length ≤ k
  hn : ∀ e ∈ V, 1 ≤ e.1 ∧ e.1 ≤ k
  mks : ∀ e ∈ V, e.2.2.length ≤ k ∧ ∀ x ∈ e.2.2, 0 ≤ x.1 ∧ x.1 ≤ 65535
theorem PoolOk.start : PoolOk 0 [] := ⟨by simp [vals, keys], by simp, by simp, by simp⟩
theorem PoolOk.mono {k : Nat} {V : VT23} (h : PoolOk k V) : PoolOk (k + 1) V := ⟨h.nd, by have := h.len; omega, fun e he => by have := h.hn e he; omega, fun e he => ⟨by have := (h.mks e he).1; omega, (h.mks e he).2⟩⟩
theorem PoolOk.make {k : Nat} {V V' : VT23} {g : Int} (h : PoolOk k V) (hM : MakeR V g V') : PoolOk (k + 1) V' ∧ V'.length = V.length + 1 := by
  obtain ⟨h1, h2, h3, -, b, rfl⟩ := hM
  have hl := h.len
  refine ⟨⟨?_, by simp; omega, fun e he => ?_, fun e he => ?_⟩, by simp⟩
  · rw [vals_snoc, ← put_end h3]; exact nodup_put h.nd _ _
  · rcases List.mem_append.1 he with he | he
    · have := h.hn e he; omega
    · simp at he; subst he; simp only; omega
  · rcases List.mem_append.1 he with he | he
    · exact ⟨by have := (h.mks e he).1; omega, (h.mks e he).2⟩
    · simp at he; subst he; simp
theorem del_len {α : Type} {m : List (Int × α)} {k : Int} (hs : (look m k).isSome = true) : ((del m k).length : Int) = m.length - 1 := by
  induction m with
  | nil => cases hs
  | cons x r ih =>
    obtain ⟨a, u⟩ := x
    simp only [look, del] at hs ⊢
    by_cases e : a = k
    · rw [if_pos e]; simp
    · rw [if_neg e] at hs ⊢; have := ih hs; simp; omega
theorem PoolOk.free {k : Nat} {V V' : VT23} {g er : Int} (h : PoolOk k V) (hM : FreeR V g V' er) : PoolOk (k + 1) V' ∧ ((er = 0 ∧ (V'.length : Int) = V.length - 1) ∨ (er = 5 ∧ V'.length = V.length)) := by
  unfold FreeR at hM
  split at hM
  · rename_i hs
    obtain ⟨rfl, rfl⟩ := hM
    have hsub := delV_sub (V := V) (k := g)
    refine ⟨⟨?_, by have := hsub.length_le; have := h.len; omega, fun e he => ?_, fun e he => ?_⟩, .inl ⟨rfl, ?_⟩⟩
    · rw [vals_delV]; exact nodup_del h.nd _
    · have := h.hn e (hsub.subset he); omega
    · have := h.mks e (hsub.subset he); exact ⟨by omega, this.2⟩
    · have h1 := del_len (m := vals V) (k := g) hs
      rw [← vals_delV, vals_len, vals_len] at h1; omega
  · obtain ⟨rfl, rfl⟩ := hM
    exact ⟨h.mono, .inr ⟨rfl, rfl⟩⟩
theorem put_len {κ α : Type} [DecidableEq κ] {m : List (κ × α)} {k : κ} {v : α} : (put m k v).length ≤ m.length + 1 := by
  induction m with
  | nil => simp [put]
  | cons x r ih =>
    obtain ⟨a, u⟩ := x
    simp only [put]; split
    · simp
    · simp; omega
theorem put_mem {κ α : Type} [DecidableEq κ] {m : List (κ × α)} {k : κ} {v : α} {x : κ × α} (h : x ∈ put m k v) : x = (k, v) ∨ x ∈ m := by
  induction m with
  | nil => simp [put] at h; exact .inl h
  | cons y r ih =>
    obtain ⟨a, u⟩ := y
    simp only [put] at h
    split at h
    · rename_i e; subst e
      rcases List.mem_cons.1 h with rfl | h
      · exact .inl rfl
      · exact .inr (.tail _ h)
    · rcases List.mem_cons.1 h with rfl | h
      · exact .inr (.head _)
      · rcases ih h with h | h
        · exact .inl h
        · exact .inr (.tail _ h)
theorem fineM_id {id : Int} {m : Mark} (h : fineM id m = true) : 0 ≤ id ∧ id ≤ 65535 := by
  unfold fineM at h
  simp only [Bool.and_eq_true, decide_eq_true_eq] at h
  omega
theorem PoolOk.mark {k : Nat} {V V' : VT23} {g id er : Int} {m : Mark} (h : PoolOk k V) (hM : MarkR V g id m V' er) : PoolOk (k + 1) V' ∧ V'.length = V.length := by
  unfold MarkR at hM
  split at hM
  · obtain ⟨rfl, rfl⟩ := hM; exact ⟨h.mono, rfl⟩
  rename_i hf
  have hf' : fineM id m = true := by simpa using hf
  split at hM
  · obtain ⟨rfl, rfl⟩ := hM; exact ⟨h.mono, rfl⟩
  rename_i c hc
  obtain ⟨i, b, hi, rfl, rfl⟩ := hM
  have hi' := List.mem_of_getElem? hi
  refine ⟨⟨?_, by simp; have := h.len; omega, fun e he => ?_, fun e he => ?_⟩, by simp⟩
  · rw [vals_set h.nd hi]; exact nodup_put h.nd _ _
  · rcases List.mem_or_eq_of_mem_set he with he | rfl
    · have := h.hn e he; omega
    · have := h.hn _ hi'; simp only at this ⊢; omega
  · rcases List.mem_or_eq_of_mem_set he with he | rfl
    · exact ⟨by have := (h.mks e he).1; omega, (h.mks e he).2⟩
    · have h1 := h.mks _ hi'
      simp only at h1 ⊢
      refine ⟨by have := put_len (m := c) (k := id) (v := m); omega, fun x hx => ?_⟩
      rcases put_mem hx with rfl | hx
      · exact fineM_id hf'
      · exact h1.2 x hx
theorem PoolOk.look {k : Nat} {V : VT23} (h : PoolOk k V) (hk : k ≤ 1000) {g : Int} : ∀ m, look (vals V) g = some m → m.length ≤ 100000 ∧ ∀ x ∈ m, 0 ≤ x.1 ∧ x.1 ≤ 65536 := fun m hm => by
  have h1 := look_mem hm
  obtain ⟨e, he, e2⟩ := List.mem_map.1 h1
  have h2 := h.mks e he
  cases e2
  exact ⟨by omega, fun x hx => by have := h2.2 x hx; omega⟩
theorem keys_len {κ α : Type} {m : List (κ × α)} : (keys m).length = m.length := by simp [keys]
/-- Whether something lies beyond, told twice. -/
theorem bey_each {o : Option MarkM} {c : List Int} {id : Int} {mk : Mark} {is bd : Bool} {xs : List (Int × Mark)} (hB : BeyR o c id mk is) (hE : EachR o xs) (hb : bd = xs.any fun x => decide (x.2.clock > getC c x.1)) : is = bd := by
  obtain ⟨ks, hp, -, hf⟩ := hB
  obtain ⟨ls, lp, -, rfl⟩ := hE
  rw [List.any_map] at hb
  have h1 : bd = ks.any fun i => decide ((markAt (o.getD []) i).clock > getC c i) := by
    rw [hb]; exact (lp.trans hp.symm).any_eq
  rw [h1]
  cases q : ks.find? fun i => decide ((markAt (o.getD []) i).clock > getC c i) with
  | none =>
    rw [q] at hf
    rw [hf.2.2, eq_comm, List.any_eq_false]
    exact fun x hx => by simpa using List.find?_eq_none.1 q x hx
  | some i =>
    rw [q] at hf
    rw [hf.2.2, eq_comm, List.any_eq_true]
    exact ⟨i, List.mem_of_find?_eq_some q, by simpa using List.find?_some q⟩
theorem any_snoc {α : Type} {l : List α} {x : α} {p : α → Bool} : (l ++ [x]).any p = (l.any p || p x) := by simp
set_option maxRecDepth 100000 in
theorem e_poolNone (x : Act23) (zero : Bool) (w : World) (hx : wfAct23 x) : Calls Try.prog 6 #[x.v, Value.bool zero] w (fun e w' => e = .returned (Value.bool true) ∧ Fr No w w') := by
 have _hu := hx; clear _hu
 refine enter_F 103 Try.func6 rfl rfl (by kernel_rfl) (L := [(0, x.v), (1, Value.bool zero)]) (by kernel_rfl) ?_
 intro ac hA
 have hW := Ws.start w No
 refine wpIn_seq ?_
 refine wpIn_region_lit ?_
 refine stF hA (by kernel_rfl) (by kernel_rfl) (by kernel_rfl) (by kernel_rfl) (RunsF.of (Runs.cells (fun b => Value.pointer (some ⟨b, 0, none⟩)) #[Value.int .i64 x.what, Value.int .i64 x.h, Value.int .i64 x.id, Value.int .u64 x.m.clock, Value.int .i64 x.m.site.f, Value.int .i64 x.m.site.pc] 34 (fun _ => by kernel_rfl) hW ?_)); clear hA ac hW; intro b1 w2 hW hb1 hfw2 ac hA
 refine stF hA (by kernel_rfl) (by kernel_rfl) (by kernel_rfl) (by kernel_rfl) (RunsF.of (Runs.cells (fun b => Value.pointer (some ⟨b, 0, none⟩)) #[Value.bool false] 4 (fun _ => by kernel_rfl) hW ?_)); clear hA ac hW; intro b3 w4 hW hb3 hfw4 ac hA
 refine wpListIn_nil ?_
 refine thenN ?_
 refine wpIn_seq ?_
 refine wpIn_region_lit ?_
 refine st_rdF (v := Value.pointer none) hA (by kernel_rfl) (by kernel_rfl) (by kernel_rfl) (by kernel_rfl) hW.cls (Rd.pure fun _ => by kernel_rfl) ?_; clear hA ac; intro ac hA
 refine wpListIn_nil ?_
 refine thenN ?_
 refine wpIn_seq ?_
 refine wpIn_seq ?_
 refine wpIn_region_lit ?_
 refine st_rdF (v := Value.bool zero) hA (by kernel_rfl) (by kernel_rfl) (by kernel_rfl) (by kernel_rfl) hW.cls (Rd.pure fun _ => by kernel_rfl) ?_; clear hA ac; intro ac hA
 refine wpListIn_nil ?_
 refine thenN ?_
 refine wpIn_cond_split (t := zero) (hA.eval (by kernel_rfl)) (fun h5 => ?_) (fun h5 => ?_)
 · skip
   first
   | (exfalso; clear hA hW; omega)
   | (
     refine wpIn_region_lit ?_
     refine st_rdF (v := Value.agg #[Value.map none]) hA (by kernel_rfl) (by kernel_rfl) (by kernel_rfl) (by kernel_rfl) hW.cls (Rd.pure fun _ => by kernel_rfl) ?_; clear hA ac; intro ac hA
     refine stF hA (by kernel_rfl) (by kernel_rfl) (by kernel_rfl) (by kernel_rfl) (RunsF.of (Runs.cells (fun b => Value.pointer (some ⟨b, 0, none⟩)) #[Value.map none] 62 (fun _ => by kernel_rfl) hW ?_)); clear hA ac hW; intro b6 w7 hW hb6 hfw7 ac hA
     refine st_rdF (v := Value.pointer (some ⟨b6, 0, none⟩)) hA (by kernel_rfl) (by kernel_rfl) (by kernel_rfl) (by kernel_rfl) hW.cls (Rd.pure fun _ => by kernel_rfl) ?_; clear hA ac; intro ac hA
     refine wpListIn_nil ?_
     refine thenN ?_
     refine wpIn_seq ?_
     refine wpIn_region_lit ?_
     refine st_rdF (v := Value.pointer (some ⟨b6, 0, none⟩)) hA (by kernel_rfl) (by kernel_rfl) (by kernel_rfl) (by kernel_rfl) hW.cls (Rd.pure fun _ => by kernel_rfl) ?_; clear hA ac; intro ac hA
     refine stF hA (by kernel_rfl) (by kernel_rfl) (by kernel_rfl) (by kernel_rfl) (RunsF.of (Runs.callN (v := Value.tuple #[Value.int .i64 0, Value.int .i64 1]) (fun _ => by kernel_rfl) hW (e_make_z b6 w7 ((hW).cel 0 rfl)) ?_)); clear hA ac hW; intro w8 hW hfw8 ac hA
     refine st_rdF (v := Value.tuple #[Value.int .i64 0, Value.int .i64 1]) hA (by kernel_rfl) (by kernel_rfl) (by kernel_rfl) (by kernel_rfl) hW.cls (Rd.pure fun _ => by kernel_rfl) ?_; clear hA ac; intro ac hA
     refine st_rdF (v := Value.int .i64 0) hA (by kernel_rfl) (by kernel_rfl) (by kernel_rfl) (by kernel_rfl) hW.cls (Rd.pure fun _ => by kernel_rfl) ?_; clear hA ac; intro ac hA
     refine st_rdF (v := Value.int .i64 1) hA (by kernel_rfl) (by kernel_rfl) (by kernel_rfl) (by kernel_rfl) hW.cls (Rd.pure fun _ => by kernel_rfl) ?_; clear hA ac; intro ac hA
     refine st_rdF (v := Value.int .i64 0) hA (by kernel_rfl) (by kernel_rfl) (by kernel_rfl) (by kernel_rfl) hW.cls (Rd.pure fun _ => by kernel_rfl) ?_; clear hA ac; intro ac hA
     refine st_rdF (v := Value.int .i64 1) hA (by kernel_rfl) (by kernel_rfl) (by kernel_rfl) (by kernel_rfl) hW.cls (Rd.pure fun _ => by kernel_rfl) ?_; clear hA ac; intro ac hA
     refine wpListIn_nil ?_
     refine thenN ?_
     refine wpIn_seq ?_
     refine wpIn_region_lit ?_
     refine st_rdF (v := Value.pointer (some ⟨b6, 0, none⟩)) hA (by kernel_rfl) (by kernel_rfl) (by kernel_rfl) (by kernel_rfl) hW.cls (Rd.pure fun _ => by kernel_rfl) ?_; clear hA ac; intro ac hA
     refine st_rdF (v := Value.pointer (some ⟨b1, 1, none⟩)) hA (by kernel_rfl) (by kernel_rfl) (by kernel_rfl) (by kernel_rfl) hW.cls (Rd.pure fun _ => by kernel_rfl) ?_; clear hA ac; intro ac hA
     refine st_rdF (v := Value.int .i64 x.h) hA (by kernel_rfl) (by kernel_rfl) (by kernel_rfl) (by kernel_rfl) hW.cls (Rd.load (b := b1) (i := 1) (by kernel_rfl) (fun _ hw => (hw.1).cel 2 rfl) (by kernel_rfl)) ?_; clear hA ac; intro ac hA
     refine st_rdF (v := Value.pointer (some ⟨b1, 2, none⟩)) hA (by kernel_rfl) (by kernel_rfl) (by kernel_rfl) (by kernel_rfl) hW.cls (Rd.pure fun _ => by kernel_rfl) ?_; clear hA ac; intro ac hA
     refine st_rdF (v := Value.int .i64 x.id) hA (by kernel_rfl) (by kernel_rfl) (by kernel_rfl) (by kernel_rfl) hW.cls (Rd.load (b := b1) (i := 2) (by kernel_rfl) (fun _ hw => (hw.1).cel 2 rfl) (by kernel_rfl)) ?_; clear hA ac; intro ac hA
     refine stF hA (by kernel_rfl) (by kernel_rfl) (by kernel_rfl) (by kernel_rfl) (RunsF.of (Runs.callN (v := Value.tuple #[(⟨0, ⟨0, 0⟩⟩ : Mark).v, Value.bool false]) (fun _ => by kernel_rfl) hW (e_get_z b6 (x.h) (x.id) w8 ((hW).cel 0 rfl)) ?_)); clear hA ac hW; intro w9 hW hfw9 ac hA
     refine st_rdF (v := Value.tuple #[(⟨0, ⟨0, 0⟩⟩ : Mark).v, Value.bool false]) hA (by kernel_rfl) (by kernel_rfl) (by kernel_rfl) (by kernel_rfl) hW.cls (Rd.pure fun _ => by kernel_rfl) ?_; clear hA ac; intro ac hA
     refine st_rdF (v := (⟨0, ⟨0, 0⟩⟩ : Mark).v) hA (by kernel_rfl) (by kernel_rfl) (by kernel_rfl) (by kernel_rfl) hW.cls (Rd.pure fun _ => by kernel_rfl) ?_; clear hA ac; intro ac hA
     refine st_rdF (v := Value.bool false) hA (by kernel_rfl) (by kernel_rfl) (by kernel_rfl) (by kernel_rfl) hW.cls (Rd.pure fun _ => by kernel_rfl) ?_; clear hA ac; intro ac hA
     refine stF hA (by kernel_rfl) (by kernel_rfl) (by kernel_rfl) (by kernel_rfl) (RunsF.of (Runs.cells (fun b => Value.pointer (some ⟨b, 0, none⟩)) #[Value.int .u64 0, Value.int .i64 0, Value.int .i64 0] 32 (fun _ => by kernel_rfl) hW ?_)); clear hA ac hW; intro b10 w11 hW hb10 hfw11 ac hA
     refine stF hA (by kernel_rfl) (by kernel_rfl) (by kernel_rfl) (by kernel_rfl) (RunsF.of (Runs.store (v := (⟨0, ⟨0, 0⟩⟩ : Mark).v) (b := b10) (j := 0) (n := 3) (cs' := #[Value.int .u64 (⟨0, ⟨0, 0⟩⟩ : Mark).clock, Value.int .i64 (⟨0, ⟨0, 0⟩⟩ : Mark).site.f, Value.int .i64 (⟨0, ⟨0, 0⟩⟩ : Mark).site.pc]) (H' := [Cel b10 #[Value.int .u64 (⟨0, ⟨0, 0⟩⟩ : Mark).clock, Value.int .i64 (⟨0, ⟨0, 0⟩⟩ : Mark).site.f, Value.int .i64 (⟨0, ⟨0, 0⟩⟩ : Mark).site.pc] 32, Cel b6 #[Value.map none] 62, Cel b3 #[Value.bool false] 4, Cel b1 #[Value.int .i64 x.what, Value.int .i64 x.h, Value.int .i64 x.id, Value.int .u64 x.m.clock, Value.int .i64 x.m.site.f, Value.int .i64 x.m.site.pc] 34]) (by kernel_rfl) (by kernel_rfl) (by kernel_rfl) (by kernel_rfl) (by kernel_rfl) hW 0 (by rfl) (Nat.le_of_ble_eq_true (by kernel_rfl)) (by kernel_rfl) (by rfl) ?_)); clear hA ac hW; intro w12 hW ac hA
     refine st_rdF (v := Value.bool false) hA (by kernel_rfl) (by kernel_rfl) (by kernel_rfl) (by kernel_rfl) hW.cls (Rd.pure fun _ => by kernel_rfl) ?_; clear hA ac; intro ac hA
     refine wpListIn_nil ?_
     refine thenN ?_
     refine wpIn_seq ?_
     refine wpIn_region_lit ?_
     refine st_rdF (v := Value.pointer (some ⟨b6, 0, none⟩)) hA (by kernel_rfl) (by kernel_rfl) (by kernel_rfl) (by kernel_rfl) hW.cls (Rd.pure fun _ => by kernel_rfl) ?_; clear hA ac; intro ac hA
     refine st_rdF (v := Value.pointer (some ⟨b1, 1, none⟩)) hA (by kernel_rfl) (by kernel_rfl) (by kernel_rfl) (by kernel_rfl) hW.cls (Rd.pure fun _ => by kernel_rfl) ?_; clear hA ac; intro ac hA
     refine st_rdF (v := Value.int .i64 x.h) hA (by kernel_rfl) (by kernel_rfl) (by kernel_rfl) (by kernel_rfl) hW.cls (Rd.load (b := b1) (i := 1) (by kernel_rfl) (fun _ hw => (hw.1).cel 3 rfl) (by kernel_rfl)) ?_; clear hA ac; intro ac hA
     refine stF hA (by kernel_rfl) (by kernel_rfl) (by kernel_rfl) (by kernel_rfl) (RunsF.of (Runs.callN (v := Value.tuple #[Value.int .i64 0, (⟨0, ⟨0, 0⟩⟩ : Mark).v, Value.bool false]) (fun _ => by kernel_rfl) hW (e_beyond_z b6 (x.h) none 0 ([] : List Int) w12 ((hW).cel 1 rfl) (RowAt.nil' _ _) (by first | assumption | omega | (simp; omega) | simp) (by first | exact (Act23.bounds hx).1 | exact (Act23.bounds hx).2 | omega | simp)) ?_)); clear hA ac hW; intro w13 hW hfw13 ac hA
     refine st_rdF (v := Value.tuple #[Value.int .i64 0, (⟨0, ⟨0, 0⟩⟩ : Mark).v, Value.bool false]) hA (by kernel_rfl) (by kernel_rfl) (by kernel_rfl) (by kernel_rfl) hW.cls (Rd.pure fun _ => by kernel_rfl) ?_; clear hA ac; intro ac hA
     refine st_rdF (v := Value.int .i64 0) hA (by kernel_rfl) (by kernel_rfl) (by kernel_rfl) (by kernel_rfl) hW.cls (Rd.pure fun _ => by kernel_rfl) ?_; clear hA ac; intro ac hA
     refine st_rdF (v := (⟨0, ⟨0, 0⟩⟩ : Mark).v) hA (by kernel_rfl) (by kernel_rfl) (by kernel_rfl) (by kernel_rfl) hW.cls (Rd.pure fun _ => by kernel_rfl) ?_; clear hA ac; intro ac hA
     refine st_rdF (v := Value.bool false) hA (by kernel_rfl) (by kernel_rfl) (by kernel_rfl) (by kernel_rfl) hW.cls (Rd.pure fun _ => by kernel_rfl) ?_; clear hA ac; intro ac hA
     refine stF hA (by kernel_rfl) (by kernel_rfl) (by kernel_rfl) (by kernel_rfl) (RunsF.of (Runs.cells (fun b => Value.pointer (some ⟨b, 0, none⟩)) #[Value.int .u64 0, Value.int .i64 0, Value.int .i64 0] 32 (fun _ => by kernel_rfl) hW ?_)); clear hA ac hW; intro b14 w15 hW hb14 hfw15 ac hA
     refine st_rdF (v := Value.int .i64 0) hA (by kernel_rfl) (by kernel_rfl) (by kernel_rfl) (by kernel_rfl) hW.cls (Rd.pure fun _ => by kernel_rfl) ?_; clear hA ac; intro ac hA
     refine stF hA (by kernel_rfl) (by kernel_rfl) (by kernel_rfl) (by kernel_rfl) (RunsF.of (Runs.store (v := (⟨0, ⟨0, 0⟩⟩ : Mark).v) (b := b14) (j := 0) (n := 3) (cs' := #[Value.int .u64 (⟨0, ⟨0, 0⟩⟩ : Mark).clock, Value.int .i64 (⟨0, ⟨0, 0⟩⟩ : Mark).site.f, Value.int .i64 (⟨0, ⟨0, 0⟩⟩ : Mark).site.pc]) (H' := [Cel b14 #[Value.int .u64 (⟨0, ⟨0, 0⟩⟩ : Mark).clock, Value.int .i64 (⟨0, ⟨0, 0⟩⟩ : Mark).site.f, Value.int .i64 (⟨0, ⟨0, 0⟩⟩ : Mark).site.pc] 32, Cel b10 #[Value.int .u64 (⟨0, ⟨0, 0⟩⟩ : Mark).clock, Value.int .i64 (⟨0, ⟨0, 0⟩⟩ : Mark).site.f, Value.int .i64 (⟨0, ⟨0, 0⟩⟩ : Mark).site.pc] 32, Cel b6 #[Value.map none] 62, Cel b3 #[Value.bool false] 4, Cel b1 #[Value.int .i64 x.what, Value.int .i64 x.h, Value.int .i64 x.id, Value.int .u64 x.m.clock, Value.int .i64 x.m.site.f, Value.int .i64 x.m.site.pc] 34]) (by kernel_rfl) (by kernel_rfl) (by kernel_rfl) (by kernel_rfl) (by kernel_rfl) hW 0 (by rfl) (Nat.le_of_ble_eq_true (by kernel_rfl)) (by kernel_rfl) (by rfl) ?_)); clear hA ac hW; intro w16 hW ac hA
     refine st_rdF (v := Value.bool false) hA (by kernel_rfl) (by kernel_rfl) (by kernel_rfl) (by kernel_rfl) hW.cls (Rd.pure fun _ => by kernel_rfl) ?_; clear hA ac; intro ac hA
     refine wpListIn_nil ?_
     refine thenN ?_
     refine wpIn_seq ?_
     refine wpIn_region_lit ?_
     refine st_rdF (v := Value.pointer (some ⟨b6, 0, none⟩)) hA (by kernel_rfl) (by kernel_rfl) (by kernel_rfl) (by kernel_rfl) hW.cls (Rd.pure fun _ => by kernel_rfl) ?_; clear hA ac; intro ac hA
     refine st_rdF (v := Value.pointer (some ⟨b1, 1, none⟩)) hA (by kernel_rfl) (by kernel_rfl) (by kernel_rfl) (by kernel_rfl) hW.cls (Rd.pure fun _ => by kernel_rfl) ?_; clear hA ac; intro ac hA
     refine st_rdF (v := Value.int .i64 x.h) hA (by kernel_rfl) (by kernel_rfl) (by kernel_rfl) (by kernel_rfl) hW.cls (Rd.load (b := b1) (i := 1) (by kernel_rfl) (fun _ hw => (hw.1).cel 4 rfl) (by kernel_rfl)) ?_; clear hA ac; intro ac hA
     refine stF hA (by kernel_rfl) (by kernel_rfl) (by kernel_rfl) (by kernel_rfl) (RunsF.of (Runs.call (fun _ => by kernel_rfl) (e_each_z b6 (x.h) w16 ((hW).cel 2 rfl)) ?_))
     rintro _ w17 ⟨lb18, g19, rfl, hIg19, hfg19, hfw17⟩; refine ⟨_, rfl, ?_⟩; have hW0 := hW; have hW := hW0.call hfw17; have hW := hW0.addFromAt hW hfg19 in_nil; clear hW0 hA ac; intro ac hA
     refine st_rdF (v := Value.func (.func 31) #[] lb18) hA (by kernel_rfl) (by kernel_rfl) (by kernel_rfl) (by kernel_rfl) hW.cls (Rd.pure fun _ => by kernel_rfl) ?_; clear hA ac; intro ac hA
     refine wpListIn_nil ?_
     refine thenN ?_
     refine wpIn_seq ?_
     refine wpIn_seq ?_
     refine wpIn_region_lit ?_
     refine st_rdF (v := Value.func (.func 31) #[] lb18) hA (by kernel_rfl) (by kernel_rfl) (by kernel_rfl) (by kernel_rfl) hW.cls (Rd.pure fun _ => by kernel_rfl) ?_; clear hA ac; intro ac hA
     refine st_rdF (v := Value.bool false) hA (by kernel_rfl) (by kernel_rfl) (by kernel_rfl) (by kernel_rfl) hW.cls (Rd.pure fun _ => by kernel_rfl) ?_; clear hA ac; intro ac hA
     refine wpListIn_nil ?_
     refine thenN ?_
     refine wpIn_cond_false (hA.eval (by kernel_rfl)) ?_
     refine wpIn_skip ?_
     refine thenN ?_
     refine wpIn_seq ?_
     refine wpIn_seq ?_
     refine wpIn_region_lit ?_
     refine st_rdF (v := Value.func (.func 31) #[] lb18) hA (by kernel_rfl) (by kernel_rfl) (by kernel_rfl) (by kernel_rfl) hW.cls (Rd.pure fun _ => by kernel_rfl) ?_; clear hA ac; intro ac hA
     refine wpListIn_nil ?_
     refine thenN ?_
     refine wpIn_block ?_
     refine wp_range (encs := (fun x_ : Int × Mark => #[Value.int .i64 x_.1, x_.2.v])) (Sx := (EachR none)) hA (by kernel_rfl) (by kernel_rfl) (enters_of Try.func31 (by kernel_rfl) rfl) (by kernel_rfl) (fun _ => rfl) hIg19 (List.forall_mem_singleton.2 (List.mem_of_getElem? (i := 0) rfl)) (fun pre_ H_ => True ∧ H_ = []) (fun _ _ _ => False) (H := []) (K := [Cel b14 #[Value.int .u64 (⟨0, ⟨0, 0⟩⟩ : Mark).clock, Value.int .i64 (⟨0, ⟨0, 0⟩⟩ : Mark).site.f, Value.int .i64 (⟨0, ⟨0, 0⟩⟩ : Mark).site.pc] 32, Cel b10 #[Value.int .u64 (⟨0, ⟨0, 0⟩⟩ : Mark).clock, Value.int .i64 (⟨0, ⟨0, 0⟩⟩ : Mark).site.f, Value.int .i64 (⟨0, ⟨0, 0⟩⟩ : Mark).site.pc] 32, Cel b6 #[Value.map none] 62, Cel b3 #[Value.bool false] 4, Cel b1 #[Value.int .i64 x.what, Value.int .i64 x.h, Value.int .i64 x.id, Value.int .u64 x.m.clock, Value.int .i64 x.m.site.f, Value.int .i64 x.m.site.pc] 34]) (hW.pick [0, 1, 2, 3, 4] (by decide) rfl) ⟨trivial, rfl⟩ ?_ ?_ ?_
     · skip
       clear hA ac hW; intro l_20 rd_20 bs_20 pre_ x_ Hk_ w21 T_20 ac hrd_20 hbs_20 hbr_20 hok_ hJ_ hA hW hB_20 hT_20
       obtain ⟨_, rfl⟩ := hJ_
       replace hA : Fm 103 [] [(0, x.v), (1, Value.bool zero), (2, Value.pointer (some ⟨b1, 0, none⟩)), (4, Value.pointer (some ⟨b3, 0, none⟩)), (5, Value.pointer (some ⟨b6, 0, none⟩)), (6, Value.int .i64 0), (7, Value.int .i64 1), (8, Value.pointer (some ⟨b10, 0, none⟩)), (9, Value.bool false), (10, Value.int .i64 0), (11, Value.pointer (some ⟨b14, 0, none⟩)), (12, Value.bool false), (13, Value.func (.func 31) #[] lb18), (14, Value.bool zero), (15, Value.agg #[Value.map none]), (16, Value.pointer (some ⟨b6, 0, none⟩)), (17, Value.tuple #[Value.int .i64 0, Value.int .i64 1]), (18, Value.pointer (some ⟨b6, 0, none⟩)), (19, Value.tuple #[Value.int .i64 0, Value.int .i64 1]), (20, Value.int .i64 0), (21, Value.int .i64 1), (22, Value.tuple #[(⟨0, ⟨0, 0⟩⟩ : Mark).v, Value.bool false]), (23, Value.pointer (some ⟨b6, 0, none⟩)), (24, Value.pointer (some ⟨b1, 1, none⟩)), (25, Value.int .i64 x.h), (26, Value.pointer (some ⟨b1, 2, none⟩)), (27, Value.int .i64 x.id), (28, Value.tuple #[(⟨0, ⟨0, 0⟩⟩ : Mark).v, Value.bool false]), (29, (⟨0, ⟨0, 0⟩⟩ : Mark).v), (30, Value.bool false), (31, Value.tuple #[Value.int .i64 0, (⟨0, ⟨0, 0⟩⟩ : Mark).v, Value.bool false]), (32, Value.pointer (some ⟨b6, 0, none⟩)), (33, Value.pointer (some ⟨b1, 1, none⟩)), (34, Value.int .i64 x.h), (35, Value.tuple #[Value.int .i64 0, (⟨0, ⟨0, 0⟩⟩ : Mark).v, Value.bool false]), (36, Value.int .i64 0), (37, (⟨0, ⟨0, 0⟩⟩ : Mark).v), (38, Value.bool false), (39, Value.pointer (some ⟨b6, 0, none⟩)), (40, Value.pointer (some ⟨b1, 1, none⟩)), (41, Value.int .i64 x.h), (42, Value.func (.func 31) #[] lb18), (43, Value.func (.func 31) #[] lb18), (44, Value.bool false), (45, Value.func (.func 31) #[] lb18), (46, Value.int .i64 x_.1), (47, x_.2.v)] ac := hA.sub ⟨⟨by kernel_rfl, by kernel_rfl⟩, ⟨by kernel_rfl, by kernel_rfl⟩, ⟨by kernel_rfl, by kernel_rfl⟩, ⟨by kernel_rfl, by kernel_rfl⟩, ⟨by kernel_rfl, by kernel_rfl⟩, ⟨by kernel_rfl, by kernel_rfl⟩, ⟨by kernel_rfl, by kernel_rfl⟩, ⟨by kernel_rfl, by kernel_rfl⟩, ⟨by kernel_rfl, by kernel_rfl⟩, ⟨by kernel_rfl, by kernel_rfl⟩, ⟨by kernel_rfl, by kernel_rfl⟩, ⟨by kernel_rfl, by kernel_rfl⟩, ⟨by kernel_rfl, by kernel_rfl⟩, ⟨by kernel_rfl, by kernel_rfl⟩, ⟨by kernel_rfl, by kernel_rfl⟩, ⟨by kernel_rfl, by kernel_rfl⟩, ⟨by kernel_rfl, by kernel_rfl⟩, ⟨by kernel_rfl, by kernel_rfl⟩, ⟨by kernel_rfl, by kernel_rfl⟩, ⟨by kernel_rfl, by kernel_rfl⟩, ⟨by kernel_rfl, by kernel_rfl⟩, ⟨by kernel_rfl, by kernel_rfl⟩, ⟨by kernel_rfl, by kernel_rfl⟩, ⟨by kernel_rfl, by kernel_rfl⟩, ⟨by kernel_rfl, by kernel_rfl⟩, ⟨by kernel_rfl, by kernel_rfl⟩, ⟨by kernel_rfl, by kernel_rfl⟩, ⟨by kernel_rfl, by kernel_rfl⟩, ⟨by kernel_rfl, by kernel_rfl⟩, ⟨by kernel_rfl, by kernel_rfl⟩, ⟨by kernel_rfl, by kernel_rfl⟩, ⟨by kernel_rfl, by kernel_rfl⟩, ⟨by kernel_rfl, by kernel_rfl⟩, ⟨by kernel_rfl, by kernel_rfl⟩, ⟨by kernel_rfl, by kernel_rfl⟩, ⟨by kernel_rfl, by kernel_rfl⟩, ⟨by kernel_rfl, by kernel_rfl⟩, ⟨by kernel_rfl, by kernel_rfl⟩, ⟨by kernel_rfl, by kernel_rfl⟩, ⟨by kernel_rfl, by kernel_rfl⟩, ⟨by kernel_rfl, by kernel_rfl⟩, ⟨by kernel_rfl, by kernel_rfl⟩, ⟨by kernel_rfl, by kernel_rfl⟩, ⟨by kernel_rfl, by kernel_rfl⟩, ⟨by kernel_rfl, by kernel_rfl⟩, ⟨by kernel_rfl, by kernel_rfl⟩, ⟨by kernel_rfl, by kernel_rfl⟩, trivial⟩
       exact (each_none hok_).elim
     · skip
       clear hA ac hW; intro D22 xs_ Hk_ w23 ac hS_ hJ_ hA hW
       obtain ⟨_, rfl⟩ := hJ_
       replace hW : Ws w No [DefR D22, Cel b14 #[Value.int .u64 (⟨0, ⟨0, 0⟩⟩ : Mark).clock, Value.int .i64 (⟨0, ⟨0, 0⟩⟩ : Mark).site.f, Value.int .i64 (⟨0, ⟨0, 0⟩⟩ : Mark).site.pc] 32, Cel b10 #[Value.int .u64 (⟨0, ⟨0, 0⟩⟩ : Mark).clock, Value.int .i64 (⟨0, ⟨0, 0⟩⟩ : Mark).site.f, Value.int .i64 (⟨0, ⟨0, 0⟩⟩ : Mark).site.pc] 32, Cel b6 #[Value.map none] 62, Cel b3 #[Value.bool false] 4, Cel b1 #[Value.int .i64 x.what, Value.int .i64 x.h, Value.int .i64 x.id, Value.int .u64 x.m.clock, Value.int .i64 x.m.site.f, Value.int .i64 x.m.site.pc] 34] [g19] w23 := hW
       refine blkN ?_
       refine thenN ?_
       refine wpIn_seq ?_
       refine wpIn_region_lit ?_
       refine st_rdF (v := Value.int .i64 1) hA (by kernel_rfl) (by kernel_rfl) (by kernel_rfl) (by kernel_rfl) hW.cls (Rd.pure fun _ => by kernel_rfl) ?_; clear hA ac; intro ac hA
       refine stF hA (by kernel_rfl) (by kernel_rfl) (by kernel_rfl) (by kernel_rfl) (RunsF.of (Runs.callS (v := Value.int .i64 (1)) (fun _ => by kernel_rfl) (e_num23 (1) w23) ?_)); clear hA ac; intro  ac hA
       refine st_rdF (v := Value.bool (((1) : Int) == (1 : Int))) hA (by kernel_rfl) (by kernel_rfl) (by kernel_rfl) (by kernel_rfl) hW.cls (Rd.pure fun _ => by kernel_rfl) ?_; clear hA ac; intro ac hA
       refine st_rdF (v := Value.bool (((1) : Int) == (1 : Int))) hA (by kernel_rfl) (by kernel_rfl) (by kernel_rfl) (by kernel_rfl) hW.cls (Rd.pure fun _ => by kernel_rfl) ?_; clear hA ac; intro ac hA
       rcases Bool.eq_false_or_eq_true (((1) : Int) == (1 : Int)) with h24 | h24
       · skip
         rw [h24] at hA
         have h24 := eq_of_beq h24
         first
         | (exfalso; clear hA hW; omega)
         | (
           refine st_rdF (v := Value.pointer (some ⟨b6, 0, none⟩)) hA (by kernel_rfl) (by kernel_rfl) (by kernel_rfl) (by kernel_rfl) hW.cls (Rd.pure fun _ => by kernel_rfl) ?_; clear hA ac; intro ac hA
           refine st_rdF (v := Value.pointer (some ⟨b1, 1, none⟩)) hA (by kernel_rfl) (by kernel_rfl) (by kernel_rfl) (by kernel_rfl) hW.cls (Rd.pure fun _ => by kernel_rfl) ?_; clear hA ac; intro ac hA
           refine st_rdF (v := Value.int .i64 x.h) hA (by kernel_rfl) (by kernel_rfl) (by kernel_rfl) (by kernel_rfl) hW.cls (Rd.load (b := b1) (i := 1) (by kernel_rfl) (fun _ hw => (hw.1).cel 5 rfl) (by kernel_rfl)) ?_; clear hA ac; intro ac hA
           refine st_rdF (v := Value.pointer (some ⟨b1, 2, none⟩)) hA (by kernel_rfl) (by kernel_rfl) (by kernel_rfl) (by kernel_rfl) hW.cls (Rd.pure fun _ => by kernel_rfl) ?_; clear hA ac; intro ac hA
           refine st_rdF (v := Value.int .i64 x.id) hA (by kernel_rfl) (by kernel_rfl) (by kernel_rfl) (by kernel_rfl) hW.cls (Rd.load (b := b1) (i := 2) (by kernel_rfl) (fun _ hw => (hw.1).cel 5 rfl) (by kernel_rfl)) ?_; clear hA ac; intro ac hA
           refine st_rdF (v := Value.pointer (some ⟨b1, 3, none⟩)) hA (by kernel_rfl) (by kernel_rfl) (by kernel_rfl) (by kernel_rfl) hW.cls (Rd.pure fun _ => by kernel_rfl) ?_; clear hA ac; intro ac hA
           refine st_rdF (v := Value.agg #[Value.int .u64 x.m.clock, Value.int .i64 x.m.site.f, Value.int .i64 x.m.site.pc]) hA (by kernel_rfl) (by kernel_rfl) (by kernel_rfl) (by kernel_rfl) hW.cls (Rd.load (b := b1) (i := 3) (by kernel_rfl) (fun _ hw => (hw.1).cel 5 rfl) (by kernel_rfl)) ?_; clear hA ac; intro ac hA
           refine stF hA (by kernel_rfl) (by kernel_rfl) (by kernel_rfl) (by kernel_rfl) (RunsF.of (Runs.callN (v := Value.int .i64 1) (fun _ => by kernel_rfl) hW (e_mark_z b6 (x.h) (x.id) x.m w23 ((hW).cel 3 rfl) (by first | exact (Act23.bounds hx).1 | exact (Act23.bounds hx).2 | omega | simp) (by first | exact (Act23.bounds hx).1 | exact (Act23.bounds hx).2 | omega | simp)) ?_)); clear hA ac hW; intro w25 hW hfw25 ac hA
           refine stF hA (by kernel_rfl) (by kernel_rfl) (by kernel_rfl) (by kernel_rfl) (RunsF.of (Runs.callS (v := Value.int .i64 (1)) (fun _ => by kernel_rfl) (e_num23 (1) w25) ?_)); clear hA ac; intro  ac hA
           refine st_rdF (v := Value.bool (((1) : Int) == (1 : Int))) hA (by kernel_rfl) (by kernel_rfl) (by kernel_rfl) (by kernel_rfl) hW.cls (Rd.pure fun _ => by kernel_rfl) ?_; clear hA ac; intro ac hA
           refine st_rdF (v := Value.bool (((1) : Int) == (1 : Int))) hA (by kernel_rfl) (by kernel_rfl) (by kernel_rfl) (by kernel_rfl) hW.cls (Rd.pure fun _ => by kernel_rfl) ?_; clear hA ac; intro ac hA
           refine st_rdF (v := Value.bool (((1) : Int) == (1 : Int))) hA (by kernel_rfl) (by kernel_rfl) (by kernel_rfl) (by kernel_rfl) hW.cls (Rd.pure fun _ => by kernel_rfl) ?_; clear hA ac; intro ac hA
           rcases Bool.eq_false_or_eq_true (((1) : Int) == (1 : Int)) with h26 | h26
           · skip
             rw [h26] at hA
             have h26 := eq_of_beq h26
             first
             | (exfalso; clear hA hW; omega)
             | (
               refine st_rdF (v := Value.pointer (some ⟨b6, 0, none⟩)) hA (by kernel_rfl) (by kernel_rfl) (by kernel_rfl) (by kernel_rfl) hW.cls (Rd.pure fun _ => by kernel_rfl) ?_; clear hA ac; intro ac hA
               refine st_rdF (v := Value.pointer (some ⟨b1, 1, none⟩)) hA (by kernel_rfl) (by kernel_rfl) (by kernel_rfl) (by kernel_rfl) hW.cls (Rd.pure fun _ => by kernel_rfl) ?_; clear hA ac; intro ac hA
               refine st_rdF (v := Value.int .i64 x.h) hA (by kernel_rfl) (by kernel_rfl) (by kernel_rfl) (by kernel_rfl) hW.cls (Rd.load (b := b1) (i := 1) (by kernel_rfl) (fun _ hw => (hw.1).cel 5 rfl) (by kernel_rfl)) ?_; clear hA ac; intro ac hA
               refine stF hA (by kernel_rfl) (by kernel_rfl) (by kernel_rfl) (by kernel_rfl) (RunsF.of (Runs.callN (v := Value.int .i64 1) (fun _ => by kernel_rfl) hW (e_free_z b6 (x.h) w25 ((hW).cel 3 rfl)) ?_)); clear hA ac hW; intro w27 hW hfw27 ac hA
               refine stF hA (by kernel_rfl) (by kernel_rfl) (by kernel_rfl) (by kernel_rfl) (RunsF.of (Runs.callS (v := Value.int .i64 (1)) (fun _ => by kernel_rfl) (e_num23 (1) w27) ?_)); clear hA ac; intro  ac hA
               refine st_rdF (v := Value.bool (((1) : Int) == (1 : Int))) hA (by kernel_rfl) (by kernel_rfl) (by kernel_rfl) (by kernel_rfl) hW.cls (Rd.pure fun _ => by kernel_rfl) ?_; clear hA ac; intro ac hA
               refine st_rdF (v := Value.bool (((1) : Int) == (1 : Int))) hA (by kernel_rfl) (by kernel_rfl) (by kernel_rfl) (by kernel_rfl) hW.cls (Rd.pure fun _ => by kernel_rfl) ?_; clear hA ac; intro ac hA
               refine st_rdF (v := Value.bool (((1) : Int) == (1 : Int))) hA (by kernel_rfl) (by kernel_rfl) (by kernel_rfl) (by kernel_rfl) hW.cls (Rd.pure fun _ => by kernel_rfl) ?_; clear hA ac; intro ac hA
               rcases Bool.eq_false_or_eq_true (((1) : Int) == (1 : Int)) with h28 | h28
               · skip
                 rw [h28] at hA
                 have h28 := eq_of_beq h28
                 first
                 | (exfalso; clear hA hW; omega)
                 | (
                   refine st_rdF (v := Value.bool false) hA (by kernel_rfl) (by kernel_rfl) (by kernel_rfl) (by kernel_rfl) hW.cls (Rd.pure fun _ => by kernel_rfl) ?_; clear hA ac; intro ac hA
                   refine st_rdF (v := Value.bool true) hA (by kernel_rfl) (by kernel_rfl) (by kernel_rfl) (by kernel_rfl) hW.cls (Rd.pure fun _ => by kernel_rfl) ?_; clear hA ac; intro ac hA
                   refine st_rdF (v := Value.bool true) hA (by kernel_rfl) (by kernel_rfl) (by kernel_rfl) (by kernel_rfl) hW.cls (Rd.pure fun _ => by kernel_rfl) ?_; clear hA ac; intro ac hA
                   refine st_rdF (v := Value.bool true) hA (by kernel_rfl) (by kernel_rfl) (by kernel_rfl) (by kernel_rfl) hW.cls (Rd.pure fun _ => by kernel_rfl) ?_; clear hA ac; intro ac hA
                   refine st_rdF (v := Value.bool false) hA (by kernel_rfl) (by kernel_rfl) (by kernel_rfl) (by kernel_rfl) hW.cls (Rd.pure fun _ => by kernel_rfl) ?_; clear hA ac; intro ac hA
                   refine st_rdF (v := Value.bool true) hA (by kernel_rfl) (by kernel_rfl) (by kernel_rfl) (by kernel_rfl) hW.cls (Rd.pure fun _ => by kernel_rfl) ?_; clear hA ac; intro ac hA
                   refine st_rdF (v := Value.bool true) hA (by kernel_rfl) (by kernel_rfl) (by kernel_rfl) (by kernel_rfl) hW.cls (Rd.pure fun _ => by kernel_rfl) ?_; clear hA ac; intro ac hA
                   refine st_rdF (v := Value.bool true) hA (by kernel_rfl) (by kernel_rfl) (by kernel_rfl) (by kernel_rfl) hW.cls (Rd.pure fun _ => by kernel_rfl) ?_; clear hA ac; intro ac hA
                   refine st_rdF (v := Value.pointer (some ⟨b6, 0, none⟩)) hA (by kernel_rfl) (by kernel_rfl) (by kernel_rfl) (by kernel_rfl) hW.cls (Rd.pure fun _ => by kernel_rfl) ?_; clear hA ac; intro ac hA
                   refine stF hA (by kernel_rfl) (by kernel_rfl) (by kernel_rfl) (by kernel_rfl) (RunsF.of (Runs.callN (v := Value.slice none 0 0) (fun _ => by kernel_rfl) hW (e_live_z b6 w27 ((hW).cel 3 rfl)) ?_)); clear hA ac hW; intro w29 hW hfw29 ac hA
                   refine st_rdF (v := Value.int .i64 0) hA (by kernel_rfl) (by kernel_rfl) (by kernel_rfl) (by kernel_rfl) hW.cls (Rd.pure fun _ => by kernel_rfl) ?_; clear hA ac; intro ac hA
                   refine st_rdF (v := Value.bool true) hA (by kernel_rfl) (by kernel_rfl) (by kernel_rfl) (by kernel_rfl) hW.cls (Rd.pure fun _ => by kernel_rfl) ?_; clear hA ac; intro ac hA
                   refine st_rdF (v := Value.bool true) hA (by kernel_rfl) (by kernel_rfl) (by kernel_rfl) (by kernel_rfl) hW.cls (Rd.pure fun _ => by kernel_rfl) ?_; clear hA ac; intro ac hA
                   refine st_rdF (v := Value.bool true) hA (by kernel_rfl) (by kernel_rfl) (by kernel_rfl) (by kernel_rfl) hW.cls (Rd.pure fun _ => by kernel_rfl) ?_; clear hA ac; intro ac hA
                   refine st_rdF (v := Value.pointer (some ⟨b6, 0, none⟩)) hA (by kernel_rfl) (by kernel_rfl) (by kernel_rfl) (by kernel_rfl) hW.cls (Rd.pure fun _ => by kernel_rfl) ?_; clear hA ac; intro ac hA
                   refine stF hA (by kernel_rfl) (by kernel_rfl) (by kernel_rfl) (by kernel_rfl) (RunsF.of (Runs.callN (v := Value.pointer none) (fun _ => by kernel_rfl) hW (e_copy_z b6 w29 ((hW).cel 3 rfl)) ?_)); clear hA ac hW; intro w30 hW hfw30 ac hA
                   refine st_rdF (v := Value.bool true) hA (by kernel_rfl) (by kernel_rfl) (by kernel_rfl) (by kernel_rfl) hW.cls (Rd.pure fun _ => by kernel_rfl) ?_; clear hA ac; intro ac hA
                   refine st_rdF (v := Value.bool true) hA (by kernel_rfl) (by kernel_rfl) (by kernel_rfl) (by kernel_rfl) hW.cls (Rd.pure fun _ => by kernel_rfl) ?_; clear hA ac; intro ac hA
                   refine st_rdF (v := Value.bool true) hA (by kernel_rfl) (by kernel_rfl) (by kernel_rfl) (by kernel_rfl) hW.cls (Rd.pure fun _ => by kernel_rfl) ?_; clear hA ac; intro ac hA
                   refine st_rdF (v := Value.pointer (some ⟨b6, 0, none⟩)) hA (by kernel_rfl) (by kernel_rfl) (by kernel_rfl) (by kernel_rfl) hW.cls (Rd.pure fun _ => by kernel_rfl) ?_; clear hA ac; intro ac hA
                   refine stF hA (by kernel_rfl) (by kernel_rfl) (by kernel_rfl) (by kernel_rfl) (RunsF.of (Runs.callN (v := Value.bool true) (fun _ => by kernel_rfl) hW (e_same_z b6 w30 ((hW).cel 3 rfl)) ?_)); clear hA ac hW; intro w31 hW hfw31 ac hA
                   refine st_rdF (v := Value.bool true) hA (by kernel_rfl) (by kernel_rfl) (by kernel_rfl) (by kernel_rfl) hW.cls (Rd.pure fun _ => by kernel_rfl) ?_; clear hA ac; intro ac hA
                   refine st_rdF (v := Value.bool true) hA (by kernel_rfl) (by kernel_rfl) (by kernel_rfl) (by kernel_rfl) hW.cls (Rd.pure fun _ => by kernel_rfl) ?_; clear hA ac; intro ac hA
                   refine stF hA (by kernel_rfl) (by kernel_rfl) (by kernel_rfl) (by kernel_rfl) (RunsF.of (Runs.call (fun _ => by kernel_rfl) (e_pNew w31) ?_))
                   rintro _ w32 ⟨n33, n34, rfl, hu_⟩; refine ⟨_, rfl, ?_⟩; replace hW := hW.made hu_; clear hA ac; intro ac hA
                   refine st_rdF (v := Value.pointer (some ⟨b6, 0, none⟩)) hA (by kernel_rfl) (by kernel_rfl) (by kernel_rfl) (by kernel_rfl) hW.cls (Rd.pure fun _ => by kernel_rfl) ?_; clear hA ac; intro ac hA
                   refine stF hA (by kernel_rfl) (by kernel_rfl) (by kernel_rfl) (by kernel_rfl) (RunsF.of (Runs.callN (v := Value.bool false) (fun _ => by kernel_rfl) hW (e_same_oz n33 n34 ([] : List (Int × Nat × List (Int × Mark))) b6 w32 ((hW).get 0 rfl) ((hW).lt _ (List.mem_of_getElem? (i := 0) rfl)) ((hW).cel 4 rfl)) ?_)); clear hA ac hW; intro w35 hW hfw35 ac hA
                   refine st_rdF (v := Value.bool true) hA (by kernel_rfl) (by kernel_rfl) (by kernel_rfl) (by kernel_rfl) hW.cls (Rd.pure fun _ => by kernel_rfl) ?_; clear hA ac; intro ac hA
                   refine st_rdF (v := Value.bool true) hA (by kernel_rfl) (by kernel_rfl) (by kernel_rfl) (by kernel_rfl) hW.cls (Rd.pure fun _ => by kernel_rfl) ?_; clear hA ac; intro ac hA
                   refine st_rdF (v := Value.bool true) hA (by kernel_rfl) (by kernel_rfl) (by kernel_rfl) (by kernel_rfl) hW.cls (Rd.pure fun _ => by kernel_rfl) ?_; clear hA ac; intro ac hA
                   refine stF hA (by kernel_rfl) (by kernel_rfl) (by kernel_rfl) (by kernel_rfl) (RunsF.of (Runs.callN (v := Value.bool true) (fun _ => by kernel_rfl) hW (e_works23 w35) ?_)); clear hA ac hW; intro w36 hW hfw36 ac hA
                   refine st_rdF (v := Value.bool true) hA (by kernel_rfl) (by kernel_rfl) (by kernel_rfl) (by kernel_rfl) hW.cls (Rd.pure fun _ => by kernel_rfl) ?_; clear hA ac; intro ac hA
                   refine stF hA (by kernel_rfl) (by kernel_rfl) (by kernel_rfl) (by kernel_rfl) (RunsF.of (Runs.store (v := Value.bool true) (b := b3) (j := 0) (n := 1) (cs' := #[Value.bool true]) (H' := [PoolR n33 n34 ([] : List (Int × Nat × List (Int × Mark))), DefR D22, Cel b14 #[Value.int .u64 (⟨0, ⟨0, 0⟩⟩ : Mark).clock, Value.int .i64 (⟨0, ⟨0, 0⟩⟩ : Mark).site.f, Value.int .i64 (⟨0, ⟨0, 0⟩⟩ : Mark).site.pc] 32, Cel b10 #[Value.int .u64 (⟨0, ⟨0, 0⟩⟩ : Mark).clock, Value.int .i64 (⟨0, ⟨0, 0⟩⟩ : Mark).site.f, Value.int .i64 (⟨0, ⟨0, 0⟩⟩ : Mark).site.pc] 32, Cel b6 #[Value.map none] 62, Cel b3 #[Value.bool true] 4, Cel b1 #[Value.int .i64 x.what, Value.int .i64 x.h, Value.int .i64 x.id, Value.int .u64 x.m.clock, Value.int .i64 x.m.site.f, Value.int .i64 x.m.site.pc] 34]) (by kernel_rfl) (by kernel_rfl) (by kernel_rfl) (by kernel_rfl) (by kernel_rfl) hW 5 (by rfl) (Nat.le_of_ble_eq_true (by kernel_rfl)) (by kernel_rfl) (by rfl) ?_)); clear hA ac hW; intro w37 hW ac hA
                   refine wpListIn_nil ?_
                   refine thenN ?_
                   refine wpIn_ret ?_
                   refine retF (.inl rfl) hA ?_
                   refine leaveD (H' := [PoolR n33 n34 ([] : List (Int × Nat × List (Int × Mark))), Cel b14 #[Value.int .u64 (⟨0, ⟨0, 0⟩⟩ : Mark).clock, Value.int .i64 (⟨0, ⟨0, 0⟩⟩ : Mark).site.f, Value.int .i64 (⟨0, ⟨0, 0⟩⟩ : Mark).site.pc] 32, Cel b10 #[Value.int .u64 (⟨0, ⟨0, 0⟩⟩ : Mark).clock, Value.int .i64 (⟨0, ⟨0, 0⟩⟩ : Mark).site.f, Value.int .i64 (⟨0, ⟨0, 0⟩⟩ : Mark).site.pc] 32, Cel b6 #[Value.map none] 62, Cel b3 #[Value.bool true] 4, Cel b1 #[Value.int .i64 x.what, Value.int .i64 x.h, Value.int .i64 x.id, Value.int .u64 x.m.clock, Value.int .i64 x.m.site.f, Value.int .i64 x.m.site.pc] 34]) hW 1 rfl rfl ?_; clear hW; intro w38 hW
                   refine leave1 (v := Value.bool true) (by rfl) (GotF.cell (b := b3) (i := 0) hA (by kernel_rfl) (by kernel_rfl) (hW.cel 4 rfl) (by kernel_rfl)) ?_
                   clear hA
                   exact ⟨retv (by rfl), hW.fr⟩)
               · skip
                 rw [h28] at hA
                 have h28 := ne_of_beq_false h28
                 first
                 | (exfalso; clear hA hW; omega)
                 | (
                   refine st_skipF hA (by kernel_rfl) (by kernel_rfl) ?_; clear hA ac; intro ac hA
                   refine st_skipF hA (by kernel_rfl) (by kernel_rfl) ?_; clear hA ac; intro ac hA
                   refine st_rdF (v := Value.bool false) hA (by kernel_rfl) (by kernel_rfl) (by kernel_rfl) (by kernel_rfl) hW.cls (Rd.pure fun _ => by kernel_rfl) ?_; clear hA ac; intro ac hA
                   refine st_rdF (v := Value.bool false) hA (by kernel_rfl) (by kernel_rfl) (by kernel_rfl) (by kernel_rfl) hW.cls (Rd.pure fun _ => by kernel_rfl) ?_; clear hA ac; intro ac hA
                   refine st_skipF hA (by kernel_rfl) (by kernel_rfl) ?_; clear hA ac; intro ac hA
                   refine st_skipF hA (by kernel_rfl) (by kernel_rfl) ?_; clear hA ac; intro ac hA
                   refine st_rdF (v := Value.bool false) hA (by kernel_rfl) (by kernel_rfl) (by kernel_rfl) (by kernel_rfl) hW.cls (Rd.pure fun _ => by kernel_rfl) ?_; clear hA ac; intro ac hA
                   refine st_rdF (v := Value.bool false) hA (by kernel_rfl) (by kernel_rfl) (by kernel_rfl) (by kernel_rfl) hW.cls (Rd.pure fun _ => by kernel_rfl) ?_; clear hA ac; intro ac hA
                   refine st_skipF hA (by kernel_rfl) (by kernel_rfl) ?_; clear hA ac; intro ac hA
                   refine st_skipF hA (by kernel_rfl) (by kernel_rfl) ?_; clear hA ac; intro ac hA
                   refine st_skipF hA (by kernel_rfl) (by kernel_rfl) ?_; clear hA ac; intro ac hA
                   refine st_skipF hA (by kernel_rfl) (by kernel_rfl) ?_; clear hA ac; intro ac hA
                   refine st_rdF (v := Value.bool false) hA (by kernel_rfl) (by kernel_rfl) (by kernel_rfl) (by kernel_rfl) hW.cls (Rd.pure fun _ => by kernel_rfl) ?_; clear hA ac; intro ac hA
                   refine st_rdF (v := Value.bool false) hA (by kernel_rfl) (by kernel_rfl) (by kernel_rfl) (by kernel_rfl) hW.cls (Rd.pure fun _ => by kernel_rfl) ?_; clear hA ac; intro ac hA
                   refine st_skipF hA (by kernel_rfl) (by kernel_rfl) ?_; clear hA ac; intro ac hA
                   refine st_skipF hA (by kernel_rfl) (by kernel_rfl) ?_; clear hA ac; intro ac hA
                   refine st_skipF hA (by kernel_rfl) (by kernel_rfl) ?_; clear hA ac; intro ac hA
                   refine st_rdF (v := Value.bool false) hA (by kernel_rfl) (by kernel_rfl) (by kernel_rfl) (by kernel_rfl) hW.cls (Rd.pure fun _ => by kernel_rfl) ?_; clear hA ac; intro ac hA
                   refine st_rdF (v := Value.bool false) hA (by kernel_rfl) (by kernel_rfl) (by kernel_rfl) (by kernel_rfl) hW.cls (Rd.pure fun _ => by kernel_rfl) ?_; clear hA ac; intro ac hA
                   refine st_skipF hA (by kernel_rfl) (by kernel_rfl) ?_; clear hA ac; intro ac hA
                   refine st_skipF hA (by kernel_rfl) (by kernel_rfl) ?_; clear hA ac; intro ac hA
                   refine st_rdF (v := Value.bool false) hA (by kernel_rfl) (by kernel_rfl) (by kernel_rfl) (by kernel_rfl) hW.cls (Rd.pure fun _ => by kernel_rfl) ?_; clear hA ac; intro ac hA
                   refine st_rdF (v := Value.bool false) hA (by kernel_rfl) (by kernel_rfl) (by kernel_rfl) (by kernel_rfl) hW.cls (Rd.pure fun _ => by kernel_rfl) ?_; clear hA ac; intro ac hA
                   refine st_skipF hA (by kernel_rfl) (by kernel_rfl) ?_; clear hA ac; intro ac hA
                   refine st_skipF hA (by kernel_rfl) (by kernel_rfl) ?_; clear hA ac; intro ac hA
                   refine st_skipF hA (by kernel_rfl) (by kernel_rfl) ?_; clear hA ac; intro ac hA
                   refine st_skipF hA (by kernel_rfl) (by kernel_rfl) ?_; clear hA ac; intro ac hA
                   refine st_rdF (v := Value.bool false) hA (by kernel_rfl) (by kernel_rfl) (by kernel_rfl) (by kernel_rfl) hW.cls (Rd.pure fun _ => by kernel_rfl) ?_; clear hA ac; intro ac hA
                   refine st_rdF (v := Value.bool false) hA (by kernel_rfl) (by kernel_rfl) (by kernel_rfl) (by kernel_rfl) hW.cls (Rd.pure fun _ => by kernel_rfl) ?_; clear hA ac; intro ac hA
                   refine st_skipF hA (by kernel_rfl) (by kernel_rfl) ?_; clear hA ac; intro ac hA
                   refine st_rdF (v := Value.bool false) hA (by kernel_rfl) (by kernel_rfl) (by kernel_rfl) (by kernel_rfl) hW.cls (Rd.pure fun _ => by kernel_rfl) ?_; clear hA ac; intro ac hA
                   refine stF hA (by kernel_rfl) (by kernel_rfl) (by kernel_rfl) (by kernel_rfl) (RunsF.of (Runs.store (v := Value.bool false) (b := b3) (j := 0) (n := 1) (cs' := #[Value.bool false]) (H' := [DefR D22, Cel b14 #[Value.int .u64 (⟨0, ⟨0, 0⟩⟩ : Mark).clock, Value.int .i64 (⟨0, ⟨0, 0⟩⟩ : Mark).site.f, Value.int .i64 (⟨0, ⟨0, 0⟩⟩ : Mark).site.pc] 32, Cel b10 #[Value.int .u64 (⟨0, ⟨0, 0⟩⟩ : Mark).clock, Value.int .i64 (⟨0, ⟨0, 0⟩⟩ : Mark).site.f, Value.int .i64 (⟨0, ⟨0, 0⟩⟩ : Mark).site.pc] 32, Cel b6 #[Value.map none] 62, Cel b3 #[Value.bool false] 4, Cel b1 #[Value.int .i64 x.what, Value.int .i64 x.h, Value.int .i64 x.id, Value.int .u64 x.m.clock, Value.int .i64 x.m.site.f, Value.int .i64 x.m.site.pc] 34]) (by kernel_rfl) (by kernel_rfl) (by kernel_rfl) (by kernel_rfl) (by kernel_rfl) hW 4 (by rfl) (Nat.le_of_ble_eq_true (by kernel_rfl)) (by kernel_rfl) (by rfl) ?_)); clear hA ac hW; intro w39 hW ac hA
                   refine wpListIn_nil ?_
                   refine thenN ?_
                   refine wpIn_ret ?_
                   refine retF (.inl rfl) hA ?_
                   refine leaveD (H' := [Cel b14 #[Value.int .u64 (⟨0, ⟨0, 0⟩⟩ : Mark).clock, Value.int .i64 (⟨0, ⟨0, 0⟩⟩ : Mark).site.f, Value.int .i64 (⟨0, ⟨0, 0⟩⟩ : Mark).site.pc] 32, Cel b10 #[Value.int .u64 (⟨0, ⟨0, 0⟩⟩ : Mark).clock, Value.int .i64 (⟨0, ⟨0, 0⟩⟩ : Mark).site.f, Value.int .i64 (⟨0, ⟨0, 0⟩⟩ : Mark).site.pc] 32, Cel b6 #[Value.map none] 62, Cel b3 #[Value.bool false] 4, Cel b1 #[Value.int .i64 x.what, Value.int .i64 x.h, Value.int .i64 x.id, Value.int .u64 x.m.clock, Value.int .i64 x.m.site.f, Value.int .i64 x.m.site.pc] 34]) hW 0 rfl rfl ?_; clear hW; intro w40 hW
                   refine leave1 (v := Value.bool false) (by rfl) (GotF.cell (b := b3) (i := 0) hA (by kernel_rfl) (by kernel_rfl) (hW.cel 3 rfl) (by kernel_rfl)) ?_
                   clear hA
                   exact ⟨retv (by rfl), hW.fr⟩))
           · skip
             rw [h26] at hA
             have h26 := ne_of_beq_false h26
             first
             | (exfalso; clear hA hW; omega)
             | (
               refine st_skipF hA (by kernel_rfl) (by kernel_rfl) ?_; clear hA ac; intro ac hA
               refine st_skipF hA (by kernel_rfl) (by kernel_rfl) ?_; clear hA ac; intro ac hA
               refine st_skipF hA (by kernel_rfl) (by kernel_rfl) ?_; clear hA ac; intro ac hA
               refine st_skipF hA (by kernel_rfl) (by kernel_rfl) ?_; clear hA ac; intro ac hA
               refine st_skipF hA (by kernel_rfl) (by kernel_rfl) ?_; clear hA ac; intro ac hA
               refine st_skipF hA (by kernel_rfl) (by kernel_rfl) ?_; clear hA ac; intro ac hA
               refine st_rdF (v := Value.bool false) hA (by kernel_rfl) (by kernel_rfl) (by kernel_rfl) (by kernel_rfl) hW.cls (Rd.pure fun _ => by kernel_rfl) ?_; clear hA ac; intro ac hA
               refine st_rdF (v := Value.bool false) hA (by kernel_rfl) (by kernel_rfl) (by kernel_rfl) (by kernel_rfl) hW.cls (Rd.pure fun _ => by kernel_rfl) ?_; clear hA ac; intro ac hA
               refine st_skipF hA (by kernel_rfl) (by kernel_rfl) ?_; clear hA ac; intro ac hA
               refine st_skipF hA (by kernel_rfl) (by kernel_rfl) ?_; clear hA ac; intro ac hA
               refine st_rdF (v := Value.bool false) hA (by kernel_rfl) (by kernel_rfl) (by kernel_rfl) (by kernel_rfl) hW.cls (Rd.pure fun _ => by kernel_rfl) ?_; clear hA ac; intro ac hA
               refine st_rdF (v := Value.bool false) hA (by kernel_rfl) (by kernel_rfl) (by kernel_rfl) (by kernel_rfl) hW.cls (Rd.pure fun _ => by kernel_rfl) ?_; clear hA ac; intro ac hA
               refine st_skipF hA (by kernel_rfl) (by kernel_rfl) ?_; clear hA ac; intro ac hA
               refine st_skipF hA (by kernel_rfl) (by kernel_rfl) ?_; clear hA ac; intro ac hA
               refine st_rdF (v := Value.bool false) hA (by kernel_rfl) (by kernel_rfl) (by kernel_rfl) (by kernel_rfl) hW.cls (Rd.pure fun _ => by kernel_rfl) ?_; clear hA ac; intro ac hA
               refine st_rdF (v := Value.bool false) hA (by kernel_rfl) (by kernel_rfl) (by kernel_rfl) (by kernel_rfl) hW.cls (Rd.pure fun _ => by kernel_rfl) ?_; clear hA ac; intro ac hA
               refine st_skipF hA (by kernel_rfl) (by kernel_rfl) ?_; clear hA ac; intro ac hA
               refine st_skipF hA (by kernel_rfl) (by kernel_rfl) ?_; clear hA ac; intro ac hA
               refine st_skipF hA (by kernel_rfl) (by kernel_rfl) ?_; clear hA ac; intro ac hA
               refine st_skipF hA (by kernel_rfl) (by kernel_rfl) ?_; clear hA ac; intro ac hA
               refine st_rdF (v := Value.bool false) hA (by kernel_rfl) (by kernel_rfl) (by kernel_rfl) (by kernel_rfl) hW.cls (Rd.pure fun _ => by kernel_rfl) ?_; clear hA ac; intro ac hA
               refine st_rdF (v := Value.bool false) hA (by kernel_rfl) (by kernel_rfl) (by kernel_rfl) (by kernel_rfl) hW.cls (Rd.pure fun _ => by kernel_rfl) ?_; clear hA ac; intro ac hA
               refine st_skipF hA (by kernel_rfl) (by kernel_rfl) ?_; clear hA ac; intro ac hA
               refine st_skipF hA (by kernel_rfl) (by kernel_rfl) ?_; clear hA ac; intro ac hA
               refine st_skipF hA (by kernel_rfl) (by kernel_rfl) ?_; clear hA ac; intro ac hA
               refine st_rdF (v := Value.bool false) hA (by kernel_rfl) (by kernel_rfl) (by kernel_rfl) (by kernel_rfl) hW.cls (Rd.pure fun _ => by kernel_rfl) ?_; clear hA ac; intro ac hA
               refine st_rdF (v := Value.bool false) hA (by kernel_rfl) (by kernel_rfl) (by kernel_rfl) (by kernel_rfl) hW.cls (Rd.pure fun _ => by kernel_rfl) ?_; clear hA ac; intro ac hA
               refine st_skipF hA (by kernel_rfl) (by kernel_rfl) ?_; clear hA ac; intro ac hA
               refine st_skipF hA (by kernel_rfl) (by kernel_rfl) ?_; clear hA ac; intro ac hA
               refine st_rdF (v := Value.bool false) hA (by kernel_rfl) (by kernel_rfl) (by kernel_rfl) (by kernel_rfl) hW.cls (Rd.pure fun _ => by kernel_rfl) ?_; clear hA ac; intro ac hA
               refine st_rdF (v := Value.bool false) hA (by kernel_rfl) (by kernel_rfl) (by kernel_rfl) (by kernel_rfl) hW.cls (Rd.pure fun _ => by kernel_rfl) ?_; clear hA ac; intro ac hA
               refine st_skipF hA (by kernel_rfl) (by kernel_rfl) ?_; clear hA ac; intro ac hA
               refine st_skipF hA (by kernel_rfl) (by kernel_rfl) ?_; clear hA ac; intro ac hA
               refine st_skipF hA (by kernel_rfl) (by kernel_rfl) ?_; clear hA ac; intro ac hA
               refine st_skipF hA (by kernel_rfl) (by kernel_rfl) ?_; clear hA ac; intro ac hA
               refine st_rdF (v := Value.bool false) hA (by kernel_rfl) (by kernel_rfl) (by kernel_rfl) (by kernel_rfl) hW.cls (Rd.pure fun _ => by kernel_rfl) ?_; clear hA ac; intro ac hA
               refine st_rdF (v := Value.bool false) hA (by kernel_rfl) (by kernel_rfl) (by kernel_rfl) (by kernel_rfl) hW.cls (Rd.pure fun _ => by kernel_rfl) ?_; clear hA ac; intro ac hA
               refine st_skipF hA (by kernel_rfl) (by kernel_rfl) ?_; clear hA ac; intro ac hA
               refine st_rdF (v := Value.bool false) hA (by kernel_rfl) (by kernel_rfl) (by kernel_rfl) (by kernel_rfl) hW.cls (Rd.pure fun _ => by kernel_rfl) ?_; clear hA ac; intro ac hA
               refine stF hA (by kernel_rfl) (by kernel_rfl) (by kernel_rfl) (by kernel_rfl) (RunsF.of (Runs.store (v := Value.bool false) (b := b3) (j := 0) (n := 1) (cs' := #[Value.bool false]) (H' := [DefR D22, Cel b14 #[Value.int .u64 (⟨0, ⟨0, 0⟩⟩ : Mark).clock, Value.int .i64 (⟨0, ⟨0, 0⟩⟩ : Mark).site.f, Value.int .i64 (⟨0, ⟨0, 0⟩⟩ : Mark).site.pc] 32, Cel b10 #[Value.int .u64 (⟨0, ⟨0, 0⟩⟩ : Mark).clock, Value.int .i64 (⟨0, ⟨0, 0⟩⟩ : Mark).site.f, Value.int .i64 (⟨0, ⟨0, 0⟩⟩ : Mark).site.pc] 32, Cel b6 #[Value.map none] 62, Cel b3 #[Value.bool false] 4, Cel b1 #[Value.int .i64 x.what, Value.int .i64 x.h, Value.int .i64 x.id, Value.int .u64 x.m.clock, Value.int .i64 x.m.site.f, Value.int .i64 x.m.site.pc] 34]) (by kernel_rfl) (by kernel_rfl) (by kernel_rfl) (by kernel_rfl) (by kernel_rfl) hW 4 (by rfl) (Nat.le_of_ble_eq_true (by kernel_rfl)) (by kernel_rfl) (by rfl) ?_)); clear hA ac hW; intro w41 hW ac hA
               refine wpListIn_nil ?_
               refine thenN ?_
               refine wpIn_ret ?_
               refine retF (.inl rfl) hA ?_
               refine leaveD (H' := [Cel b14 #[Value.int .u64 (⟨0, ⟨0, 0⟩⟩ : Mark).clock, Value.int .i64 (⟨0, ⟨0, 0⟩⟩ : Mark).site.f, Value.int .i64 (⟨0, ⟨0, 0⟩⟩ : Mark).site.pc] 32, Cel b10 #[Value.int .u64 (⟨0, ⟨0, 0⟩⟩ : Mark).clock, Value.int .i64 (⟨0, ⟨0, 0⟩⟩ : Mark).site.f, Value.int .i64 (⟨0, ⟨0, 0⟩⟩ : Mark).site.pc] 32, Cel b6 #[Value.map none] 62, Cel b3 #[Value.bool false] 4, Cel b1 #[Value.int .i64 x.what, Value.int .i64 x.h, Value.int .i64 x.id, Value.int .u64 x.m.clock, Value.int .i64 x.m.site.f, Value.int .i64 x.m.site.pc] 34]) hW 0 rfl rfl ?_; clear hW; intro w42 hW
               refine leave1 (v := Value.bool false) (by rfl) (GotF.cell (b := b3) (i := 0) hA (by kernel_rfl) (by kernel_rfl) (hW.cel 3 rfl) (by kernel_rfl)) ?_
               clear hA
               exact ⟨retv (by rfl), hW.fr⟩))
       · skip
         rw [h24] at hA
         have h24 := ne_of_beq_false h24
         first
         | (exfalso; clear hA hW; omega)
         | (
           refine st_skipF hA (by kernel_rfl) (by kernel_rfl) ?_; clear hA ac; intro ac hA
           refine st_skipF hA (by kernel_rfl) (by kernel_rfl) ?_; clear hA ac; intro ac hA
           refine st_skipF hA (by kernel_rfl) (by kernel_rfl) ?_; clear hA ac; intro ac hA
           refine st_skipF hA (by kernel_rfl) (by kernel_rfl) ?_; clear hA ac; intro ac hA
           refine st_skipF hA (by kernel_rfl) (by kernel_rfl) ?_; clear hA ac; intro ac hA
           refine st_skipF hA (by kernel_rfl) (by kernel_rfl) ?_; clear hA ac; intro ac hA
           refine st_skipF hA (by kernel_rfl) (by kernel_rfl) ?_; clear hA ac; intro ac hA
           refine st_skipF hA (by kernel_rfl) (by kernel_rfl) ?_; clear hA ac; intro ac hA
           refine st_skipF hA (by kernel_rfl) (by kernel_rfl) ?_; clear hA ac; intro ac hA
           refine st_skipF hA (by kernel_rfl) (by kernel_rfl) ?_; clear hA ac; intro ac hA
           refine st_rdF (v := Value.bool false) hA (by kernel_rfl) (by kernel_rfl) (by kernel_rfl) (by kernel_rfl) hW.cls (Rd.pure fun _ => by kernel_rfl) ?_; clear hA ac; intro ac hA
           refine st_rdF (v := Value.bool false) hA (by kernel_rfl) (by kernel_rfl) (by kernel_rfl) (by kernel_rfl) hW.cls (Rd.pure fun _ => by kernel_rfl) ?_; clear hA ac; intro ac hA
           refine st_skipF hA (by kernel_rfl) (by kernel_rfl) ?_; clear hA ac; intro ac hA
           refine st_skipF hA (by kernel_rfl) (by kernel_rfl) ?_; clear hA ac; intro ac hA
           refine st_skipF hA (by kernel_rfl) (by kernel_rfl) ?_; clear hA ac; intro ac hA
           refine st_skipF hA (by kernel_rfl) (by kernel_rfl) ?_; clear hA ac; intro ac hA
           refine st_skipF hA (by kernel_rfl) (by kernel_rfl) ?_; clear hA ac; intro ac hA
           refine st_skipF hA (by kernel_rfl) (by kernel_rfl) ?_; clear hA ac; intro ac hA
           refine st_rdF (v := Value.bool false) hA (by kernel_rfl) (by kernel_rfl) (by kernel_rfl) (by kernel_rfl) hW.cls (Rd.pure fun _ => by kernel_rfl) ?_; clear hA ac; intro ac hA
           refine st_rdF (v := Value.bool false) hA (by kernel_rfl) (by kernel_rfl) (by kernel_rfl) (by kernel_rfl) hW.cls (Rd.pure fun _ => by kernel_rfl) ?_; clear hA ac; intro ac hA
           refine st_skipF hA (by kernel_rfl) (by kernel_rfl) ?_; clear hA ac; intro ac hA
           refine st_skipF hA (by kernel_rfl) (by kernel_rfl) ?_; clear hA ac; intro ac hA
           refine st_rdF (v := Value.bool false) hA (by kernel_rfl) (by kernel_rfl) (by kernel_rfl) (by kernel_rfl) hW.cls (Rd.pure fun _ => by kernel_rfl) ?_; clear hA ac; intro ac hA
           refine st_rdF (v := Value.bool false) hA (by kernel_rfl) (by kernel_rfl) (by kernel_rfl) (by kernel_rfl) hW.cls (Rd.pure fun _ => by kernel_rfl) ?_; clear hA ac; intro ac hA
           refine st_skipF hA (by kernel_rfl) (by kernel_rfl) ?_; clear hA ac; intro ac hA
           refine st_skipF hA (by kernel_rfl) (by kernel_rfl) ?_; clear hA ac; intro ac hA
           refine st_rdF (v := Value.bool false) hA (by kernel_rfl) (by kernel_rfl) (by kernel_rfl) (by kernel_rfl) hW.cls (Rd.pure fun _ => by kernel_rfl) ?_; clear hA ac; intro ac hA
           refine st_rdF (v := Value.bool false) hA (by kernel_rfl) (by kernel_rfl) (by kernel_rfl) (by kernel_rfl) hW.cls (Rd.pure fun _ => by kernel_rfl) ?_; clear hA ac; intro ac hA
           refine st_skipF hA (by kernel_rfl) (by kernel_rfl) ?_; clear hA ac; intro ac hA
           refine st_skipF hA (by kernel_rfl) (by kernel_rfl) ?_; clear hA ac; intro ac hA
           refine st_skipF hA (by kernel_rfl) (by kernel_rfl) ?_; clear hA ac; intro ac hA
           refine st_skipF hA (by kernel_rfl) (by kernel_rfl) ?_; clear hA ac; intro ac hA
           refine st_rdF (v := Value.bool false) hA (by kernel_rfl) (by kernel_rfl) (by kernel_rfl) (by kernel_rfl) hW.cls (Rd.pure fun _ => by kernel_rfl) ?_; clear hA ac; intro ac hA
           refine st_rdF (v := Value.bool false) hA (by kernel_rfl) (by kernel_rfl) (by kernel_rfl) (by kernel_rfl) hW.cls (Rd.pure fun _ => by kernel_rfl) ?_; clear hA ac; intro ac hA
           refine st_skipF hA (by kernel_rfl) (by kernel_rfl) ?_; clear hA ac; intro ac hA
           refine st_skipF hA (by kernel_rfl) (by kernel_rfl) ?_; clear hA ac; intro ac hA
           refine st_skipF hA (by kernel_rfl) (by kernel_rfl) ?_; clear hA ac; intro ac hA
           refine st_rdF (v := Value.bool false) hA (by kernel_rfl) (by kernel_rfl) (by kernel_rfl) (by kernel_rfl) hW.cls (Rd.pure fun _ => by kernel_rfl) ?_; clear hA ac; intro ac hA
           refine st_rdF (v := Value.bool false) hA (by kernel_rfl) (by kernel_rfl) (by kernel_rfl) (by kernel_rfl) hW.cls (Rd.pure fun _ => by kernel_rfl) ?_; clear hA ac; intro ac hA
           refine st_skipF hA (by kernel_rfl) (by kernel_rfl) ?_; clear hA ac; intro ac hA
           refine st_skipF hA (by kernel_rfl) (by kernel_rfl) ?_; clear hA ac; intro ac hA
           refine st_rdF (v := Value.bool false) hA (by kernel_rfl) (by kernel_rfl) (by kernel_rfl) (by kernel_rfl) hW.cls (Rd.pure fun _ => by kernel_rfl) ?_; clear hA ac; intro ac hA
           refine st_rdF (v := Value.bool false) hA (by kernel_rfl) (by kernel_rfl) (by kernel_rfl) (by kernel_rfl) hW.cls (Rd.pure fun _ => by kernel_rfl) ?_; clear hA ac; intro ac hA
           refine st_skipF hA (by kernel_rfl) (by kernel_rfl) ?_; clear hA ac; intro ac hA
           refine st_skipF hA (by kernel_rfl) (by kernel_rfl) ?_; clear hA ac; intro ac hA
           refine st_skipF hA (by kernel_rfl) (by kernel_rfl) ?_; clear hA ac; intro ac hA
           refine st_skipF hA (by kernel_rfl) (by kernel_rfl) ?_; clear hA ac; intro ac hA
           refine st_rdF (v := Value.bool false) hA (by kernel_rfl) (by kernel_rfl) (by kernel_rfl) (by kernel_rfl) hW.cls (Rd.pure fun _ => by kernel_rfl) ?_; clear hA ac; intro ac hA
           refine st_rdF (v := Value.bool false) hA (by kernel_rfl) (by kernel_rfl) (by kernel_rfl) (by kernel_rfl) hW.cls (Rd.pure fun _ => by kernel_rfl) ?_; clear hA ac; intro ac hA
           refine st_skipF hA (by kernel_rfl) (by kernel_rfl) ?_; clear hA ac; intro ac hA
           refine st_rdF (v := Value.bool false) hA (by kernel_rfl) (by kernel_rfl) (by kernel_rfl) (by kernel_rfl) hW.cls (Rd.pure fun _ => by kernel_rfl) ?_; clear hA ac; intro ac hA
           refine stF hA (by kernel_rfl) (by kernel_rfl) (by kernel_rfl) (by kernel_rfl) (RunsF.of (Runs.store (v := Value.bool false) (b := b3) (j := 0) (n := 1) (cs' := #[Value.bool false]) (H' := [DefR D22, Cel b14 #[Value.int .u64 (⟨0, ⟨0, 0⟩⟩ : Mark).clock, Value.int .i64 (⟨0, ⟨0, 0⟩⟩ : Mark).site.f, Value.int .i64 (⟨0, ⟨0, 0⟩⟩ : Mark).site.pc] 32, Cel b10 #[Value.int .u64 (⟨0, ⟨0, 0⟩⟩ : Mark).clock, Value.int .i64 (⟨0, ⟨0, 0⟩⟩ : Mark).site.f, Value.int .i64 (⟨0, ⟨0, 0⟩⟩ : Mark).site.pc] 32, Cel b6 #[Value.map none] 62, Cel b3 #[Value.bool false] 4, Cel b1 #[Value.int .i64 x.what, Value.int .i64 x.h, Value.int .i64 x.id, Value.int .u64 x.m.clock, Value.int .i64 x.m.site.f, Value.int .i64 x.m.site.pc] 34]) (by kernel_rfl) (by kernel_rfl) (by kernel_rfl) (by kernel_rfl) (by kernel_rfl) hW 4 (by rfl) (Nat.le_of_ble_eq_true (by kernel_rfl)) (by kernel_rfl) (by rfl) ?_)); clear hA ac hW; intro w43 hW ac hA
           refine wpListIn_nil ?_
           refine thenN ?_
           refine wpIn_ret ?_
           refine retF (.inl rfl) hA ?_
           refine leaveD (H' := [Cel b14 #[Value.int .u64 (⟨0, ⟨0, 0⟩⟩ : Mark).clock, Value.int .i64 (⟨0, ⟨0, 0⟩⟩ : Mark).site.f, Value.int .i64 (⟨0, ⟨0, 0⟩⟩ : Mark).site.pc] 32, Cel b10 #[Value.int .u64 (⟨0, ⟨0, 0⟩⟩ : Mark).clock, Value.int .i64 (⟨0, ⟨0, 0⟩⟩ : Mark).site.f, Value.int .i64 (⟨0, ⟨0, 0⟩⟩ : Mark).site.pc] 32, Cel b6 #[Value.map none] 62, Cel b3 #[Value.bool false] 4, Cel b1 #[Value.int .i64 x.what, Value.int .i64 x.h, Value.int .i64 x.id, Value.int .u64 x.m.clock, Value.int .i64 x.m.site.f, Value.int .i64 x.m.site.pc] 34]) hW 0 rfl rfl ?_; clear hW; intro w44 hW
           refine leave1 (v := Value.bool false) (by rfl) (GotF.cell (b := b3) (i := 0) hA (by kernel_rfl) (by kernel_rfl) (hW.cel 3 rfl) (by kernel_rfl)) ?_
           clear hA
           exact ⟨retv (by rfl), hW.fr⟩)
     · skip
       clear hA ac hW; intro D45 c_ pre_ Hk_ w46 ac hJ_ hA hW
       exact hJ_.elim)
 · skip
   first
   | (exfalso; clear hA hW; omega)
   | (
     refine wpIn_skip ?_
     refine thenN ?_
     refine wpIn_seq ?_
     refine wpIn_region_lit ?_
     refine st_rdF (v := Value.pointer none) hA (by kernel_rfl) (by kernel_rfl) (by kernel_rfl) (by kernel_rfl) hW.cls (Rd.pure fun _ => by kernel_rfl) ?_; clear hA ac; intro ac hA
     refine stF hA (by kernel_rfl) (by kernel_rfl) (by kernel_rfl) (by kernel_rfl) (RunsF.of (Runs.callN (v := Value.tuple #[Value.int .i64 0, Value.int .i64 1]) (fun _ => by kernel_rfl) hW (e_make_nil w4) ?_)); clear hA ac hW; intro w47 hW hfw47 ac hA
     refine st_rdF (v := Value.tuple #[Value.int .i64 0, Value.int .i64 1]) hA (by kernel_rfl) (by kernel_rfl) (by kernel_rfl) (by kernel_rfl) hW.cls (Rd.pure fun _ => by kernel_rfl) ?_; clear hA ac; intro ac hA
     refine st_rdF (v := Value.int .i64 0) hA (by kernel_rfl) (by kernel_rfl) (by kernel_rfl) (by kernel_rfl) hW.cls (Rd.pure fun _ => by kernel_rfl) ?_; clear hA ac; intro ac hA
     refine st_rdF (v := Value.int .i64 1) hA (by kernel_rfl) (by kernel_rfl) (by kernel_rfl) (by kernel_rfl) hW.cls (Rd.pure fun _ => by kernel_rfl) ?_; clear hA ac; intro ac hA
     refine st_rdF (v := Value.int .i64 0) hA (by kernel_rfl) (by kernel_rfl) (by kernel_rfl) (by kernel_rfl) hW.cls (Rd.pure fun _ => by kernel_rfl) ?_; clear hA ac; intro ac hA
     refine st_rdF (v := Value.int .i64 1) hA (by kernel_rfl) (by kernel_rfl) (by kernel_rfl) (by kernel_rfl) hW.cls (Rd.pure fun _ => by kernel_rfl) ?_; clear hA ac; intro ac hA
     refine wpListIn_nil ?_
     refine thenN ?_
     refine wpIn_seq ?_
     refine wpIn_region_lit ?_
     refine st_rdF (v := Value.pointer none) hA (by kernel_rfl) (by kernel_rfl) (by kernel_rfl) (by kernel_rfl) hW.cls (Rd.pure fun _ => by kernel_rfl) ?_; clear hA ac; intro ac hA
     refine st_rdF (v := Value.pointer (some ⟨b1, 1, none⟩)) hA (by kernel_rfl) (by kernel_rfl) (by kernel_rfl) (by kernel_rfl) hW.cls (Rd.pure fun _ => by kernel_rfl) ?_; clear hA ac; intro ac hA
     refine st_rdF (v := Value.int .i64 x.h) hA (by kernel_rfl) (by kernel_rfl) (by kernel_rfl) (by kernel_rfl) hW.cls (Rd.load (b := b1) (i := 1) (by kernel_rfl) (fun _ hw => (hw.1).cel 1 rfl) (by kernel_rfl)) ?_; clear hA ac; intro ac hA
     refine st_rdF (v := Value.pointer (some ⟨b1, 2, none⟩)) hA (by kernel_rfl) (by kernel_rfl) (by kernel_rfl) (by kernel_rfl) hW.cls (Rd.pure fun _ => by kernel_rfl) ?_; clear hA ac; intro ac hA
     refine st_rdF (v := Value.int .i64 x.id) hA (by kernel_rfl) (by kernel_rfl) (by kernel_rfl) (by kernel_rfl) hW.cls (Rd.load (b := b1) (i := 2) (by kernel_rfl) (fun _ hw => (hw.1).cel 1 rfl) (by kernel_rfl)) ?_; clear hA ac; intro ac hA
     refine stF hA (by kernel_rfl) (by kernel_rfl) (by kernel_rfl) (by kernel_rfl) (RunsF.of (Runs.callN (v := Value.tuple #[(⟨0, ⟨0, 0⟩⟩ : Mark).v, Value.bool false]) (fun _ => by kernel_rfl) hW (e_get_nil (x.h) (x.id) w47) ?_)); clear hA ac hW; intro w48 hW hfw48 ac hA
     refine st_rdF (v := Value.tuple #[(⟨0, ⟨0, 0⟩⟩ : Mark).v, Value.bool false]) hA (by kernel_rfl) (by kernel_rfl) (by kernel_rfl) (by kernel_rfl) hW.cls (Rd.pure fun _ => by kernel_rfl) ?_; clear hA ac; intro ac hA
     refine st_rdF (v := (⟨0, ⟨0, 0⟩⟩ : Mark).v) hA (by kernel_rfl) (by kernel_rfl) (by kernel_rfl) (by kernel_rfl) hW.cls (Rd.pure fun _ => by kernel_rfl) ?_; clear hA ac; intro ac hA
     refine st_rdF (v := Value.bool false) hA (by kernel_rfl) (by kernel_rfl) (by kernel_rfl) (by kernel_rfl) hW.cls (Rd.pure fun _ => by kernel_rfl) ?_; clear hA ac; intro ac hA
     refine stF hA (by kernel_rfl) (by kernel_rfl) (by kernel_rfl) (by kernel_rfl) (RunsF.of (Runs.cells (fun b => Value.pointer (some ⟨b, 0, none⟩)) #[Value.int .u64 0, Value.int .i64 0, Value.int .i64 0] 32 (fun _ => by kernel_rfl) hW ?_)); clear hA ac hW; intro b49 w50 hW hb49 hfw50 ac hA
     refine stF hA (by kernel_rfl) (by kernel_rfl) (by kernel_rfl) (by kernel_rfl) (RunsF.of (Runs.store (v := (⟨0, ⟨0, 0⟩⟩ : Mark).v) (b := b49) (j := 0) (n := 3) (cs' := #[Value.int .u64 (⟨0, ⟨0, 0⟩⟩ : Mark).clock, Value.int .i64 (⟨0, ⟨0, 0⟩⟩ : Mark).site.f, Value.int .i64 (⟨0, ⟨0, 0⟩⟩ : Mark).site.pc]) (H' := [Cel b49 #[Value.int .u64 (⟨0, ⟨0, 0⟩⟩ : Mark).clock, Value.int .i64 (⟨0, ⟨0, 0⟩⟩ : Mark).site.f, Value.int .i64 (⟨0, ⟨0, 0⟩⟩ : Mark).site.pc] 32, Cel b3 #[Value.bool false] 4, Cel b1 #[Value.int .i64 x.what, Value.int .i64 x.h, Value.int .i64 x.id, Value.int .u64 x.m.clock, Value.int .i64 x.m.site.f, Value.int .i64 x.m.site.pc] 34]) (by kernel_rfl) (by kernel_rfl) (by kernel_rfl) (by kernel_rfl) (by kernel_rfl) hW 0 (by rfl) (Nat.le_of_ble_eq_true (by kernel_rfl)) (by kernel_rfl) (by rfl) ?_)); clear hA ac hW; intro w51 hW ac hA
     refine st_rdF (v := Value.bool false) hA (by kernel_rfl) (by kernel_rfl) (by kernel_rfl) (by kernel_rfl) hW.cls (Rd.pure fun _ => by kernel_rfl) ?_; clear hA ac; intro ac hA
     refine wpListIn_nil ?_
     refine thenN ?_
     refine wpIn_seq ?_
     refine wpIn_region_lit ?_
     refine st_rdF (v := Value.pointer none) hA (by kernel_rfl) (by kernel_rfl) (by kernel_rfl) (by kernel_rfl) hW.cls (Rd.pure fun _ => by kernel_rfl) ?_; clear hA ac; intro ac hA
     refine st_rdF (v := Value.pointer (some ⟨b1, 1, none⟩)) hA (by kernel_rfl) (by kernel_rfl) (by kernel_rfl) (by kernel_rfl) hW.cls (Rd.pure fun _ => by kernel_rfl) ?_; clear hA ac; intro ac hA
     refine st_rdF (v := Value.int .i64 x.h) hA (by kernel_rfl) (by kernel_rfl) (by kernel_rfl) (by kernel_rfl) hW.cls (Rd.load (b := b1) (i := 1) (by kernel_rfl) (fun _ hw => (hw.1).cel 2 rfl) (by kernel_rfl)) ?_; clear hA ac; intro ac hA
     refine stF hA (by kernel_rfl) (by kernel_rfl) (by kernel_rfl) (by kernel_rfl) (RunsF.of (Runs.callN (v := Value.tuple #[Value.int .i64 0, (⟨0, ⟨0, 0⟩⟩ : Mark).v, Value.bool false]) (fun _ => by kernel_rfl) hW (e_beyond_nil (x.h) none 0 ([] : List Int) w51 (RowAt.nil' _ _) (by first | assumption | omega | (simp; omega) | simp) (by first | exact (Act23.bounds hx).1 | exact (Act23.bounds hx).2 | omega | simp)) ?_)); clear hA ac hW; intro w52 hW hfw52 ac hA
     refine st_rdF (v := Value.tuple #[Value.int .i64 0, (⟨0, ⟨0, 0⟩⟩ : Mark).v, Value.bool false]) hA (by kernel_rfl) (by kernel_rfl) (by kernel_rfl) (by kernel_rfl) hW.cls (Rd.pure fun _ => by kernel_rfl) ?_; clear hA ac; intro ac hA
     refine st_rdF (v := Value.int .i64 0) hA (by kernel_rfl) (by kernel_rfl) (by kernel_rfl) (by kernel_rfl) hW.cls (Rd.pure fun _ => by kernel_rfl) ?_; clear hA ac; intro ac hA
     refine st_rdF (v := (⟨0, ⟨0, 0⟩⟩ : Mark).v) hA (by kernel_rfl) (by kernel_rfl) (by kernel_rfl) (by kernel_rfl) hW.cls (Rd.pure fun _ => by kernel_rfl) ?_; clear hA ac; intro ac hA
     refine st_rdF (v := Value.bool false) hA (by kernel_rfl) (by kernel_rfl) (by kernel_rfl) (by kernel_rfl) hW.cls (Rd.pure fun _ => by kernel_rfl) ?_; clear hA ac; intro ac hA
     refine stF hA (by kernel_rfl) (by kernel_rfl) (by kernel_rfl) (by kernel_rfl) (RunsF.of (Runs.cells (fun b => Value.pointer (some ⟨b, 0, none⟩)) #[Value.int .u64 0, Value.int .i64 0, Value.int .i64 0] 32 (fun _ => by kernel_rfl) hW ?_)); clear hA ac hW; intro b53 w54 hW hb53 hfw54 ac hA
     refine st_rdF (v := Value.int .i64 0) hA (by kernel_rfl) (by kernel_rfl) (by kernel_rfl) (by kernel_rfl) hW.cls (Rd.pure fun _ => by kernel_rfl) ?_; clear hA ac; intro ac hA
     refine stF hA (by kernel_rfl) (by kernel_rfl) (by kernel_rfl) (by kernel_rfl) (RunsF.of (Runs.store (v := (⟨0, ⟨0, 0⟩⟩ : Mark).v) (b := b53) (j := 0) (n := 3) (cs' := #[Value.int .u64 (⟨0, ⟨0, 0⟩⟩ : Mark).clock, Value.int .i64 (⟨0, ⟨0, 0⟩⟩ : Mark).site.f, Value.int .i64 (⟨0, ⟨0, 0⟩⟩ : Mark).site.pc]) (H' := [Cel b53 #[Value.int .u64 (⟨0, ⟨0, 0⟩⟩ : Mark).clock, Value.int .i64 (⟨0, ⟨0, 0⟩⟩ : Mark).site.f, Value.int .i64 (⟨0, ⟨0, 0⟩⟩ : Mark).site.pc] 32, Cel b49 #[Value.int .u64 (⟨0, ⟨0, 0⟩⟩ : Mark).clock, Value.int .i64 (⟨0, ⟨0, 0⟩⟩ : Mark).site.f, Value.int .i64 (⟨0, ⟨0, 0⟩⟩ : Mark).site.pc] 32, Cel b3 #[Value.bool false] 4, Cel b1 #[Value.int .i64 x.what, Value.int .i64 x.h, Value.int .i64 x.id, Value.int .u64 x.m.clock, Value.int .i64 x.m.site.f, Value.int .i64 x.m.site.pc] 34]) (by kernel_rfl) (by kernel_rfl) (by kernel_rfl) (by kernel_rfl) (by kernel_rfl) hW 0 (by rfl) (Nat.le_of_ble_eq_true (by kernel_rfl)) (by kernel_rfl) (by rfl) ?_)); clear hA ac hW; intro w55 hW ac hA
     refine st_rdF (v := Value.bool false) hA (by kernel_rfl) (by kernel_rfl) (by kernel_rfl) (by kernel_rfl) hW.cls (Rd.pure fun _ => by kernel_rfl) ?_; clear hA ac; intro ac hA
     refine wpListIn_nil ?_
     refine thenN ?_
     refine wpIn_seq ?_
     refine wpIn_region_lit ?_
     refine st_rdF (v := Value.pointer none) hA (by kernel_rfl) (by kernel_rfl) (by kernel_rfl) (by kernel_rfl) hW.cls (Rd.pure fun _ => by kernel_rfl) ?_; clear hA ac; intro ac hA
     refine st_rdF (v := Value.pointer (some ⟨b1, 1, none⟩)) hA (by kernel_rfl) (by kernel_rfl) (by kernel_rfl) (by kernel_rfl) hW.cls (Rd.pure fun _ => by kernel_rfl) ?_; clear hA ac; intro ac hA
     refine st_rdF (v := Value.int .i64 x.h) hA (by kernel_rfl) (by kernel_rfl) (by kernel_rfl) (by kernel_rfl) hW.cls (Rd.load (b := b1) (i := 1) (by kernel_rfl) (fun _ hw => (hw.1).cel 3 rfl) (by kernel_rfl)) ?_; clear hA ac; intro ac hA
     refine stF hA (by kernel_rfl) (by kernel_rfl) (by kernel_rfl) (by kernel_rfl) (RunsF.of (Runs.call (fun _ => by kernel_rfl) (e_each_nil (x.h) w55) ?_))
     rintro _ w56 ⟨lb57, g58, rfl, hIg58, hfg58, hfw56⟩; refine ⟨_, rfl, ?_⟩; have hW0 := hW; have hW := hW0.call hfw56; have hW := hW0.addFromAt hW hfg58 in_nil; clear hW0 hA ac; intro ac hA
     refine st_rdF (v := Value.func (.func 31) #[] lb57) hA (by kernel_rfl) (by kernel_rfl) (by kernel_rfl) (by kernel_rfl) hW.cls (Rd.pure fun _ => by kernel_rfl) ?_; clear hA ac; intro ac hA
     refine wpListIn_nil ?_
     refine thenN ?_
     refine wpIn_seq ?_
     refine wpIn_seq ?_
     refine wpIn_region_lit ?_
     refine st_rdF (v := Value.func (.func 31) #[] lb57) hA (by kernel_rfl) (by kernel_rfl) (by kernel_rfl) (by kernel_rfl) hW.cls (Rd.pure fun _ => by kernel_rfl) ?_; clear hA ac; intro ac hA
     refine st_rdF (v := Value.bool false) hA (by kernel_rfl) (by kernel_rfl) (by kernel_rfl) (by kernel_rfl) hW.cls (Rd.pure fun _ => by kernel_rfl) ?_; clear hA ac; intro ac hA
     refine wpListIn_nil ?_
     refine thenN ?_
     refine wpIn_cond_false (hA.eval (by kernel_rfl)) ?_
     refine wpIn_skip ?_
     refine thenN ?_
     refine wpIn_seq ?_
     refine wpIn_seq ?_
     refine wpIn_region_lit ?_
     refine st_rdF (v := Value.func (.func 31) #[] lb57) hA (by kernel_rfl) (by kernel_rfl) (by kernel_rfl) (by kernel_rfl) hW.cls (Rd.pure fun _ => by kernel_rfl) ?_; clear hA ac; intro ac hA
     refine wpListIn_nil ?_
     refine thenN ?_
     refine wpIn_block ?_
     refine wp_range (encs := (fun x_ : Int × Mark => #[Value.int .i64 x_.1, x_.2.v])) (Sx := (EachR none)) hA (by kernel_rfl) (by kernel_rfl) (enters_of Try.func31 (by kernel_rfl) rfl) (by kernel_rfl) (fun _ => rfl) hIg58 (List.forall_mem_singleton.2 (List.mem_of_getElem? (i := 0) rfl)) (fun pre_ H_ => True ∧ H_ = []) (fun _ _ _ => False) (H := []) (K := [Cel b53 #[Value.int .u64 (⟨0, ⟨0, 0⟩⟩ : Mark).clock, Value.int .i64 (⟨0, ⟨0, 0⟩⟩ : Mark).site.f, Value.int .i64 (⟨0, ⟨0, 0⟩⟩ : Mark).site.pc] 32, Cel b49 #[Value.int .u64 (⟨0, ⟨0, 0⟩⟩ : Mark).clock, Value.int .i64 (⟨0, ⟨0, 0⟩⟩ : Mark).site.f, Value.int .i64 (⟨0, ⟨0, 0⟩⟩ : Mark).site.pc] 32, Cel b3 #[Value.bool false] 4, Cel b1 #[Value.int .i64 x.what, Value.int .i64 x.h, Value.int .i64 x.id, Value.int .u64 x.m.clock, Value.int .i64 x.m.site.f, Value.int .i64 x.m.site.pc] 34]) (hW.pick [0, 1, 2, 3] (by decide) rfl) ⟨trivial, rfl⟩ ?_ ?_ ?_
     · skip
       clear hA ac hW; intro l_59 rd_59 bs_59 pre_ x_ Hk_ w60 T_59 ac hrd_59 hbs_59 hbr_59 hok_ hJ_ hA hW hB_59 hT_59
       obtain ⟨_, rfl⟩ := hJ_
       replace hA : Fm 103 [] [(0, x.v), (1, Value.bool zero), (2, Value.pointer (some ⟨b1, 0, none⟩)), (4, Value.pointer (some ⟨b3, 0, none⟩)), (5, Value.pointer none), (6, Value.int .i64 0), (7, Value.int .i64 1), (8, Value.pointer (some ⟨b49, 0, none⟩)), (9, Value.bool false), (10, Value.int .i64 0), (11, Value.pointer (some ⟨b53, 0, none⟩)), (12, Value.bool false), (13, Value.func (.func 31) #[] lb57), (14, Value.bool zero), (17, Value.tuple #[Value.int .i64 0, Value.int .i64 1]), (18, Value.pointer none), (19, Value.tuple #[Value.int .i64 0, Value.int .i64 1]), (20, Value.int .i64 0), (21, Value.int .i64 1), (22, Value.tuple #[(⟨0, ⟨0, 0⟩⟩ : Mark).v, Value.bool false]), (23, Value.pointer none), (24, Value.pointer (some ⟨b1, 1, none⟩)), (25, Value.int .i64 x.h), (26, Value.pointer (some ⟨b1, 2, none⟩)), (27, Value.int .i64 x.id), (28, Value.tuple #[(⟨0, ⟨0, 0⟩⟩ : Mark).v, Value.bool false]), (29, (⟨0, ⟨0, 0⟩⟩ : Mark).v), (30, Value.bool false), (31, Value.tuple #[Value.int .i64 0, (⟨0, ⟨0, 0⟩⟩ : Mark).v, Value.bool false]), (32, Value.pointer none), (33, Value.pointer (some ⟨b1, 1, none⟩)), (34, Value.int .i64 x.h), (35, Value.tuple #[Value.int .i64 0, (⟨0, ⟨0, 0⟩⟩ : Mark).v, Value.bool false]), (36, Value.int .i64 0), (37, (⟨0, ⟨0, 0⟩⟩ : Mark).v), (38, Value.bool false), (39, Value.pointer none), (40, Value.pointer (some ⟨b1, 1, none⟩)), (41, Value.int .i64 x.h), (42, Value.func (.func 31) #[] lb57), (43, Value.func (.func 31) #[] lb57), (44, Value.bool false), (45, Value.func (.func 31) #[] lb57), (46, Value.int .i64 x_.1), (47, x_.2.v)] ac := hA.sub ⟨⟨by kernel_rfl, by kernel_rfl⟩, ⟨by kernel_rfl, by kernel_rfl⟩, ⟨by kernel_rfl, by kernel_rfl⟩, ⟨by kernel_rfl, by kernel_rfl⟩, ⟨by kernel_rfl, by kernel_rfl⟩, ⟨by kernel_rfl, by kernel_rfl⟩, ⟨by kernel_rfl, by kernel_rfl⟩, ⟨by kernel_rfl, by kernel_rfl⟩, ⟨by kernel_rfl, by kernel_rfl⟩, ⟨by kernel_rfl, by kernel_rfl⟩, ⟨by kernel_rfl, by kernel_rfl⟩, ⟨by kernel_rfl, by kernel_rfl⟩, ⟨by kernel_rfl, by kernel_rfl⟩, ⟨by kernel_rfl, by kernel_rfl⟩, ⟨by kernel_rfl, by kernel_rfl⟩, ⟨by kernel_rfl, by kernel_rfl⟩, ⟨by kernel_rfl, by kernel_rfl⟩, ⟨by kernel_rfl, by kernel_rfl⟩, ⟨by kernel_rfl, by kernel_rfl⟩, ⟨by kernel_rfl, by kernel_rfl⟩, ⟨by kernel_rfl, by kernel_rfl⟩, ⟨by kernel_rfl, by kernel_rfl⟩, ⟨by kernel_rfl, by kernel_rfl⟩, ⟨by kernel_rfl, by kernel_rfl⟩, ⟨by kernel_rfl, by kernel_rfl⟩, ⟨by kernel_rfl, by kernel_rfl⟩, ⟨by kernel_rfl, by kernel_rfl⟩, ⟨by kernel_rfl, by kernel_rfl⟩, ⟨by kernel_rfl, by kernel_rfl⟩, ⟨by kernel_rfl, by kernel_rfl⟩, ⟨by kernel_rfl, by kernel_rfl⟩, ⟨by kernel_rfl, by kernel_rfl⟩, ⟨by kernel_rfl, by kernel_rfl⟩, ⟨by kernel_rfl, by kernel_rfl⟩, ⟨by kernel_rfl, by kernel_rfl⟩, ⟨by kernel_rfl, by kernel_rfl⟩, ⟨by kernel_rfl, by kernel_rfl⟩, ⟨by kernel_rfl, by kernel_rfl⟩, ⟨by kernel_rfl, by kernel_rfl⟩, ⟨by kernel_rfl, by kernel_rfl⟩, ⟨by kernel_rfl, by kernel_rfl⟩, ⟨by kernel_rfl, by kernel_rfl⟩, ⟨by kernel_rfl, by kernel_rfl⟩, ⟨by kernel_rfl, by kernel_rfl⟩, ⟨by kernel_rfl, by kernel_rfl⟩, trivial⟩
       exact (each_none hok_).elim
     · skip
       clear hA ac hW; intro D61 xs_ Hk_ w62 ac hS_ hJ_ hA hW
       obtain ⟨_, rfl⟩ := hJ_
       replace hW : Ws w No [DefR D61, Cel b53 #[Value.int .u64 (⟨0, ⟨0, 0⟩⟩ : Mark).clock, Value.int .i64 (⟨0, ⟨0, 0⟩⟩ : Mark).site.f, Value.int .i64 (⟨0, ⟨0, 0⟩⟩ : Mark).site.pc] 32, Cel b49 #[Value.int .u64 (⟨0, ⟨0, 0⟩⟩ : Mark).clock, Value.int .i64 (⟨0, ⟨0, 0⟩⟩ : Mark).site.f, Value.int .i64 (⟨0, ⟨0, 0⟩⟩ : Mark).site.pc] 32, Cel b3 #[Value.bool false] 4, Cel b1 #[Value.int .i64 x.what, Value.int .i64 x.h, Value.int .i64 x.id, Value.int .u64 x.m.clock, Value.int .i64 x.m.site.f, Value.int .i64 x.m.site.pc] 34] [g58] w62 := hW
       refine blkN ?_
       refine thenN ?_
       refine wpIn_seq ?_
       refine wpIn_region_lit ?_
       refine st_rdF (v := Value.int .i64 1) hA (by kernel_rfl) (by kernel_rfl) (by kernel_rfl) (by kernel_rfl) hW.cls (Rd.pure fun _ => by kernel_rfl) ?_; clear hA ac; intro ac hA
       refine stF hA (by kernel_rfl) (by kernel_rfl) (by kernel_rfl) (by kernel_rfl) (RunsF.of (Runs.callS (v := Value.int .i64 (1)) (fun _ => by kernel_rfl) (e_num23 (1) w62) ?_)); clear hA ac; intro  ac hA
       refine st_rdF (v := Value.bool (((1) : Int) == (1 : Int))) hA (by kernel_rfl) (by kernel_rfl) (by kernel_rfl) (by kernel_rfl) hW.cls (Rd.pure fun _ => by kernel_rfl) ?_; clear hA ac; intro ac hA
       refine st_rdF (v := Value.bool (((1) : Int) == (1 : Int))) hA (by kernel_rfl) (by kernel_rfl) (by kernel_rfl) (by kernel_rfl) hW.cls (Rd.pure fun _ => by kernel_rfl) ?_; clear hA ac; intro ac hA
       rcases Bool.eq_false_or_eq_true (((1) : Int) == (1 : Int)) with h63 | h63
       · skip
         rw [h63] at hA
         have h63 := eq_of_beq h63
         first
         | (exfalso; clear hA hW; omega)
         | (
           refine st_rdF (v := Value.pointer none) hA (by kernel_rfl) (by kernel_rfl) (by kernel_rfl) (by kernel_rfl) hW.cls (Rd.pure fun _ => by kernel_rfl) ?_; clear hA ac; intro ac hA
           refine st_rdF (v := Value.pointer (some ⟨b1, 1, none⟩)) hA (by kernel_rfl) (by kernel_rfl) (by kernel_rfl) (by kernel_rfl) hW.cls (Rd.pure fun _ => by kernel_rfl) ?_; clear hA ac; intro ac hA
           refine st_rdF (v := Value.int .i64 x.h) hA (by kernel_rfl) (by kernel_rfl) (by kernel_rfl) (by kernel_rfl) hW.cls (Rd.load (b := b1) (i := 1) (by kernel_rfl) (fun _ hw => (hw.1).cel 4 rfl) (by kernel_rfl)) ?_; clear hA ac; intro ac hA
           refine st_rdF (v := Value.pointer (some ⟨b1, 2, none⟩)) hA (by kernel_rfl) (by kernel_rfl) (by kernel_rfl) (by kernel_rfl) hW.cls (Rd.pure fun _ => by kernel_rfl) ?_; clear hA ac; intro ac hA
           refine st_rdF (v := Value.int .i64 x.id) hA (by kernel_rfl) (by kernel_rfl) (by kernel_rfl) (by kernel_rfl) hW.cls (Rd.load (b := b1) (i := 2) (by kernel_rfl) (fun _ hw => (hw.1).cel 4 rfl) (by kernel_rfl)) ?_; clear hA ac; intro ac hA
           refine st_rdF (v := Value.pointer (some ⟨b1, 3, none⟩)) hA (by kernel_rfl) (by kernel_rfl) (by kernel_rfl) (by kernel_rfl) hW.cls (Rd.pure fun _ => by kernel_rfl) ?_; clear hA ac; intro ac hA
           refine st_rdF (v := Value.agg #[Value.int .u64 x.m.clock, Value.int .i64 x.m.site.f, Value.int .i64 x.m.site.pc]) hA (by kernel_rfl) (by kernel_rfl) (by kernel_rfl) (by kernel_rfl) hW.cls (Rd.load (b := b1) (i := 3) (by kernel_rfl) (fun _ hw => (hw.1).cel 4 rfl) (by kernel_rfl)) ?_; clear hA ac; intro ac hA
           refine stF hA (by kernel_rfl) (by kernel_rfl) (by kernel_rfl) (by kernel_rfl) (RunsF.of (Runs.callN (v := Value.int .i64 1) (fun _ => by kernel_rfl) hW (e_mark_nil (x.h) (x.id) x.m w62 (by first | exact (Act23.bounds hx).1 | exact (Act23.bounds hx).2 | omega | simp) (by first | exact (Act23.bounds hx).1 | exact (Act23.bounds hx).2 | omega | simp)) ?_)); clear hA ac hW; intro w64 hW hfw64 ac hA
           refine stF hA (by kernel_rfl) (by kernel_rfl) (by kernel_rfl) (by kernel_rfl) (RunsF.of (Runs.callS (v := Value.int .i64 (1)) (fun _ => by kernel_rfl) (e_num23 (1) w64) ?_)); clear hA ac; intro  ac hA
           refine st_rdF (v := Value.bool (((1) : Int) == (1 : Int))) hA (by kernel_rfl) (by kernel_rfl) (by kernel_rfl) (by kernel_rfl) hW.cls (Rd.pure fun _ => by kernel_rfl) ?_; clear hA ac; intro ac hA
           refine st_rdF (v := Value.bool (((1) : Int) == (1 : Int))) hA (by kernel_rfl) (by kernel_rfl) (by kernel_rfl) (by kernel_rfl) hW.cls (Rd.pure fun _ => by kernel_rfl) ?_; clear hA ac; intro ac hA
           refine st_rdF (v := Value.bool (((1) : Int) == (1 : Int))) hA (by kernel_rfl) (by kernel_rfl) (by kernel_rfl) (by kernel_rfl) hW.cls (Rd.pure fun _ => by kernel_rfl) ?_; clear hA ac; intro ac hA
           rcases Bool.eq_false_or_eq_true (((1) : Int) == (1 : Int)) with h65 | h65
           · skip
             rw [h65] at hA
             have h65 := eq_of_beq h65
             first
             | (exfalso; clear hA hW; omega)
             | (
               refine st_rdF (v := Value.pointer none) hA (by kernel_rfl) (by kernel_rfl) (by kernel_rfl) (by kernel_rfl) hW.cls (Rd.pure fun _ => by kernel_rfl) ?_; clear hA ac; intro ac hA
               refine st_rdF (v := Value.pointer (some ⟨b1, 1, none⟩)) hA (by kernel_rfl) (by kernel_rfl) (by kernel_rfl) (by kernel_rfl) hW.cls (Rd.pure fun _ => by kernel_rfl) ?_; clear hA ac; intro ac hA
               refine st_rdF (v := Value.int .i64 x.h) hA (by kernel_rfl) (by kernel_rfl) (by kernel_rfl) (by kernel_rfl) hW.cls (Rd.load (b := b1) (i := 1) (by kernel_rfl) (fun _ hw => (hw.1).cel 4 rfl) (by kernel_rfl)) ?_; clear hA ac; intro ac hA
               refine stF hA (by kernel_rfl) (by kernel_rfl) (by kernel_rfl) (by kernel_rfl) (RunsF.of (Runs.callN (v := Value.int .i64 1) (fun _ => by kernel_rfl) hW (e_free_nil (x.h) w64) ?_)); clear hA ac hW; intro w66 hW hfw66 ac hA
               refine stF hA (by kernel_rfl) (by kernel_rfl) (by kernel_rfl) (by kernel_rfl) (RunsF.of (Runs.callS (v := Value.int .i64 (1)) (fun _ => by kernel_rfl) (e_num23 (1) w66) ?_)); clear hA ac; intro  ac hA
               refine st_rdF (v := Value.bool (((1) : Int) == (1 : Int))) hA (by kernel_rfl) (by kernel_rfl) (by kernel_rfl) (by kernel_rfl) hW.cls (Rd.pure fun _ => by kernel_rfl) ?_; clear hA ac; intro ac hA
               refine st_rdF (v := Value.bool (((1) : Int) == (1 : Int))) hA (by kernel_rfl) (by kernel_rfl) (by kernel_rfl) (by kernel_rfl) hW.cls (Rd.pure fun _ => by kernel_rfl) ?_; clear hA ac; intro ac hA
               refine st_rdF (v := Value.bool (((1) : Int) == (1 : Int))) hA (by kernel_rfl) (by kernel_rfl) (by kernel_rfl) (by kernel_rfl) hW.cls (Rd.pure fun _ => by kernel_rfl) ?_; clear hA ac; intro ac hA
               rcases Bool.eq_false_or_eq_true (((1) : Int) == (1 : Int)) with h67 | h67
               · skip
                 rw [h67] at hA
                 have h67 := eq_of_beq h67
                 first
                 | (exfalso; clear hA hW; omega)
                 | (
                   refine st_rdF (v := Value.bool false) hA (by kernel_rfl) (by kernel_rfl) (by kernel_rfl) (by kernel_rfl) hW.cls (Rd.pure fun _ => by kernel_rfl) ?_; clear hA ac; intro ac hA
                   refine st_rdF (v := Value.bool true) hA (by kernel_rfl) (by kernel_rfl) (by kernel_rfl) (by kernel_rfl) hW.cls (Rd.pure fun _ => by kernel_rfl) ?_; clear hA ac; intro ac hA
                   refine st_rdF (v := Value.bool true) hA (by kernel_rfl) (by kernel_rfl) (by kernel_rfl) (by kernel_rfl) hW.cls (Rd.pure fun _ => by kernel_rfl) ?_; clear hA ac; intro ac hA
                   refine st_rdF (v := Value.bool true) hA (by kernel_rfl) (by kernel_rfl) (by kernel_rfl) (by kernel_rfl) hW.cls (Rd.pure fun _ => by kernel_rfl) ?_; clear hA ac; intro ac hA
                   refine st_rdF (v := Value.bool false) hA (by kernel_rfl) (by kernel_rfl) (by kernel_rfl) (by kernel_rfl) hW.cls (Rd.pure fun _ => by kernel_rfl) ?_; clear hA ac; intro ac hA
                   refine st_rdF (v := Value.bool true) hA (by kernel_rfl) (by kernel_rfl) (by kernel_rfl) (by kernel_rfl) hW.cls (Rd.pure fun _ => by kernel_rfl) ?_; clear hA ac; intro ac hA
                   refine st_rdF (v := Value.bool true) hA (by kernel_rfl) (by kernel_rfl) (by kernel_rfl) (by kernel_rfl) hW.cls (Rd.pure fun _ => by kernel_rfl) ?_; clear hA ac; intro ac hA
                   refine st_rdF (v := Value.bool true) hA (by kernel_rfl) (by kernel_rfl) (by kernel_rfl) (by kernel_rfl) hW.cls (Rd.pure fun _ => by kernel_rfl) ?_; clear hA ac; intro ac hA
                   refine st_rdF (v := Value.pointer none) hA (by kernel_rfl) (by kernel_rfl) (by kernel_rfl) (by kernel_rfl) hW.cls (Rd.pure fun _ => by kernel_rfl) ?_; clear hA ac; intro ac hA
                   refine stF hA (by kernel_rfl) (by kernel_rfl) (by kernel_rfl) (by kernel_rfl) (RunsF.of (Runs.callN (v := Value.slice none 0 0) (fun _ => by kernel_rfl) hW (e_live_nil w66) ?_)); clear hA ac hW; intro w68 hW hfw68 ac hA
                   refine st_rdF (v := Value.int .i64 0) hA (by kernel_rfl) (by kernel_rfl) (by kernel_rfl) (by kernel_rfl) hW.cls (Rd.pure fun _ => by kernel_rfl) ?_; clear hA ac; intro ac hA
                   refine st_rdF (v := Value.bool true) hA (by kernel_rfl) (by kernel_rfl) (by kernel_rfl) (by kernel_rfl) hW.cls (Rd.pure fun _ => by kernel_rfl) ?_; clear hA ac; intro ac hA
                   refine st_rdF (v := Value.bool true) hA (by kernel_rfl) (by kernel_rfl) (by kernel_rfl) (by kernel_rfl) hW.cls (Rd.pure fun _ => by kernel_rfl) ?_; clear hA ac; intro ac hA
                   refine st_rdF (v := Value.bool true) hA (by kernel_rfl) (by kernel_rfl) (by kernel_rfl) (by kernel_rfl) hW.cls (Rd.pure fun _ => by kernel_rfl) ?_; clear hA ac; intro ac hA
                   refine st_rdF (v := Value.pointer none) hA (by kernel_rfl) (by kernel_rfl) (by kernel_rfl) (by kernel_rfl) hW.cls (Rd.pure fun _ => by kernel_rfl) ?_; clear hA ac; intro ac hA
                   refine stF hA (by kernel_rfl) (by kernel_rfl) (by kernel_rfl) (by kernel_rfl) (RunsF.of (Runs.callN (v := Value.pointer none) (fun _ => by kernel_rfl) hW (e_copy_nil w68) ?_)); clear hA ac hW; intro w69 hW hfw69 ac hA
                   refine st_rdF (v := Value.bool true) hA (by kernel_rfl) (by kernel_rfl) (by kernel_rfl) (by kernel_rfl) hW.cls (Rd.pure fun _ => by kernel_rfl) ?_; clear hA ac; intro ac hA
                   refine st_rdF (v := Value.bool true) hA (by kernel_rfl) (by kernel_rfl) (by kernel_rfl) (by kernel_rfl) hW.cls (Rd.pure fun _ => by kernel_rfl) ?_; clear hA ac; intro ac hA
                   refine st_rdF (v := Value.bool true) hA (by kernel_rfl) (by kernel_rfl) (by kernel_rfl) (by kernel_rfl) hW.cls (Rd.pure fun _ => by kernel_rfl) ?_; clear hA ac; intro ac hA
                   refine st_rdF (v := Value.pointer none) hA (by kernel_rfl) (by kernel_rfl) (by kernel_rfl) (by kernel_rfl) hW.cls (Rd.pure fun _ => by kernel_rfl) ?_; clear hA ac; intro ac hA
                   refine stF hA (by kernel_rfl) (by kernel_rfl) (by kernel_rfl) (by kernel_rfl) (RunsF.of (Runs.callN (v := Value.bool true) (fun _ => by kernel_rfl) hW (e_same_nil w69) ?_)); clear hA ac hW; intro w70 hW hfw70 ac hA
                   refine st_rdF (v := Value.bool true) hA (by kernel_rfl) (by kernel_rfl) (by kernel_rfl) (by kernel_rfl) hW.cls (Rd.pure fun _ => by kernel_rfl) ?_; clear hA ac; intro ac hA
                   refine st_rdF (v := Value.bool true) hA (by kernel_rfl) (by kernel_rfl) (by kernel_rfl) (by kernel_rfl) hW.cls (Rd.pure fun _ => by kernel_rfl) ?_; clear hA ac; intro ac hA
                   refine stF hA (by kernel_rfl) (by kernel_rfl) (by kernel_rfl) (by kernel_rfl) (RunsF.of (Runs.call (fun _ => by kernel_rfl) (e_pNew w70) ?_))
                   rintro _ w71 ⟨n72, n73, rfl, hu_⟩; refine ⟨_, rfl, ?_⟩; replace hW := hW.made hu_; clear hA ac; intro ac hA
                   refine st_rdF (v := Value.pointer none) hA (by kernel_rfl) (by kernel_rfl) (by kernel_rfl) (by kernel_rfl) hW.cls (Rd.pure fun _ => by kernel_rfl) ?_; clear hA ac; intro ac hA
                   refine stF hA (by kernel_rfl) (by kernel_rfl) (by kernel_rfl) (by kernel_rfl) (RunsF.of (Runs.callN (v := Value.bool false) (fun _ => by kernel_rfl) hW (e_same_onil n72 n73 ([] : List (Int × Nat × List (Int × Mark))) w71 ((hW).get 0 rfl) ((hW).lt _ (List.mem_of_getElem? (i := 0) rfl))) ?_)); clear hA ac hW; intro w74 hW hfw74 ac hA
                   refine st_rdF (v := Value.bool true) hA (by kernel_rfl) (by kernel_rfl) (by kernel_rfl) (by kernel_rfl) hW.cls (Rd.pure fun _ => by kernel_rfl) ?_; clear hA ac; intro ac hA
                   refine st_rdF (v := Value.bool true) hA (by kernel_rfl) (by kernel_rfl) (by kernel_rfl) (by kernel_rfl) hW.cls (Rd.pure fun _ => by kernel_rfl) ?_; clear hA ac; intro ac hA
                   refine st_rdF (v := Value.bool true) hA (by kernel_rfl) (by kernel_rfl) (by kernel_rfl) (by kernel_rfl) hW.cls (Rd.pure fun _ => by kernel_rfl) ?_; clear hA ac; intro ac hA
                   refine stF hA (by kernel_rfl) (by kernel_rfl) (by kernel_rfl) (by kernel_rfl) (RunsF.of (Runs.callN (v := Value.bool true) (fun _ => by kernel_rfl) hW (e_works23 w74) ?_)); clear hA ac hW; intro w75 hW hfw75 ac hA
                   refine st_rdF (v := Value.bool true) hA (by kernel_rfl) (by kernel_rfl) (by kernel_rfl) (by kernel_rfl) hW.cls (Rd.pure fun _ => by kernel_rfl) ?_; clear hA ac; intro ac hA
                   refine stF hA (by kernel_rfl) (by kernel_rfl) (by kernel_rfl) (by kernel_rfl) (RunsF.of (Runs.store (v := Value.bool true) (b := b3) (j := 0) (n := 1) (cs' := #[Value.bool true]) (H' := [PoolR n72 n73 ([] : List (Int × Nat × List (Int × Mark))), DefR D61, Cel b53 #[Value.int .u64 (⟨0, ⟨0, 0⟩⟩ : Mark).clock, Value.int .i64 (⟨0, ⟨0, 0⟩⟩ : Mark).site.f, Value.int .i64 (⟨0, ⟨0, 0⟩⟩ : Mark).site.pc] 32, Cel b49 #[Value.int .u64 (⟨0, ⟨0, 0⟩⟩ : Mark).clock, Value.int .i64 (⟨0, ⟨0, 0⟩⟩ : Mark).site.f, Value.int .i64 (⟨0, ⟨0, 0⟩⟩ : Mark).site.pc] 32, Cel b3 #[Value.bool true] 4, Cel b1 #[Value.int .i64 x.what, Value.int .i64 x.h, Value.int .i64 x.id, Value.int .u64 x.m.clock, Value.int .i64 x.m.site.f, Value.int .i64 x.m.site.pc] 34]) (by kernel_rfl) (by kernel_rfl) (by kernel_rfl) (by kernel_rfl) (by kernel_rfl) hW 4 (by rfl) (Nat.le_of_ble_eq_true (by kernel_rfl)) (by kernel_rfl) (by rfl) ?_)); clear hA ac hW; intro w76 hW ac hA
                   refine wpListIn_nil ?_
                   refine thenN ?_
                   refine wpIn_ret ?_
                   refine retF (.inl rfl) hA ?_
                   refine leaveD (H' := [PoolR n72 n73 ([] : List (Int × Nat × List (Int × Mark))), Cel b53 #[Value.int .u64 (⟨0, ⟨0, 0⟩⟩ : Mark).clock, Value.int .i64 (⟨0, ⟨0, 0⟩⟩ : Mark).site.f, Value.int .i64 (⟨0, ⟨0, 0⟩⟩ : Mark).site.pc] 32, Cel b49 #[Value.int .u64 (⟨0, ⟨0, 0⟩⟩ : Mark).clock, Value.int .i64 (⟨0, ⟨0, 0⟩⟩ : Mark).site.f, Value.int .i64 (⟨0, ⟨0, 0⟩⟩ : Mark).site.pc] 32, Cel b3 #[Value.bool true] 4, Cel b1 #[Value.int .i64 x.what, Value.int .i64 x.h, Value.int .i64 x.id, Value.int .u64 x.m.clock, Value.int .i64 x.m.site.f, Value.int .i64 x.m.site.pc] 34]) hW 1 rfl rfl ?_; clear hW; intro w77 hW
                   refine leave1 (v := Value.bool true) (by rfl) (GotF.cell (b := b3) (i := 0) hA (by kernel_rfl) (by kernel_rfl) (hW.cel 3 rfl) (by kernel_rfl)) ?_
                   clear hA
                   exact ⟨retv (by rfl), hW.fr⟩)
               · skip
                 rw [h67] at hA
                 have h67 := ne_of_beq_false h67
                 first
                 | (exfalso; clear hA hW; omega)
                 | (
                   refine st_skipF hA (by kernel_rfl) (by kernel_rfl) ?_; clear hA ac; intro ac hA
                   refine st_skipF hA (by kernel_rfl) (by kernel_rfl) ?_; clear hA ac; intro ac hA
                   refine st_rdF (v := Value.bool false) hA (by kernel_rfl) (by kernel_rfl) (by kernel_rfl) (by kernel_rfl) hW.cls (Rd.pure fun _ => by kernel_rfl) ?_; clear hA ac; intro ac hA
                   refine st_rdF (v := Value.bool false) hA (by kernel_rfl) (by kernel_rfl) (by kernel_rfl) (by kernel_rfl) hW.cls (Rd.pure fun _ => by kernel_rfl) ?_; clear hA ac; intro ac hA
                   refine st_skipF hA (by kernel_rfl) (by kernel_rfl) ?_; clear hA ac; intro ac hA
                   refine st_skipF hA (by kernel_rfl) (by kernel_rfl) ?_; clear hA ac; intro ac hA
                   refine st_rdF (v := Value.bool false) hA (by kernel_rfl) (by kernel_rfl) (by kernel_rfl) (by kernel_rfl) hW.cls (Rd.pure fun _ => by kernel_rfl) ?_; clear hA ac; intro ac hA
                   refine st_rdF (v := Value.bool false) hA (by kernel_rfl) (by kernel_rfl) (by kernel_rfl) (by kernel_rfl) hW.cls (Rd.pure fun _ => by kernel_rfl) ?_; clear hA ac; intro ac hA
                   refine st_skipF hA (by kernel_rfl) (by kernel_rfl) ?_; clear hA ac; intro ac hA
                   refine st_skipF hA (by kernel_rfl) (by kernel_rfl) ?_; clear hA ac; intro ac hA
                   refine st_skipF hA (by kernel_rfl) (by kernel_rfl) ?_; clear hA ac; intro ac hA
                   refine st_skipF hA (by kernel_rfl) (by kernel_rfl) ?_; clear hA ac; intro ac hA
                   refine st_rdF (v := Value.bool false) hA (by kernel_rfl) (by kernel_rfl) (by kernel_rfl) (by kernel_rfl) hW.cls (Rd.pure fun _ => by kernel_rfl) ?_; clear hA ac; intro ac hA
                   refine st_rdF (v := Value.bool false) hA (by kernel_rfl) (by kernel_rfl) (by kernel_rfl) (by kernel_rfl) hW.cls (Rd.pure fun _ => by kernel_rfl) ?_; clear hA ac; intro ac hA
                   refine st_skipF hA (by kernel_rfl) (by kernel_rfl) ?_; clear hA ac; intro ac hA
                   refine st_skipF hA (by kernel_rfl) (by kernel_rfl) ?_; clear hA ac; intro ac hA
                   refine st_skipF hA (by kernel_rfl) (by kernel_rfl) ?_; clear hA ac; intro ac hA
                   refine st_rdF (v := Value.bool false) hA (by kernel_rfl) (by kernel_rfl) (by kernel_rfl) (by kernel_rfl) hW.cls (Rd.pure fun _ => by kernel_rfl) ?_; clear hA ac; intro ac hA
                   refine st_rdF (v := Value.bool false) hA (by kernel_rfl) (by kernel_rfl) (by kernel_rfl) (by kernel_rfl) hW.cls (Rd.pure fun _ => by kernel_rfl) ?_; clear hA ac; intro ac hA
                   refine st_skipF hA (by kernel_rfl) (by kernel_rfl) ?_; clear hA ac; intro ac hA
                   refine st_skipF hA (by kernel_rfl) (by kernel_rfl) ?_; clear hA ac; intro ac hA
                   refine st_rdF (v := Value.bool false) hA (by kernel_rfl) (by kernel_rfl) (by kernel_rfl) (by kernel_rfl) hW.cls (Rd.pure fun _ => by kernel_rfl) ?_; clear hA ac; intro ac hA
                   refine st_rdF (v := Value.bool false) hA (by kernel_rfl) (by kernel_rfl) (by kernel_rfl) (by kernel_rfl) hW.cls (Rd.pure fun _ => by kernel_rfl) ?_; clear hA ac; intro ac hA
                   refine st_skipF hA (by kernel_rfl) (by kernel_rfl) ?_; clear hA ac; intro ac hA
                   refine st_skipF hA (by kernel_rfl) (by kernel_rfl) ?_; clear hA ac; intro ac hA
                   refine st_skipF hA (by kernel_rfl) (by kernel_rfl) ?_; clear hA ac; intro ac hA
                   refine st_skipF hA (by kernel_rfl) (by kernel_rfl) ?_; clear hA ac; intro ac hA
                   refine st_rdF (v := Value.bool false) hA (by kernel_rfl) (by kernel_rfl) (by kernel_rfl) (by kernel_rfl) hW.cls (Rd.pure fun _ => by kernel_rfl) ?_; clear hA ac; intro ac hA
                   refine st_rdF (v := Value.bool false) hA (by kernel_rfl) (by kernel_rfl) (by kernel_rfl) (by kernel_rfl) hW.cls (Rd.pure fun _ => by kernel_rfl) ?_; clear hA ac; intro ac hA
                   refine st_skipF hA (by kernel_rfl) (by kernel_rfl) ?_; clear hA ac; intro ac hA
                   refine st_rdF (v := Value.bool false) hA (by kernel_rfl) (by kernel_rfl) (by kernel_rfl) (by kernel_rfl) hW.cls (Rd.pure fun _ => by kernel_rfl) ?_; clear hA ac; intro ac hA
                   refine stF hA (by kernel_rfl) (by kernel_rfl) (by kernel_rfl) (by kernel_rfl) (RunsF.of (Runs.store (v := Value.bool false) (b := b3) (j := 0) (n := 1) (cs' := #[Value.bool false]) (H' := [DefR D61, Cel b53 #[Value.int .u64 (⟨0, ⟨0, 0⟩⟩ : Mark).clock, Value.int .i64 (⟨0, ⟨0, 0⟩⟩ : Mark).site.f, Value.int .i64 (⟨0, ⟨0, 0⟩⟩ : Mark).site.pc] 32, Cel b49 #[Value.int .u64 (⟨0, ⟨0, 0⟩⟩ : Mark).clock, Value.int .i64 (⟨0, ⟨0, 0⟩⟩ : Mark).site.f, Value.int .i64 (⟨0, ⟨0, 0⟩⟩ : Mark).site.pc] 32, Cel b3 #[Value.bool false] 4, Cel b1 #[Value.int .i64 x.what, Value.int .i64 x.h, Value.int .i64 x.id, Value.int .u64 x.m.clock, Value.int .i64 x.m.site.f, Value.int .i64 x.m.site.pc] 34]) (by kernel_rfl) (by kernel_rfl) (by kernel_rfl) (by kernel_rfl) (by kernel_rfl) hW 3 (by rfl) (Nat.le_of_ble_eq_true (by kernel_rfl)) (by kernel_rfl) (by rfl) ?_)); clear hA ac hW; intro w78 hW ac hA
                   refine wpListIn_nil ?_
                   refine thenN ?_
                   refine wpIn_ret ?_
                   refine retF (.inl rfl) hA ?_
                   refine leaveD (H' := [Cel b53 #[Value.int .u64 (⟨0, ⟨0, 0⟩⟩ : Mark).clock, Value.int .i64 (⟨0, ⟨0, 0⟩⟩ : Mark).site.f, Value.int .i64 (⟨0, ⟨0, 0⟩⟩ : Mark).site.pc] 32, Cel b49 #[Value.int .u64 (⟨0, ⟨0, 0⟩⟩ : Mark).clock, Value.int .i64 (⟨0, ⟨0, 0⟩⟩ : Mark).site.f, Value.int .i64 (⟨0, ⟨0, 0⟩⟩ : Mark).site.pc] 32, Cel b3 #[Value.bool false] 4, Cel b1 #[Value.int .i64 x.what, Value.int .i64 x.h, Value.int .i64 x.id, Value.int .u64 x.m.clock, Value.int .i64 x.m.site.f, Value.int .i64 x.m.site.pc] 34]) hW 0 rfl rfl ?_; clear hW; intro w79 hW
                   refine leave1 (v := Value.bool false) (by rfl) (GotF.cell (b := b3) (i := 0) hA (by kernel_rfl) (by kernel_rfl) (hW.cel 2 rfl) (by kernel_rfl)) ?_
                   clear hA
                   exact ⟨retv (by rfl), hW.fr⟩))
           · skip
             rw [h65] at hA
             have h65 := ne_of_beq_false h65
             first
             | (exfalso; clear hA hW; omega)
             | (
               refine st_skipF hA (by kernel_rfl) (by kernel_rfl) ?_; clear hA ac; intro ac hA
               refine st_skipF hA (by kernel_rfl) (by kernel_rfl) ?_; clear hA ac; intro ac hA
               refine st_skipF hA (by kernel_rfl) (by kernel_rfl) ?_; clear hA ac; intro ac hA
               refine st_skipF hA (by kernel_rfl) (by kernel_rfl) ?_; clear hA ac; intro ac hA
               refine st_skipF hA (by kernel_rfl) (by kernel_rfl) ?_; clear hA ac; intro ac hA
               refine st_skipF hA (by kernel_rfl) (by kernel_rfl) ?_; clear hA ac; intro ac hA
               refine st_rdF (v := Value.bool false) hA (by kernel_rfl) (by kernel_rfl) (by kernel_rfl) (by kernel_rfl) hW.cls (Rd.pure fun _ => by kernel_rfl) ?_; clear hA ac; intro ac hA
               refine st_rdF (v := Value.bool false) hA (by kernel_rfl) (by kernel_rfl) (by kernel_rfl) (by kernel_rfl) hW.cls (Rd.pure fun _ => by kernel_rfl) ?_; clear hA ac; intro ac hA
               refine st_skipF hA (by kernel_rfl) (by kernel_rfl) ?_; clear hA ac; intro ac hA
               refine st_skipF hA (by kernel_rfl) (by kernel_rfl) ?_; clear hA ac; intro ac hA
               refine st_rdF (v := Value.bool false) hA (by kernel_rfl) (by kernel_rfl) (by kernel_rfl) (by kernel_rfl) hW.cls (Rd.pure fun _ => by kernel_rfl) ?_; clear hA ac; intro ac hA
               refine st_rdF (v := Value.bool false) hA (by kernel_rfl) (by kernel_rfl) (by kernel_rfl) (by kernel_rfl) hW.cls (Rd.pure fun _ => by kernel_rfl) ?_; clear hA ac; intro ac hA
               refine st_skipF hA (by kernel_rfl) (by kernel_rfl) ?_; clear hA ac; intro ac hA
               refine st_skipF hA (by kernel_rfl) (by kernel_rfl) ?_; clear hA ac; intro ac hA
               refine st_rdF (v := Value.bool false) hA (by kernel_rfl) (by kernel_rfl) (by kernel_rfl) (by kernel_rfl) hW.cls (Rd.pure fun _ => by kernel_rfl) ?_; clear hA ac; intro ac hA
               refine st_rdF (v := Value.bool false) hA (by kernel_rfl) (by kernel_rfl) (by kernel_rfl) (by kernel_rfl) hW.cls (Rd.pure fun _ => by kernel_rfl) ?_; clear hA ac; intro ac hA
               refine st_skipF hA (by kernel_rfl) (by kernel_rfl) ?_; clear hA ac; intro ac hA
               refine st_skipF hA (by kernel_rfl) (by kernel_rfl) ?_; clear hA ac; intro ac hA
               refine st_skipF hA (by kernel_rfl) (by kernel_rfl) ?_; clear hA ac; intro ac hA
               refine st_skipF hA (by kernel_rfl) (by kernel_rfl) ?_; clear hA ac; intro ac hA
               refine st_rdF (v := Value.bool false) hA (by kernel_rfl) (by kernel_rfl) (by kernel_rfl) (by kernel_rfl) hW.cls (Rd.pure fun _ => by kernel_rfl) ?_; clear hA ac; intro ac hA
               refine st_rdF (v := Value.bool false) hA (by kernel_rfl) (by kernel_rfl) (by kernel_rfl) (by kernel_rfl) hW.cls (Rd.pure fun _ => by kernel_rfl) ?_; clear hA ac; intro ac hA
               refine st_skipF hA (by kernel_rfl) (by kernel_rfl) ?_; clear hA ac; intro ac hA
               refine st_skipF hA (by kernel_rfl) (by kernel_rfl) ?_; clear hA ac; intro ac hA
               refine st_skipF hA (by kernel_rfl) (by kernel_rfl) ?_; clear hA ac; intro ac hA
               refine st_rdF (v := Value.bool false) hA (by kernel_rfl) (by kernel_rfl) (by kernel_rfl) (by kernel_rfl) hW.cls (Rd.pure fun _ => by kernel_rfl) ?_; clear hA ac; intro ac hA
               refine st_rdF (v := Value.bool false) hA (by kernel_rfl) (by kernel_rfl) (by kernel_rfl) (by kernel_rfl) hW.cls (Rd.pure fun _ => by kernel_rfl) ?_; clear hA ac; intro ac hA
               refine st_skipF hA (by kernel_rfl) (by kernel_rfl) ?_; clear hA ac; intro ac hA
               refine st_skipF hA (by kernel_rfl) (by kernel_rfl) ?_; clear hA ac; intro ac hA
               refine st_rdF (v := Value.bool false) hA (by kernel_rfl) (by kernel_rfl) (by kernel_rfl) (by kernel_rfl) hW.cls (Rd.pure fun _ => by kernel_rfl) ?_; clear hA ac; intro ac hA
               refine st_rdF (v := Value.bool false) hA (by kernel_rfl) (by kernel_rfl) (by kernel_rfl) (by kernel_rfl) hW.cls (Rd.pure fun _ => by kernel_rfl) ?_; clear hA ac; intro ac hA
               refine st_skipF hA (by kernel_rfl) (by kernel_rfl) ?_; clear hA ac; intro ac hA
               refine st_skipF hA (by kernel_rfl) (by kernel_rfl) ?_; clear hA ac; intro ac hA
               refine st_skipF hA (by kernel_rfl) (by kernel_rfl) ?_; clear hA ac; intro ac hA
               refine st_skipF hA (by kernel_rfl) (by kernel_rfl) ?_; clear hA ac; intro ac hA
               refine st_rdF (v := Value.bool false) hA (by kernel_rfl) (by kernel_rfl) (by kernel_rfl) (by kernel_rfl) hW.cls (Rd.pure fun _ => by kernel_rfl) ?_; clear hA ac; intro ac hA
               refine st_rdF (v := Value.bool false) hA (by kernel_rfl) (by kernel_rfl) (by kernel_rfl) (by kernel_rfl) hW.cls (Rd.pure fun _ => by kernel_rfl) ?_; clear hA ac; intro ac hA
               refine st_skipF hA (by kernel_rfl) (by kernel_rfl) ?_; clear hA ac; intro ac hA
               refine st_rdF (v := Value.bool false) hA (by kernel_rfl) (by kernel_rfl) (by kernel_rfl) (by kernel_rfl) hW.cls (Rd.pure fun _ => by kernel_rfl) ?_; clear hA ac; intro ac hA
               refine stF hA (by kernel_rfl) (by kernel_rfl) (by kernel_rfl) (by kernel_rfl) (RunsF.of (Runs.store (v := Value.bool false) (b := b3) (j := 0) (n := 1) (cs' := #[Value.bool false]) (H' := [DefR D61, Cel b53 #[Value.int .u64 (⟨0, ⟨0, 0⟩⟩ : Mark).clock, Value.int .i64 (⟨0, ⟨0, 0⟩⟩ : Mark).site.f, Value.int .i64 (⟨0, ⟨0, 0⟩⟩ : Mark).site.pc] 32, Cel b49 #[Value.int .u64 (⟨0, ⟨0, 0⟩⟩ : Mark).clock, Value.int .i64 (⟨0, ⟨0, 0⟩⟩ : Mark).site.f, Value.int .i64 (⟨0, ⟨0, 0⟩⟩ : Mark).site.pc] 32, Cel b3 #[Value.bool false] 4, Cel b1 #[Value.int .i64 x.what, Value.int .i64 x.h, Value.int .i64 x.id, Value.int .u64 x.m.clock, Value.int .i64 x.m.site.f, Value.int .i64 x.m.site.pc] 34]) (by kernel_rfl) (by kernel_rfl) (by kernel_rfl) (by kernel_rfl) (by kernel_rfl) hW 3 (by rfl) (Nat.le_of_ble_eq_true (by kernel_rfl)) (by kernel_rfl) (by rfl) ?_)); clear hA ac hW; intro w80 hW ac hA
               refine wpListIn_nil ?_
               refine thenN ?_
               refine wpIn_ret ?_
               refine retF (.inl rfl) hA ?_
               refine leaveD (H' := [Cel b53 #[Value.int .u64 (⟨0, ⟨0, 0⟩⟩ : Mark).clock, Value.int .i64 (⟨0, ⟨0, 0⟩⟩ : Mark).site.f, Value.int .i64 (⟨0, ⟨0, 0⟩⟩ : Mark).site.pc] 32, Cel b49 #[Value.int .u64 (⟨0, ⟨0, 0⟩⟩ : Mark).clock, Value.int .i64 (⟨0, ⟨0, 0⟩⟩ : Mark).site.f, Value.int .i64 (⟨0, ⟨0, 0⟩⟩ : Mark).site.pc] 32, Cel b3 #[Value.bool false] 4, Cel b1 #[Value.int .i64 x.what, Value.int .i64 x.h, Value.int .i64 x.id, Value.int .u64 x.m.clock, Value.int .i64 x.m.site.f, Value.int .i64 x.m.site.pc] 34]) hW 0 rfl rfl ?_; clear hW; intro w81 hW
               refine leave1 (v := Value.bool false) (by rfl) (GotF.cell (b := b3) (i := 0) hA (by kernel_rfl) (by kernel_rfl) (hW.cel 2 rfl) (by kernel_rfl)) ?_
               clear hA
               exact ⟨retv (by rfl), hW.fr⟩))
       · skip
         rw [h63] at hA
         have h63 := ne_of_beq_false h63
         first
         | (exfalso; clear hA hW; omega)
         | (
           refine st_skipF hA (by kernel_rfl) (by kernel_rfl) ?_; clear hA ac; intro ac hA
           refine st_skipF hA (by kernel_rfl) (by kernel_rfl) ?_; clear hA ac; intro ac hA
           refine st_skipF hA (by kernel_rfl) (by kernel_rfl) ?_; clear hA ac; intro ac hA
           refine st_skipF hA (by kernel_rfl) (by kernel_rfl) ?_; clear hA ac; intro ac hA
           refine st_skipF hA (by kernel_rfl) (by kernel_rfl) ?_; clear hA ac; intro ac hA
           refine st_skipF hA (by kernel_rfl) (by kernel_rfl) ?_; clear hA ac; intro ac hA
           refine st_skipF hA (by kernel_rfl) (by kernel_rfl) ?_; clear hA ac; intro ac hA
           refine st_skipF hA (by kernel_rfl) (by kernel_rfl) ?_; clear hA ac; intro ac hA
           refine st_skipF hA (by kernel_rfl) (by kernel_rfl) ?_; clear hA ac; intro ac hA
           refine st_skipF hA (by kernel_rfl) (by kernel_rfl) ?_; clear hA ac; intro ac hA
           refine st_rdF (v := Value.bool false) hA (by kernel_rfl) (by kernel_rfl) (by kernel_rfl) (by kernel_rfl) hW.cls (Rd.pure fun _ => by kernel_rfl) ?_; clear hA ac; intro ac hA
           refine st_rdF (v := Value.bool false) hA (by kernel_rfl) (by kernel_rfl) (by kernel_rfl) (by kernel_rfl) hW.cls (Rd.pure fun _ => by kernel_rfl) ?_; clear hA ac; intro ac hA
           refine st_skipF hA (by kernel_rfl) (by kernel_rfl) ?_; clear hA ac; intro ac hA
           refine st_skipF hA (by kernel_rfl) (by kernel_rfl) ?_; clear hA ac; intro ac hA
           refine st_skipF hA (by kernel_rfl) (by kernel_rfl) ?_; clear hA ac; intro ac hA
           refine st_skipF hA (by kernel_rfl) (by kernel_rfl) ?_; clear hA ac; intro ac hA
           refine st_skipF hA (by kernel_rfl) (by kernel_rfl) ?_; clear hA ac; intro ac hA
           refine st_skipF hA (by kernel_rfl) (by kernel_rfl) ?_; clear hA ac; intro ac hA
           refine st_rdF (v := Value.bool false) hA (by kernel_rfl) (by kernel_rfl) (by kernel_rfl) (by kernel_rfl) hW.cls (Rd.pure fun _ => by kernel_rfl) ?_; clear hA ac; intro ac hA
           refine st_rdF (v := Value.bool false) hA (by kernel_rfl) (by kernel_rfl) (by kernel_rfl) (by kernel_rfl) hW.cls (Rd.pure fun _ => by kernel_rfl) ?_; clear hA ac; intro ac hA
           refine st_skipF hA (by kernel_rfl) (by kernel_rfl) ?_; clear hA ac; intro ac hA
           refine st_skipF hA (by kernel_rfl) (by kernel_rfl) ?_; clear hA ac; intro ac hA
           refine st_rdF (v := Value.bool false) hA (by kernel_rfl) (by kernel_rfl) (by kernel_rfl) (by kernel_rfl) hW.cls (Rd.pure fun _ => by kernel_rfl) ?_; clear hA ac; intro ac hA
           refine st_rdF (v := Value.bool false) hA (by kernel_rfl) (by kernel_rfl) (by kernel_rfl) (by kernel_rfl) hW.cls (Rd.pure fun _ => by kernel_rfl) ?_; clear hA ac; intro ac hA
           refine st_skipF hA (by kernel_rfl) (by kernel_rfl) ?_; clear hA ac; intro ac hA
           refine st_skipF hA (by kernel_rfl) (by kernel_rfl) ?_; clear hA ac; intro ac hA
           refine st_rdF (v := Value.bool false) hA (by kernel_rfl) (by kernel_rfl) (by kernel_rfl) (by kernel_rfl) hW.cls (Rd.pure fun _ => by kernel_rfl) ?_; clear hA ac; intro ac hA
           refine st_rdF (v := Value.bool false) hA (by kernel_rfl) (by kernel_rfl) (by kernel_rfl) (by kernel_rfl) hW.cls (Rd.pure fun _ => by kernel_rfl) ?_; clear hA ac; intro ac hA
           refine st_skipF hA (by kernel_rfl) (by kernel_rfl) ?_; clear hA ac; intro ac hA
           refine st_skipF hA (by kernel_rfl) (by kernel_rfl) ?_; clear hA ac; intro ac hA
           refine st_skipF hA (by kernel_rfl) (by kernel_rfl) ?_; clear hA ac; intro ac hA
           refine st_skipF hA (by kernel_rfl) (by kernel_rfl) ?_; clear hA ac; intro ac hA
           refine st_rdF (v := Value.bool false) hA (by kernel_rfl) (by kernel_rfl) (by kernel_rfl) (by kernel_rfl) hW.cls (Rd.pure fun _ => by kernel_rfl) ?_; clear hA ac; intro ac hA
           refine st_rdF (v := Value.bool false) hA (by kernel_rfl) (by kernel_rfl) (by kernel_rfl) (by kernel_rfl) hW.cls (Rd.pure fun _ => by kernel_rfl) ?_; clear hA ac; intro ac hA
           refine st_skipF hA (by kernel_rfl) (by kernel_rfl) ?_; clear hA ac; intro ac hA
           refine st_skipF hA (by kernel_rfl) (by kernel_rfl) ?_; clear hA ac; intro ac hA
           refine st_skipF hA (by kernel_rfl) (by kernel_rfl) ?_; clear hA ac; intro ac hA
           refine st_rdF (v := Value.bool false) hA (by kernel_rfl) (by kernel_rfl) (by kernel_rfl) (by kernel_rfl) hW.cls (Rd.pure fun _ => by kernel_rfl) ?_; clear hA ac; intro ac hA
           refine st_rdF (v := Value.bool false) hA (by kernel_rfl) (by kernel_rfl) (by kernel_rfl) (by kernel_rfl) hW.cls (Rd.pure fun _ => by kernel_rfl) ?_; clear hA ac; intro ac hA
           refine st_skipF hA (by kernel_rfl) (by kernel_rfl) ?_; clear hA ac; intro ac hA
           refine st_skipF hA (by kernel_rfl) (by kernel_rfl) ?_; clear hA ac; intro ac hA
           refine st_rdF (v := Value.bool false) hA (by kernel_rfl) (by kernel_rfl) (by kernel_rfl) (by kernel_rfl) hW.cls (Rd.pure fun _ => by kernel_rfl) ?_; clear hA ac; intro ac hA
           refine st_rdF (v := Value.bool false) hA (by kernel_rfl) (by kernel_rfl) (by kernel_rfl) (by kernel_rfl) hW.cls (Rd.pure fun _ => by kernel_rfl) ?_; clear hA ac; intro ac hA
           refine st_skipF hA (by kernel_rfl) (by kernel_rfl) ?_; clear hA ac; intro ac hA
           refine st_skipF hA (by kernel_rfl) (by kernel_rfl) ?_; clear hA ac; intro ac hA
           refine st_skipF hA (by kernel_rfl) (by kernel_rfl) ?_; clear hA ac; intro ac hA
           refine st_skipF hA (by kernel_rfl) (by kernel_rfl) ?_; clear hA ac; intro ac hA
           refine st_rdF (v := Value.bool false) hA (by kernel_rfl) (by kernel_rfl) (by kernel_rfl) (by kernel_rfl) hW.cls (Rd.pure fun _ => by kernel_rfl) ?_; clear hA ac; intro ac hA
           refine st_rdF (v := Value.bool false) hA (by kernel_rfl) (by kernel_rfl) (by kernel_rfl) (by kernel_rfl) hW.cls (Rd.pure fun _ => by kernel_rfl) ?_; clear hA ac; intro ac hA
           refine st_skipF hA (by kernel_rfl) (by kernel_rfl) ?_; clear hA ac; intro ac hA
           refine st_rdF (v := Value.bool false) hA (by kernel_rfl) (by kernel_rfl) (by kernel_rfl) (by kernel_rfl) hW.cls (Rd.pure fun _ => by kernel_rfl) ?_; clear hA ac; intro ac hA
           refine stF hA (by kernel_rfl) (by kernel_rfl) (by kernel_rfl) (by kernel_rfl) (RunsF.of (Runs.store (v := Value.bool false) (b := b3) (j := 0) (n := 1) (cs' := #[Value.bool false]) (H' := [DefR D61, Cel b53 #[Value.int .u64 (⟨0, ⟨0, 0⟩⟩ : Mark).clock, Value.int .i64 (⟨0, ⟨0, 0⟩⟩ : Mark).site.f, Value.int .i64 (⟨0, ⟨0, 0⟩⟩ : Mark).site.pc] 32, Cel b49 #[Value.int .u64 (⟨0, ⟨0, 0⟩⟩ : Mark).clock, Value.int .i64 (⟨0, ⟨0, 0⟩⟩ : Mark).site.f, Value.int .i64 (⟨0, ⟨0, 0⟩⟩ : Mark).site.pc] 32, Cel b3 #[Value.bool false] 4, Cel b1 #[Value.int .i64 x.what, Value.int .i64 x.h, Value.int .i64 x.id, Value.int .u64 x.m.clock, Value.int .i64 x.m.site.f, Value.int .i64 x.m.site.pc] 34]) (by kernel_rfl) (by kernel_rfl) (by kernel_rfl) (by kernel_rfl) (by kernel_rfl) hW 3 (by rfl) (Nat.le_of_ble_eq_true (by kernel_rfl)) (by kernel_rfl) (by rfl) ?_)); clear hA ac hW; intro w82 hW ac hA
           refine wpListIn_nil ?_
           refine thenN ?_
           refine wpIn_ret ?_
           refine retF (.inl rfl) hA ?_
           refine leaveD (H' := [Cel b53 #[Value.int .u64 (⟨0, ⟨0, 0⟩⟩ : Mark).clock, Value.int .i64 (⟨0, ⟨0, 0⟩⟩ : Mark).site.f, Value.int .i64 (⟨0, ⟨0, 0⟩⟩ : Mark).site.pc] 32, Cel b49 #[Value.int .u64 (⟨0, ⟨0, 0⟩⟩ : Mark).clock, Value.int .i64 (⟨0, ⟨0, 0⟩⟩ : Mark).site.f, Value.int .i64 (⟨0, ⟨0, 0⟩⟩ : Mark).site.pc] 32, Cel b3 #[Value.bool false] 4, Cel b1 #[Value.int .i64 x.what, Value.int .i64 x.h, Value.int .i64 x.id, Value.int .u64 x.m.clock, Value.int .i64 x.m.site.f, Value.int .i64 x.m.site.pc] 34]) hW 0 rfl rfl ?_; clear hW; intro w83 hW
           refine leave1 (v := Value.bool false) (by rfl) (GotF.cell (b := b3) (i := 0) hA (by kernel_rfl) (by kernel_rfl) (hW.cel 2 rfl) (by kernel_rfl)) ?_
           clear hA
           exact ⟨retv (by rfl), hW.fr⟩)
     · skip
       clear hA ac hW; intro D84 c_ pre_ Hk_ w85 ac hJ_ hA hW
       exact hJ_.elim)

theorem none23_walk (x : Act23) (zero : Bool) (w : World) (hx : wfAct23 x) : Calls Try.prog 6 #[x.v, .bool zero] w fun e w' => e = .returned (.bool true) ∧ Fr No w w' := e_poolNone x zero w hx
end Go.Proofs.Ytobbocpacacnhaa.L
