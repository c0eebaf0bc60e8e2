/- The engine's core: frames known in part, worlds known in part, and a law for each step; nothing of the program. -/
import Derived.Test.YtoakhhilmnfpkaaGreatDoorLib
import Derived.BigQuiet
import Derived.Laws.Rows
namespace Go.Proofs.YtoakhhilmnfpkaaGreatDoor.L
open Go.RowKit Go.MapKept Go.Maps

/-! ### frames, known in part -/
def lk : List (Nat × Value) → Nat → Value
  | [], _ => undef
  | (a, v) :: r, t => bif Nat.beq a t then v else lk r t
def kn : List (Nat × Value) → Nat → Bool
  | [], _ => false
  | (a, _) :: r, t => Nat.beq a t || kn r t
/-- The frame has n temporaries; what L lists is in them. -/
structure Fm (n : Nat) (ds : List Deferred) (L : List (Nat × Value)) (a : Act) : Prop where
  size : a.tmps.size = n
  defers : a.defers = ds
  at_ : ∀ t, kn L t = true → a.tmps[t]? = some (lk L t)
def ev (L : List (Nat × Value)) : Operand → Value
  | .tmp t => lk L t
  | .const v => v
  | .global g => .pointer (some ⟨g, 0, none⟩)
  | .func f => .func (.func f) #[] #[]
def knO (L : List (Nat × Value)) : Operand → Bool
  | .tmp t => kn L t
  | _ => true
def okOp (L : List (Nat × Value)) (o : Oper) : Bool := (match o.op with | .select .. => false | _ => true) && o.op.operands.all (knO L)
def addL (d : Option Tmp) (v : Value) (L : List (Nat × Value)) : List (Nat × Value) :=
  match d with
  | some d => (d, v) :: L
  | none => L
def dOk (n : Nat) : Option Tmp → Bool
  | some d => Nat.blt d n
  | none => true
/-- What of L is wanted on. -/
def Sub : List (Nat × Value) → List (Nat × Value) → Prop
  | [], _ => True
  | (t, v) :: r, L => (kn L t = true ∧ lk L t = v) ∧ Sub r L

section
variable {n : Nat} {ds : List Deferred} {L : List (Nat × Value)} {a : Act}
theorem Fm.eval (h : Fm n ds L a) {x : Operand} (hk : knO L x = true) : a.eval x = ev L x := by
  cases x with
  | tmp t =>
    have := h.at_ t hk
    simp [Act.eval, ev, this]
  | _ => rfl
theorem Fm.exec (h : Fm n ds L a) {o : Oper} (hk : okOp L o = true) : execOp a.eval o = execOp (ev L) o := by
  simp only [okOp, Bool.and_eq_true] at hk
  refine execOp_congr o (fun cs b e => ?_) (fun x hx => h.eval ?_)
  · have := hk.1
    rw [e] at this
    cases this
  · exact Array.all_eq_true_iff_forall_mem.1 hk.2 x hx
theorem Fm.put (h : Fm n ds L a) {d : Option Tmp} (hd : dOk n d = true) (v : Value) : Fm n ds (addL d v L) (a.put d v) := by
  cases d with
  | none => exact h
  | some d =>
    have hlt : d < n := by simpa [dOk] using hd
    refine ⟨by simp [Act.put, h.size], h.defers, fun t ht => ?_⟩
    simp only [addL, lk, kn, Act.put] at ht ⊢
    by_cases e : d = t
    · subst e
      rw [Array.getElem?_setIfInBounds_self_of_lt (by rw [h.size]; exact hlt)]
      simp
    · have hb : Nat.beq d t = false := by cases hb : Nat.beq d t with
        | false => rfl
        | true => exact absurd (Nat.eq_of_beq_eq_true hb) e
      rw [Array.getElem?_setIfInBounds_ne e, hb]
      rw [hb] at ht
      exact h.at_ t (by simpa using ht)
theorem Fm.sub (h : Fm n ds L a) : ∀ {K : List (Nat × Value)}, Sub K L → Fm n ds K a
  | [], _ => ⟨h.size, h.defers, fun t ht => by cases ht⟩
  | (s, v) :: r, hs => by
    have ih := h.sub hs.2
    refine ⟨h.size, h.defers, fun t ht => ?_⟩
    simp only [kn, lk] at ht ⊢
    by_cases e : s = t
    · subst e
      rw [h.at_ s hs.1.1, hs.1.2]; simp
    · have hb : Nat.beq s t = false := by cases hb : Nat.beq s t with
        | false => rfl
        | true => exact absurd (Nat.eq_of_beq_eq_true hb) e
      rw [hb] at ht ⊢
      exact ih.at_ t (by simpa using ht)
/-- Operands by their values. -/
def yieldL (ops : Array Oper) (L : List (Nat × Value)) (j : Nat) : Option Bool :=
  match (ops[j]?).bind (·.dst) with
  | some t => match lk L t with
    | .bool b => some b
    | _ => none
  | none => none
def guardKn (ops : Array Oper) (L : List (Nat × Value)) (o : Oper) : Bool :=
  match o.guard with
  | none => true
  | some (j, _) => match (ops[j]?).bind (·.dst) with
    | some t => kn L t
    | none => true
/-- The operation is carried out, or not: as L tells. -/
def wants (ops : Array Oper) (L : List (Nat × Value)) (o : Oper) (b : Bool) : Bool := guardKn ops L o && (Region.wanted o (yieldL ops L) == b)
theorem Fm.wanted (h : Fm n ds L a) {ops : Array Oper} {o : Oper} {b : Bool} (hw : wants ops L o b = true) : Region.wanted o (yielded ops a.tmps) = b := by
  simp only [wants, Bool.and_eq_true, beq_iff_eq] at hw
  rw [← hw.2]
  unfold Region.wanted
  cases hg : o.guard with
  | none => rfl
  | some gw =>
    obtain ⟨j, w⟩ := gw
    simp only
    congr 1
    have h1 := hw.1
    unfold guardKn at h1
    rw [hg] at h1
    simp only at h1
    unfold yielded yieldL
    cases ht : (ops[j]?).bind (·.dst) with
    | none => rfl
    | some t =>
      rw [ht] at h1
      simp only at h1
      simp only [Option.bind_some, h.at_ t h1]
      cases lk L t <;> rfl
end

/-! ### what an operation does -/
def Runs (P : Program) (ρ : Operand → Value) (o : Oper) (w : World) (Φ : Value → World → Prop) : Prop :=
  match (execOp ρ o).run P w with
  | .ok (.value v) w' => Φ v w'
  | .ok .skip w' => Φ undef w'
  | .ok (.enter f args) w' => Calls P f args w' fun e w'' => ∃ v, e = .returned v ∧ Φ v w''
  | _ => False
/-- In each world of a class it yields v and leaves the world alone. -/
def Rd (P : Program) (ρ : Operand → Value) (o : Oper) (C : World → Prop) (v : Value) : Prop := ∀ w, C w → (execOp ρ o).run P w = .ok (.value v) w

section
variable {P : Program} {ops : Array Oper} {Q : Exit → Act → World → Prop} {n : Nat} {ds : List Deferred} {L : List (Nat × Value)} {a : Act} {w : World} {o : Oper} {rest : List Oper} {C : World → Prop} {v : Value}

theorem Runs.wp {K : Act → World → Prop} (h : Runs P a.eval o w fun v w' => K (a.put o.dst v) w') : o.wp P a w K Q := by
  unfold Runs at h
  unfold Oper.wp
  generalize (execOp a.eval o).run P w = r at h ⊢
  cases r with
  | ok x w' =>
    cases x <;> first
      | exact h
      | exact h.elim
      | exact h.mono fun e w'' ⟨v, he, hv⟩ => by subst he; exact hv
  | halt x w' => exact h.elim

theorem st (hA : Fm n ds L a) (hk : okOp L o = true) (hw : wants ops L o true = true) (hd : dOk n o.dst = true)
    (h : Runs P (ev L) o w fun v w' => ∀ a', Fm n ds (addL o.dst v L) a' → wpList P ops Q rest a' w') : wpList P ops Q (o :: rest) a w := by
  unfold wpList
  rw [if_pos (hA.wanted hw)]
  refine .inl (Runs.wp ?_)
  unfold Runs at h ⊢
  rw [hA.exec hk]
  generalize (execOp (ev L) o).run P w = r at h ⊢
  cases r with
  | ok x w' =>
    cases x <;> first
      | exact h _ (hA.put hd _)
      | exact h.elim
      | exact h.mono fun e w'' ⟨v, he, hv⟩ => ⟨v, he, hv _ (hA.put hd _)⟩
  | halt x w' => exact h.elim
theorem st_rd (hA : Fm n ds L a) (hk : okOp L o = true) (hw : wants ops L o true = true) (hd : dOk n o.dst = true) (hC : C w) (hr : Rd P (ev L) o C v)
    (next : ∀ a', Fm n ds (addL o.dst v L) a' → wpList P ops Q rest a' w) : wpList P ops Q (o :: rest) a w :=
  st hA hk hw hd (by unfold Runs; rw [hr w hC]; exact next)
theorem st_skip (hA : Fm n ds L a) (hw : wants ops L o false = true) (hd : dOk n o.dst = true) (next : ∀ a', Fm n ds (addL o.dst undef L) a' → wpList P ops Q rest a' w) : wpList P ops Q (o :: rest) a w := by
  unfold wpList
  rw [if_neg (by rw [hA.wanted hw]; simp)]
  exact next _ (hA.put hd _)
/-- In a region whose operations only read. -/
theorem sq_rd {Q : Act → Prop} (hA : Fm n ds L a) (hk : okOp L o = true) (hw : wants ops L o true = true) (hd : dOk n o.dst = true) (hr : Rd P (ev L) o C v)
    (next : ∀ a', Fm n ds (addL o.dst v L) a' → wpQuiet P ops C Q rest a') : wpQuiet P ops C Q (o :: rest) a := by
  unfold wpQuiet
  rw [if_pos (hA.wanted hw)]
  refine ⟨v, fun w hC => ?_, next _ (hA.put hd _)⟩
  unfold Oper.quietAt
  rw [hA.exec hk, hr w hC]
  exact ⟨rfl, rfl⟩
theorem sq_call {Q : Act → Prop} {f : FuncId} {args : Array Value} (hA : Fm n ds L a) (hk : okOp L o = true) (hw : wants ops L o true = true) (hd : dOk n o.dst = true)
    (he : ∀ w, (execOp (ev L) o).run P w = .ok (.enter f args) w) (hc : ∀ w, C w → Calls P f args w fun e w' => e = .returned v ∧ C w')
    (next : ∀ a', Fm n ds (addL o.dst v L) a' → wpQuiet P ops C Q rest a') : wpQuiet P ops C Q (o :: rest) a := by
  unfold wpQuiet
  rw [if_pos (hA.wanted hw)]
  refine ⟨v, fun w hC => ?_, next _ (hA.put hd _)⟩
  unfold Oper.quietAt
  rw [hA.exec hk, he w]
  exact ⟨rfl, hc w hC⟩
theorem sq_skip {Q : Act → Prop} (hA : Fm n ds L a) (hw : wants ops L o false = true) (hd : dOk n o.dst = true) (next : ∀ a', Fm n ds (addL o.dst undef L) a' → wpQuiet P ops C Q rest a') : wpQuiet P ops C Q (o :: rest) a := by
  unfold wpQuiet
  rw [if_neg (by rw [hA.wanted hw]; simp)]
  exact next _ (hA.put hd _)
theorem sq_nil {Q : Act → Prop} (h : Q a) : wpQuiet P ops C Q [] a := h
end

/-! ### worlds, known in part -/
/-- Something that is known of a world, and hangs on these blocks alone. -/
structure Res where
  fp : List Nat
  p : World → Prop
  loc : ∀ w w' : World, (∀ b ∈ fp, w'.heap[b]? = w.heap[b]?) → p w → p w'
/-- A block of cells. -/
def Cel (b : Nat) (cs : Array Value) (t : TypeId) : Res := ⟨[b], fun w => w.heap[b]? = some (.cells cs t (0, 0)), fun _ _ h hp => (h b (.head _)).trans hp⟩
/-- w has come of w0, turned at old blocks of S alone; H: what is known of it and may be turned, each piece of blocks of its own; G: what is known and only read, of other blocks than those. -/
structure Ws (w0 : World) (S : Nat → Prop) (H G : List Res) (w : World) : Prop where
  fr : Fr S w0 w
  at_ : ∀ r ∈ H, r.p w
  lt : ∀ r ∈ H, ∀ b ∈ r.fp, b < w.heap.size
  nd : H.Pairwise (fun r s => ∀ b ∈ r.fp, b ∉ s.fp)
  may : ∀ r ∈ H, ∀ b ∈ r.fp, S b ∨ w0.heap.size ≤ b
  gat : ∀ g ∈ G, g.p w
  glt : ∀ g ∈ G, ∀ b ∈ g.fp, b < w.heap.size
  gd : ∀ g ∈ G, ∀ r ∈ H, ∀ b ∈ r.fp, b ∉ g.fp

section
variable {w0 : World} {S : Nat → Prop} {H G : List Res} {w : World}
theorem Ws.start (w0 : World) (S : Nat → Prop) : Ws w0 S [] [] w0 := ⟨Fr.refl _ _, by simp, by simp, by simp, by simp, by simp, by simp, by simp⟩
theorem Ws.get (h : Ws w0 S H G w) (i : Nat) {r : Res} (hi : H[i]? = some r) : r.p w := h.at_ _ (List.mem_of_getElem? hi)
theorem Ws.getG (h : Ws w0 S H G w) (i : Nat) {r : Res} (hi : G[i]? = some r) : r.p w := h.gat _ (List.mem_of_getElem? hi)
theorem Ws.cel (h : Ws w0 S H G w) (i : Nat) {b : Nat} {cs : Array Value} {t : TypeId} (hi : H[i]? = some (Cel b cs t)) : w.heap[b]? = some (.cells cs t (0, 0)) := h.get i hi
theorem Ws.same (h : Ws w0 S H G w) {w' : World} (he : w'.heap = w.heap) (hf : Fr S w0 w') : Ws w0 S H G w' :=
  ⟨hf, fun r hr => r.loc _ _ (fun b _ => by rw [he]) (h.at_ r hr), fun r hr b hb => by rw [he]; exact h.lt r hr b hb, h.nd, h.may, fun r hr => r.loc _ _ (fun b _ => by rw [he]) (h.gat r hr), fun r hr b hb => by rw [he]; exact h.glt r hr b hb, h.gd⟩
theorem Ws.drew (h : Ws w0 S H G w) : Ws w0 S H G w.drew := h.same rfl h.fr.drew
/-- One piece more, of blocks that are new. -/
theorem Ws.add (h : Ws w0 S H G w) {w' : World} (hf : Fr No w w') (r : Res) (hr : r.p w') (hb : ∀ b ∈ r.fp, w.heap.size ≤ b ∧ b < w'.heap.size) : Ws w0 S (r :: H) G w' := by
  refine ⟨h.fr.no hf, fun x hx => ?_, fun x hx => ?_, ?_, fun x hx => ?_, fun x hx => x.loc _ _ (fun b hb' => hf.block b (h.glt x hx b hb') (fun s => s)) (h.gat x hx), fun x hx b hb' => Nat.lt_of_lt_of_le (h.glt x hx b hb') hf.size, fun g hg x hx b hb' hm => ?_⟩
  · rcases List.mem_cons.1 hx with rfl | hx
    · exact hr
    · exact x.loc _ _ (fun b hb' => hf.block b (h.lt x hx b hb') (fun s => s)) (h.at_ x hx)
  · rcases List.mem_cons.1 hx with rfl | hx
    · exact fun b hb' => (hb b hb').2
    · exact fun b hb' => Nat.lt_of_lt_of_le (h.lt x hx b hb') hf.size
  · refine List.pairwise_cons.2 ⟨fun s hs b hb' hm => ?_, h.nd⟩
    have := h.lt s hs b hm
    have := (hb b hb').1
    omega
  · rcases List.mem_cons.1 hx with rfl | hx
    · exact fun b hb' => .inr (Nat.le_trans h.fr.size (hb b hb').1)
    · exact h.may x hx
  · rcases List.mem_cons.1 hx with rfl | hx
    · have := h.glt g hg b hm
      have := (hb b hb').1
      omega
    · exact h.gd g hg x hx b hb' hm
theorem Ws.alloc (h : Ws w0 S H G w) (o : Obj) (r : Res) (hr : r.p (w.alloc o)) (hb : r.fp = [w.heap.size]) : Ws w0 S (r :: H) G (w.alloc o) :=
  h.add ((Fr.refl No w).alloc o) r hr (fun b hb' => by rw [hb] at hb'; simp at hb'; subst hb'; simp)
/-- A piece is turned: by what turns its blocks alone (and makes new ones). -/
theorem Ws.turn (h : Ws w0 S H G w) (i : Nat) {r r' : Res} (hi : H[i]? = some r) {w' : World} (hf : Fr (· ∈ r.fp) w w') (hq : r'.p w') (hfp : ∀ b ∈ r'.fp, (b ∈ r.fp ∨ w.heap.size ≤ b) ∧ b < w'.heap.size) {H' : List Res} (hH : H.set i r' = H') : Ws w0 S H' G w' := by
  subst hH
  have hil : i < H.length := (List.getElem?_eq_some_iff.1 hi).1
  have hm : r ∈ H := List.mem_of_getElem? hi
  have hii : H[i] = r := (List.getElem?_eq_some_iff.1 hi).2
  have pw := List.pairwise_iff_getElem.1 h.nd
  have apart : ∀ j (hj : j < H.length), j ≠ i → ∀ b ∈ H[j].fp, b ∉ r.fp := by
    intro j hj hne b hb hb'
    rcases Nat.lt_or_gt_of_ne hne with hlt | hlt
    · exact pw j i hj hil hlt b hb (by rw [hii]; exact hb')
    · exact pw i j hil hj hlt b (by rw [hii]; exact hb') hb
  have hmem : ∀ x ∈ H.set i r', x = r' ∨ (x ∈ H ∧ ∀ b ∈ x.fp, b ∉ r.fp) := by
    intro x hx
    obtain ⟨j, hj, rfl⟩ := List.mem_iff_getElem.1 hx
    rw [List.length_set] at hj
    rw [List.getElem_set]
    split
    · exact .inl rfl
    · rename_i e
      exact .inr ⟨List.getElem_mem hj, apart j hj (fun e' => e e'.symm)⟩
  refine ⟨h.fr.trans hf (fun _ _ s => s) (fun j hj e => (h.may r hm j e).resolve_right (by omega)), fun x hx => ?_, fun x hx => ?_, ?_, fun x hx => ?_, fun x hx => x.loc _ _ (fun b hb => hf.block b (h.glt x hx b hb) (fun hb' => h.gd x hx r hm b hb' hb)) (h.gat x hx),
    fun x hx b hb => Nat.lt_of_lt_of_le (h.glt x hx b hb) hf.size, fun g hg x hx b hb hb' => ?_⟩
  · rcases hmem x hx with rfl | ⟨hx, hne⟩
    · exact hq
    · exact x.loc _ _ (fun b hb => hf.block b (h.lt x hx b hb) (hne b hb)) (h.at_ x hx)
  · rcases hmem x hx with rfl | ⟨hx, hne⟩
    · exact fun b hb => (hfp b hb).2
    · exact fun b hb => Nat.lt_of_lt_of_le (h.lt x hx b hb) hf.size
  · refine List.pairwise_iff_getElem.2 (fun j k hj hk hlt b hb hb' => ?_)
    rw [List.length_set] at hj hk
    rw [List.getElem_set] at hb hb'
    by_cases ej : i = j
    · rw [if_pos ej] at hb
      have ek : ¬ i = k := by omega
      rw [if_neg ek] at hb'
      rcases (hfp b hb).1 with h1 | h1
      · exact apart k hk (fun e => ek e.symm) b hb' h1
      · have := h.lt _ (List.getElem_mem hk) b hb'; omega
    · rw [if_neg ej] at hb
      by_cases ek : i = k
      · rw [if_pos ek] at hb'
        rcases (hfp b hb').1 with h1 | h1
        · exact apart j hj (fun e => ej e.symm) b hb h1
        · have := h.lt _ (List.getElem_mem hj) b hb; omega
      · rw [if_neg ek] at hb'
        exact pw j k hj hk hlt b hb hb'
  · rcases hmem x hx with rfl | ⟨hx, hne⟩
    · intro b hb
      rcases (hfp b hb).1 with h1 | h1
      · exact h.may r hm b h1
      · exact .inr (Nat.le_trans h.fr.size h1)
    · exact h.may x hx
  · rcases hmem x hx with rfl | ⟨hx, hne⟩
    · rcases (hfp b hb).1 with h1 | h1
      · exact h.gd g hg r hm b h1 hb'
      · have := h.glt g hg b hb'; omega
    · exact h.gd g hg x hx b hb hb'
theorem Ws.set (h : Ws w0 S H G w) (i : Nat) {b : Nat} {cs : Array Value} {t : TypeId} (hi : H[i]? = some (Cel b cs t)) (j : Nat) (v : Value) {cs' : Array Value} (hc : cs.setIfInBounds j v = cs') {H' : List Res} (hH : H.set i (Cel b cs' t) = H') :
    Ws w0 S H' G (w.setCell ⟨b, j, none⟩ v) :=
  h.turn i hi ((Fr.refl _ w).setCell (p := ⟨b, j, none⟩) (.inl (.head _)) v) (by rw [← hc]; exact blk_set (h.cel i hi) j v) (fun x hx => by
    have := h.lt _ (List.mem_of_getElem? hi) x hx
    exact ⟨.inl hx, by simpa [World.setCell] using this⟩) hH
/-- A call that makes new memory alone. -/
theorem Ws.call (h : Ws w0 S H G w) {w' : World} (hf : Fr No w w') : Ws w0 S H G w' :=
  ⟨h.fr.no hf, fun x hx => x.loc _ _ (fun b hb => hf.block b (h.lt x hx b hb) (fun s => s)) (h.at_ x hx), fun x hx b hb => Nat.lt_of_lt_of_le (h.lt x hx b hb) hf.size, h.nd, h.may,
    fun x hx => x.loc _ _ (fun b hb => hf.block b (h.glt x hx b hb) (fun s => s)) (h.gat x hx), fun x hx b hb => Nat.lt_of_lt_of_le (h.glt x hx b hb) hf.size, h.gd⟩
/-- Less is known. -/
theorem Ws.less (h : Ws w0 S H G w) {K : List Res} (hs : K.Sublist H) : Ws w0 S K G w :=
  ⟨h.fr, fun x hx => h.at_ x (hs.subset hx), fun x hx => h.lt x (hs.subset hx), h.nd.sublist hs, fun x hx => h.may x (hs.subset hx), h.gat, h.glt, fun g hg x hx => h.gd g hg x (hs.subset hx)⟩
/-- Something more that is known, of blocks that are none of theirs. -/
theorem Ws.more (h : Ws w0 S H G w) (r : Res) (hp : r.p w) (hlt : ∀ b ∈ r.fp, b < w.heap.size) (hne : ∀ x ∈ H, ∀ b ∈ r.fp, b ∉ x.fp) (hng : ∀ x ∈ G, ∀ b ∈ r.fp, b ∉ x.fp) (hm : ∀ b ∈ r.fp, S b ∨ w0.heap.size ≤ b) : Ws w0 S (r :: H) G w := by
  refine ⟨h.fr, fun x hx => ?_, fun x hx => ?_, List.pairwise_cons.2 ⟨fun s hs b hb => hne s hs b hb, h.nd⟩, fun x hx => ?_, h.gat, h.glt, fun g hg x hx b hb => ?_⟩
  · rcases List.mem_cons.1 hx with rfl | hx
    · exact hp
    · exact h.at_ x hx
  · rcases List.mem_cons.1 hx with rfl | hx
    · exact hlt
    · exact h.lt x hx
  · rcases List.mem_cons.1 hx with rfl | hx
    · exact hm
    · exact h.may x hx
  · rcases List.mem_cons.1 hx with rfl | hx
    · exact hng g hg b hb
    · exact h.gd g hg x hx b hb
/-- Something more that is only read. -/
theorem Ws.addG (h : Ws w0 S H G w) (g : Res) (hp : g.p w) (hlt : ∀ b ∈ g.fp, b < w.heap.size) (hd : ∀ r ∈ H, ∀ b ∈ r.fp, b ∉ g.fp) : Ws w0 S H (g :: G) w := by
  refine ⟨h.fr, h.at_, h.lt, h.nd, h.may, fun x hx => ?_, fun x hx => ?_, fun x hx => ?_⟩
  · rcases List.mem_cons.1 hx with rfl | hx
    · exact hp
    · exact h.gat x hx
  · rcases List.mem_cons.1 hx with rfl | hx
    · exact hlt
    · exact h.glt x hx
  · rcases List.mem_cons.1 hx with rfl | hx
    · exact hd
    · exact h.gd x hx
/-- What is handed back: of new blocks, or of blocks of what is only read. -/
def Res.from_ (r : Res) (Gs : List Res) (w w' : World) : Prop := r.p w' ∧ ∀ b ∈ r.fp, b < w'.heap.size ∧ ((∃ g ∈ Gs, b ∈ g.fp) ∨ w.heap.size ≤ b)
theorem Ws.addFrom (h : Ws w0 S H G w) {w' : World} (hf : Fr No w w') {g : Res} {Gs : List Res} (hg : g.from_ Gs w w') (hs : ∀ x ∈ Gs, x ∈ G) : Ws w0 S H (g :: G) w' :=
  (h.call hf).addG g hg.1 (fun b hb => (hg.2 b hb).1) (fun r hr b hb hb' => by
    rcases (hg.2 b hb').2 with ⟨x, hx, hxb⟩ | h1
    · exact h.gd x (hs x hx) r hr b hb hxb
    · have := h.lt r hr b hb; omega)
/-- A piece of H that is turned no more. -/
theorem Ws.share (h : Ws w0 S H G w) (i : Nat) {r : Res} (hi : H[i]? = some r) {H' : List Res} (hH : H.eraseIdx i = H') : Ws w0 S H' (r :: G) w := by
  subst hH
  have hm : r ∈ H := List.mem_of_getElem? hi
  refine (h.less (List.eraseIdx_sublist _ _)).addG r (h.at_ r hm) (h.lt r hm) (fun x hx b hb hb' => ?_)
  obtain ⟨j, hj, rfl⟩ := List.mem_iff_getElem.1 hx
  rw [List.getElem_eraseIdx] at hb
  have pw := List.pairwise_iff_getElem.1 h.nd
  obtain ⟨hil, hii⟩ := List.getElem?_eq_some_iff.1 hi
  split at hb
  · rename_i hlt
    exact pw j i (by omega) hil hlt b hb (by rw [hii]; exact hb')
  · rename_i hlt
    have hl := List.length_eraseIdx (l := H) (i := i)
    rw [if_pos hil] at hl
    exact pw i (j + 1) hil (by omega) (by omega) b (by rw [hii]; exact hb') hb
end

end Go.Proofs.YtoakhhilmnfpkaaGreatDoor.L
