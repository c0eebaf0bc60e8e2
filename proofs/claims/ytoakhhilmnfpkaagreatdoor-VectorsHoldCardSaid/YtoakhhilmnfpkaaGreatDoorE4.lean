/- The engine: regions that draw their order and act; cuts. -/
import Derived.Test.YtoakhhilmnfpkaaGreatDoorE3
import Derived.OrdersHeld
namespace Go.Proofs.YtoakhhilmnfpkaaGreatDoor.L
open Go.RowKit Go.MapKept Go.Maps

section
variable {P : Program} {ops : Array Oper} {Q : Exit → Act → World → Prop} {C : World → Prop} {rd need pur : Nat → Bool}

/-- Whatever order is picked; behind an operation that need not wait for every reader, C holds. -/
def wpAnyR (P : Program) (ops : Array Oper) (Q : Exit → Act → World → Prop) (C : World → Prop) (need pur : Nat → Bool) : Nat → Array Bool → Act → World → Prop
  | 0, listed, a, w => Region.ready .any ops listed = [] ∧ Q .normal a w
  | fuel + 1, listed, a, w =>
    (Region.ready .any ops listed = [] → Q .normal a w) ∧
    ∀ i ∈ Region.ready .any ops listed, wpOp P ops Q i (fun a' w' => ((need i = true → C w') ∧ (pur i = true → w' = w)) ∧ wpAnyR P ops Q C need pur fuel (listed.setIfInBounds i true) a' w') a w
theorem wpAny_of_R : ∀ (fuel : Nat) (listed : Array Bool) (a : Act) (w : World), wpAnyR P ops Q C need pur fuel listed a w → wpAny P .any ops Q fuel listed a w
  | 0, _, _, _, h => h
  | fuel + 1, _, _, _, h => ⟨h.1, fun i hi => wpOp_mono (fun a' w' h' => wpAny_of_R fuel _ a' w' h'.2) (h.2 i hi)⟩
/-- j waits for i, over at most so many edges. -/
def reach (ops : Array Oper) : Nat → Nat → Nat → Bool
  | 0, _, _ => false
  | f + 1, j, i => match ops[j]? with
    | some o => (o.after.any fun e => Region.binds .any e && e.on == i) || o.after.any fun e => Region.binds .any e && reach ops f e.on i
    | none => false
def Closed (ops : Array Oper) (listed : Array Bool) : Prop := ∀ (k : Nat) (o : Oper), ops[k]? = some o → listed.getD k false = true → ∀ e ∈ o.after, Region.binds .any e = true → listed.getD e.on false = true
theorem reach_listed {listed : Array Bool} (hc : Closed ops listed) : ∀ (f j i : Nat), (∀ o, ops[j]? = some o → ∀ e ∈ o.after, Region.binds .any e = true → listed.getD e.on false = true) → reach ops f j i = true → listed.getD i false = true
  | 0, _, _, _, h => by cases h
  | f + 1, j, i, hj, h => by
    unfold reach at h
    cases ho : ops[j]? with
    | none => rw [ho] at h; cases h
    | some o =>
      rw [ho] at h
      simp only [Bool.or_eq_true] at h
      rcases h with h | h
      · obtain ⟨k, hk, hb⟩ := Array.any_eq_true.1 h
        simp only [Bool.and_eq_true, beq_iff_eq] at hb
        rw [← hb.2]
        exact hj o ho _ (Array.getElem_mem hk) hb.1
      · obtain ⟨k, hk, hb⟩ := Array.any_eq_true.1 h
        simp only [Bool.and_eq_true] at hb
        exact reach_listed hc f _ i (fun o' ho' => hc _ o' ho' (hj o ho _ (Array.getElem_mem hk) hb.1)) hb.2
theorem Closed.start (m : Nat) : Closed ops (Array.replicate m false) := by
  intro k o _ h
  simp [Array.getElem?_replicate] at h
  split at h <;> cases h
theorem Closed.set {listed : Array Bool} {i : Nat} (h : Closed ops listed) (hi : i ∈ Region.ready .any ops listed) : Closed ops (listed.setIfInBounds i true) := by
  obtain ⟨-, o', ho', hall⟩ := mem_ready.1 hi
  intro k o ho hk e he hb
  by_cases hki : i = k
  · subst hki
    rw [ho] at ho'
    cases ho'
    exact getD_set_true (hall e he hb)
  · rw [getD_set_ne false hki] at hk
    exact getD_set_true (h k o ho hk e he hb)
/-- Who need not hold C waits for every reader. -/
def waitsB (ops : Array Oper) (rd need pur : Nat → Bool) : Bool :=
  (List.range ops.size).all fun j => need j || pur j || (List.range ops.size).all fun i => !rd i || reach ops 6 j i
theorem waitsB_spec (h : waitsB ops rd need pur = true) {j : Nat} {o : Oper} (ho : ops[j]? = some o) (hn : need j = false) (hp : pur j = false) {i : Nat} (hi : i < ops.size) (hr : rd i = true) : reach ops 6 j i = true := by
  unfold waitsB at h
  have hj := (Array.getElem?_eq_some_iff.1 ho).1
  have h1 := List.all_eq_true.1 h j (List.mem_range.2 hj)
  rw [hn, hp] at h1
  simp only [Bool.false_or] at h1
  have h2 := List.all_eq_true.1 h1 i (List.mem_range.2 hi)
  rw [hr] at h2
  simpa using h2
theorem wpAnyR_first {i : Nat} {oi : Oper} {v : Value} (hwt : waitsB ops rd need pur = true) (hri : rd i = true) (hi : ops[i]? = some oi) (hsel : ∀ (j : Nat) (o : Oper) cs b, ops[j]? = some o → o.op ≠ .select cs b)
    (hQ : ∀ c a w, Q (.panic c) (a.put oi.dst v) w → Q (.panic c) a w) :
    ∀ (fuel : Nat) (listed : Array Bool) (a : Act) (w : World), Closed ops listed →
      (∀ j oj, ops[j]? = some oj → j ≠ i → listed.getD j true = false → (∀ e ∈ oj.after, Region.binds .any e = true → e.on ≠ i) → oi.apart ops oj = true) →
      i ∈ Region.ready .any ops listed → YieldsIf P ops C oi v a → C w →
      wpAnyR P ops Q C need pur fuel (listed.setIfInBounds i true) (a.put oi.dst v) w → wpAnyR P ops Q C need pur (fuel + 1) listed a w := by
  have hil := (Array.getElem?_eq_some_iff.1 hi).1
  intro fuel
  induction fuel with
  | zero =>
    intro listed a w _ _ hr hy hS Hh
    refine ⟨fun h => (by rw [h] at hr; cases hr), fun j hj => ?_⟩
    by_cases hji : j = i
    · subst hji; exact hy.wpOp hi hS ⟨⟨fun _ => hS, fun _ => rfl⟩, Hh⟩
    · have := ready_mono hj hji
      rw [Hh.1] at this
      cases this
  | succ fuel ih =>
    intro listed a w hcl hfree hr hy hS Hh
    refine ⟨fun h => (by rw [h] at hr; cases hr), fun j hj => ?_⟩
    by_cases hji : j = i
    · subst hji; exact hy.wpOp hi hS ⟨⟨fun _ => hS, fun _ => rfl⟩, Hh⟩
    · have h1 := Hh.2 j (ready_mono hj hji)
      obtain ⟨hjun, oj, hoj, hall⟩ := mem_ready.1 hj
      have hnot : ∀ e ∈ oj.after, Region.binds .any e = true → e.on ≠ i := fun e he hb heq => by
        have h1 := hall e he hb
        have h0 := (mem_ready.1 hr).1
        rw [heq] at h1
        rcases Nat.lt_or_ge i listed.size with h' | h'
        · simp [h'] at h0 h1; rw [h0] at h1; cases h1
        · simp [Array.getElem?_eq_none h'] at h1
      have hstay : ∀ w', ((need j = true → C w') ∧ (pur j = true → w' = w)) → C w' := fun w' hw' => by
        cases hn : need j with
        | true => exact hw'.1 hn
        | false =>
          cases hp : pur j with
          | true => rw [hw'.2 hp]; exact hS
          | false =>
            exfalso
            have hre := reach_listed hcl 6 j i (fun o' ho' => by rw [hoj] at ho'; cases ho'; exact hall) (waitsB_spec hwt hoj hn hp hil hri)
            have h0 := (mem_ready.1 hr).1
            rcases Nat.lt_or_ge i listed.size with h' | h'
            · simp [h'] at h0 hre; rw [h0] at hre; cases hre
            · simp [Array.getElem?_eq_none h'] at hre
      have h2 := wpOp_putIf hoj (hfree j oj hoj hji hjun hnot) (fun cs b => hsel i oi cs b hi) (fun cs b => hsel j oj cs b hoj) hQ hy h1
      have hfree' : ∀ k ok, ops[k]? = some ok → k ≠ i → (listed.setIfInBounds j true).getD k true = false →
          (∀ e ∈ ok.after, Region.binds .any e = true → e.on ≠ i) → oi.apart ops ok = true := fun k ok hk hki hun hno => by
        refine hfree k ok hk hki ?_ hno
        by_cases hjk : j = k
        · subst hjk; exact hjun
        · rw [getD_set_ne true hjk] at hun; exact hun
      refine wpOp_mono (fun a' w' h3 => ⟨h3.2.1, ih (listed.setIfInBounds j true) a' w' (hcl.set hj) hfree' (ready_mono hr (Ne.symm hji)) h3.1 (hstay _ h3.2.1) ?_⟩) h2
      rw [Array.setIfInBounds_comm _ _ hji]
      exact h3.2.2

theorem wpAnyR_firstP {i : Nat} {oi : Oper} {v : Value} (hnd : need i = false) (hi : ops[i]? = some oi) (hsel : ∀ (j : Nat) (o : Oper) cs b, ops[j]? = some o → o.op ≠ .select cs b)
    (hQ : ∀ c a w, Q (.panic c) (a.put oi.dst v) w → Q (.panic c) a w) :
    ∀ (fuel : Nat) (listed : Array Bool) (a : Act) (w : World),
      (∀ j oj, ops[j]? = some oj → j ≠ i → listed.getD j true = false → (∀ e ∈ oj.after, Region.binds .any e = true → e.on ≠ i) → oi.apart ops oj = true) →
      i ∈ Region.ready .any ops listed → YieldsIf P ops (fun _ => True) oi v a →
      wpAnyR P ops Q C need pur fuel (listed.setIfInBounds i true) (a.put oi.dst v) w → wpAnyR P ops Q C need pur (fuel + 1) listed a w := by
  intro fuel
  induction fuel with
  | zero =>
    intro listed a w _ hr hy Hh
    refine ⟨fun h => (by rw [h] at hr; cases hr), fun j hj => ?_⟩
    by_cases hji : j = i
    · subst hji; exact hy.wpOp hi trivial ⟨⟨(fun hn => by rw [hnd] at hn; cases hn), fun _ => rfl⟩, Hh⟩
    · have := ready_mono hj hji
      rw [Hh.1] at this
      cases this
  | succ fuel ih =>
    intro listed a w hfree hr hy Hh
    refine ⟨fun h => (by rw [h] at hr; cases hr), fun j hj => ?_⟩
    by_cases hji : j = i
    · subst hji; exact hy.wpOp hi trivial ⟨⟨(fun hn => by rw [hnd] at hn; cases hn), fun _ => rfl⟩, Hh⟩
    · have h1 := Hh.2 j (ready_mono hj hji)
      obtain ⟨hjun, oj, hoj, hall⟩ := mem_ready.1 hj
      have hnot : ∀ e ∈ oj.after, Region.binds .any e = true → e.on ≠ i := fun e he hb heq => by
        have h1 := hall e he hb
        have h0 := (mem_ready.1 hr).1
        rw [heq] at h1
        rcases Nat.lt_or_ge i listed.size with h' | h'
        · simp [h'] at h0 h1; rw [h0] at h1; cases h1
        · simp [Array.getElem?_eq_none h'] at h1
      have h2 := wpOp_putIf hoj (hfree j oj hoj hji hjun hnot) (fun cs b => hsel i oi cs b hi) (fun cs b => hsel j oj cs b hoj) hQ hy h1
      have hfree' : ∀ k ok, ops[k]? = some ok → k ≠ i → (listed.setIfInBounds j true).getD k true = false →
          (∀ e ∈ ok.after, Region.binds .any e = true → e.on ≠ i) → oi.apart ops ok = true := fun k ok hk hki hun hno => by
        refine hfree k ok hk hki ?_ hno
        by_cases hjk : j = k
        · subst hjk; exact hjun
        · rw [getD_set_ne true hjk] at hun; exact hun
      refine wpOp_mono (fun a' w' h3 => ⟨h3.2.1, ih (listed.setIfInBounds j true) a' w' hfree' (ready_mono hr (Ne.symm hji)) h3.1 ?_⟩) h2
      rw [Array.setIfInBounds_comm _ _ hji]
      exact h3.2.2

variable {n : Nat} {ds : List Deferred} {L : List (Nat × Value)} {a : Act} {w : World} {fuel : Nat} {listed : Array Bool} {i : Nat} {oi : Oper} {v : Value}
/-- The static facts of a region. -/
structure Reg (ops : Array Oper) (rd need pur : Nat → Bool) : Prop where
  sel : Region.noSelect ops = true
  waits : waitsB ops rd need pur = true
/-- Closedness, as a test. -/
def closedB (ops : Array Oper) (listed : Array Bool) : Bool := (List.range ops.size).all fun k => !listed.getD k false || match ops[k]? with
  | some o => o.after.all fun e => !Region.binds .any e || listed.getD e.on false
  | none => true
theorem closedB_spec {listed : Array Bool} (h : closedB ops listed = true) : Closed ops listed := by
  intro k o ho hk e he hb
  have h1 := List.all_eq_true.1 h k (List.mem_range.2 (Array.getElem?_eq_some_iff.1 ho).1)
  rw [hk, ho] at h1
  simp only [Bool.not_true, Bool.false_or] at h1
  have h2 := Array.all_eq_true_iff_forall_mem.1 h1 e he
  rw [hb] at h2
  simpa using h2
theorem sr_take (hR : Reg ops rd need pur) (hcl : closedB ops listed = true) (hi : ops[i]? = some oi) (hri : rd i = true) (hf : Region.free .any ops listed i = true) (hr : (Region.ready .any ops listed).contains i = true)
    (hQ : ∀ c a w, Q (.panic c) (a.put oi.dst v) w → Q (.panic c) a w) (hA : Fm n ds L a) (hk : okOp L oi = true) (hw : wants ops L oi true = true) (hd : dOk n oi.dst = true) (hC : C w) (hv : Rd P (ev L) oi C v)
    (next : ∀ a', Fm n ds (addL oi.dst v L) a' → wpAnyR P ops Q C need pur fuel (listed.setIfInBounds i true) a' w) : wpAnyR P ops Q C need pur (fuel + 1) listed a w :=
  wpAnyR_first hR.waits hri hi (Region.noSelect_spec hR.sel) hQ fuel listed a w (closedB_spec hcl) (Region.free_spec hi hf) (by simpa using hr) (.inl ⟨hA.wanted hw, fun w hw => by rw [hA.exec hk]; exact hv w hw⟩) hC (next _ (hA.put hd v))
theorem sr_pure (hR : Reg ops rd need pur) (hnd : need i = false) (hi : ops[i]? = some oi) (hf : Region.free .any ops listed i = true) (hr : (Region.ready .any ops listed).contains i = true)
    (hQ : ∀ c a w, Q (.panic c) (a.put oi.dst v) w → Q (.panic c) a w) (hA : Fm n ds L a) (hk : okOp L oi = true) (hw : wants ops L oi true = true) (hd : dOk n oi.dst = true) (hv : Rd P (ev L) oi (fun _ => True) v)
    (next : ∀ a', Fm n ds (addL oi.dst v L) a' → wpAnyR P ops Q C need pur fuel (listed.setIfInBounds i true) a' w) : wpAnyR P ops Q C need pur (fuel + 1) listed a w :=
  wpAnyR_firstP hnd hi (Region.noSelect_spec hR.sel) hQ fuel listed a w (Region.free_spec hi hf) (by simpa using hr) (.inl ⟨hA.wanted hw, fun w _ => by rw [hA.exec hk]; exact hv w trivial⟩) (next _ (hA.put hd v))
theorem sr_skipP (hR : Reg ops rd need pur) (hnd : need i = false) (hi : ops[i]? = some oi) (hf : Region.free .any ops listed i = true) (hr : (Region.ready .any ops listed).contains i = true)
    (hQ : ∀ c a w, Q (.panic c) (a.put oi.dst undef) w → Q (.panic c) a w) (hA : Fm n ds L a) (hw : wants ops L oi false = true) (hd : dOk n oi.dst = true)
    (next : ∀ a', Fm n ds (addL oi.dst undef L) a' → wpAnyR P ops Q C need pur fuel (listed.setIfInBounds i true) a' w) : wpAnyR P ops Q C need pur (fuel + 1) listed a w :=
  wpAnyR_firstP hnd hi (Region.noSelect_spec hR.sel) hQ fuel listed a w (Region.free_spec hi hf) (by simpa using hr) (.inr ⟨hA.wanted hw, rfl⟩) (next _ (hA.put hd undef))
theorem sr_skip (hR : Reg ops rd need pur) (hcl : closedB ops listed = true) (hi : ops[i]? = some oi) (hri : rd i = true) (hf : Region.free .any ops listed i = true) (hr : (Region.ready .any ops listed).contains i = true)
    (hQ : ∀ c a w, Q (.panic c) (a.put oi.dst undef) w → Q (.panic c) a w) (hA : Fm n ds L a) (hw : wants ops L oi false = true) (hd : dOk n oi.dst = true) (hC : C w)
    (next : ∀ a', Fm n ds (addL oi.dst undef L) a' → wpAnyR P ops Q C need pur fuel (listed.setIfInBounds i true) a' w) : wpAnyR P ops Q C need pur (fuel + 1) listed a w :=
  wpAnyR_first hR.waits hri hi (Region.noSelect_spec hR.sel) hQ fuel listed a w (closedB_spec hcl) (Region.free_spec hi hf) (by simpa using hr) (.inr ⟨hA.wanted hw, rfl⟩) hC (next _ (hA.put hd undef))
theorem sr_all {rs : List Nat} (hr : Region.ready .any ops listed = rs) (hne : rs.isEmpty = false)
    (h : ∀ i ∈ rs, wpOp P ops Q i (fun a' w' => ((need i = true → C w') ∧ (pur i = true → w' = w)) ∧ wpAnyR P ops Q C need pur fuel (listed.setIfInBounds i true) a' w') a w) : wpAnyR P ops Q C need pur (fuel + 1) listed a w :=
  ⟨(fun h0 => by rw [hr] at h0; rw [h0] at hne; cases hne), hr ▸ h⟩
theorem sr_one (hr : Region.ready .any ops listed = [i]) (h : wpOp P ops Q i (fun a' w' => ((need i = true → C w') ∧ (pur i = true → w' = w)) ∧ wpAnyR P ops Q C need pur fuel (listed.setIfInBounds i true) a' w') a w) : wpAnyR P ops Q C need pur (fuel + 1) listed a w :=
  sr_all hr rfl (fun j hj => by simp at hj; subst hj; exact h)
theorem sr_two {j : Nat} (hr : Region.ready .any ops listed = [i, j]) (h : wpOp P ops Q i (fun a' w' => ((need i = true → C w') ∧ (pur i = true → w' = w)) ∧ wpAnyR P ops Q C need pur fuel (listed.setIfInBounds i true) a' w') a w)
    (h' : wpOp P ops Q j (fun a' w' => ((need j = true → C w') ∧ (pur j = true → w' = w)) ∧ wpAnyR P ops Q C need pur fuel (listed.setIfInBounds j true) a' w') a w) : wpAnyR P ops Q C need pur (fuel + 1) listed a w :=
  sr_all hr rfl (fun k hk => by simp at hk; rcases hk with rfl | rfl <;> assumption)
theorem sr_three {j k : Nat} (hr : Region.ready .any ops listed = [i, j, k]) (h : wpOp P ops Q i (fun a' w' => ((need i = true → C w') ∧ (pur i = true → w' = w)) ∧ wpAnyR P ops Q C need pur fuel (listed.setIfInBounds i true) a' w') a w)
    (h' : wpOp P ops Q j (fun a' w' => ((need j = true → C w') ∧ (pur j = true → w' = w)) ∧ wpAnyR P ops Q C need pur fuel (listed.setIfInBounds j true) a' w') a w)
    (h'' : wpOp P ops Q k (fun a' w' => ((need k = true → C w') ∧ (pur k = true → w' = w)) ∧ wpAnyR P ops Q C need pur fuel (listed.setIfInBounds k true) a' w') a w) : wpAnyR P ops Q C need pur (fuel + 1) listed a w :=
  sr_all hr rfl (fun m hm => by simp at hm; rcases hm with rfl | rfl | rfl <;> assumption)
theorem sr_do (hi : ops[i]? = some oi) (hA : Fm n ds L a) (hk : okOp L oi = true) (hw : wants ops L oi true = true) (hd : dOk n oi.dst = true) {K : Act → World → Prop}
    (h : Runs P (ev L) oi w fun v w' => ∀ a', Fm n ds (addL oi.dst v L) a' → K a' w') : wpOp P ops Q i K a w := by
  unfold wpOp
  rw [hi]
  simp only
  rw [if_pos (hA.wanted hw)]
  refine .inl (Runs.wp ?_)
  unfold Runs at h ⊢
  rw [hA.exec hk]
  generalize (execOp (ev L) oi).run P w = r at h ⊢
  cases r with
  | ok x w' =>
    cases x <;> first
      | exact h _ (hA.put hd _)
      | exact h.elim
      | exact h.mono fun e w'' ⟨v, he, hv⟩ => ⟨v, he, hv _ (hA.put hd _)⟩
  | halt x w' => exact h.elim
theorem sr_done (hr : Region.ready .any ops listed = []) (h : Q .normal a w) : ∀ fuel, wpAnyR P ops Q C need pur fuel listed a w
  | 0 => ⟨hr, h⟩
  | _ + 1 => ⟨fun _ => h, by rw [hr]; simp⟩
theorem sr_region {id m : Nat} {w0 : World} {S : Nat → Prop} {H G : List Res} (rd need pur : Nat → Bool) (hz : ops.size = m) (hm : P.follows .mixedOrders = true) (hs : Region.noSelect ops = true) (hw : waitsB ops rd need pur = true) (hW : Ws w0 S H G w)
    (h : ∀ w', Ws w0 S H G w' → Fr No w w' → Reg ops rd need pur → wpAnyR P ops Q C need pur m (Array.replicate m false) a w') : (Code.region id ops true).wp P Q a w := by
  subst hz
  exact wp_region_any hm (wpAny_of_R _ _ _ _ (h _ hW.drew (Fr.refl No w).drew ⟨hs, hw⟩))
theorem panic_no {Q : Exit → Act → World → Prop} (h : ∀ c a a' w, Q (.panic c) a w → Q (.panic c) a' w) {d : Option Tmp} {v : Value} : ∀ c a w, Q (.panic c) (a.put d v) w → Q (.panic c) a w := fun c _ _ hq => h c _ _ _ hq

theorem Runs.ofRd {ρ : Operand → Value} {o : Oper} {C' : World → Prop} {v : Value} {Φ : Value → World → Prop} {w : World} (hC : C' w) (hr : Rd P ρ o C' v) (next : Φ v w) : Runs P ρ o w Φ := by
  unfold Runs
  rw [hr w hC]
  exact next
theorem fwdN {l : Nat} {rest : Code} {a : Act} {w : World} (h : Q .normal a w) : fwd P l rest Q .normal a w := h
theorem fwdX {l id : Nat} {rest : Code} {a : Act} {w : World} (h : Q (.exit id) a w) : fwd P l rest Q (.exit id) a w := h
theorem fwdR {l : Nat} {rest : Code} {a : Act} {w : World} (h : Q .ret a w) : fwd P l rest Q .ret a w := h
theorem fwdG {l : Nat} {rest : Code} {a : Act} {w : World} (h : rest.wp P (Exit.noGoto Q) a w) : fwd P l rest Q (.goto l) a w := ⟨rfl, h⟩
theorem nogN {a : Act} {w : World} (h : Q .normal a w) : Exit.noGoto Q .normal a w := h
theorem nogX {id : Nat} {a : Act} {w : World} (h : Q (.exit id) a w) : Exit.noGoto Q (.exit id) a w := h
theorem nogR {a : Act} {w : World} (h : Q .ret a w) : Exit.noGoto Q .ret a w := h

/-- A cut: what is known behind a piece of code that goes on. -/
theorem wp_cut {c : Code} (M : Act → World → Prop) (h : c.wp P (fun e a w => match e with | .normal => M a w | _ => False) a w) (next : ∀ a w, M a w → Q .normal a w) : c.wp P Q a w :=
  wp_mono h fun e a w hq => by cases e <;> first | exact next _ _ hq | exact hq.elim
/-- Some of what is known, in another order. -/
theorem Ws.pick {w0 : World} {S : Nat → Prop} {H K G : List Res} {w : World} (h : Ws w0 S H G w) (is : List Nat) (hn : is.Nodup) (hK : is.mapM (fun i => H[i]?) = some K) : Ws w0 S K G w := by
  have hmem : ∀ (is : List Nat) (K : List Res), is.mapM (fun i => H[i]?) = some K → K.length = is.length ∧ ∀ (j : Nat) (r : Res), K[j]? = some r → ∃ i, is[j]? = some i ∧ H[i]? = some r := by
    intro is
    induction is with
    | nil => intro K hK; cases hK; exact ⟨rfl, by simp⟩
    | cons i is ih =>
      intro K hK
      rw [List.mapM_cons] at hK
      cases hi : H[i]? with
      | none => rw [hi] at hK; cases hK
      | some r =>
        rw [hi] at hK
        cases hr : is.mapM (fun i => H[i]?) with
        | none => rw [hr] at hK; cases hK
        | some K' =>
          rw [hr] at hK
          cases hK
          obtain ⟨h1, h2⟩ := ih K' hr
          refine ⟨by simp [h1], fun j s hs => ?_⟩
          cases j with
          | zero => cases hs; exact ⟨i, rfl, hi⟩
          | succ j => exact h2 j s hs
  obtain ⟨hl, hm⟩ := hmem is K hK
  have hin : ∀ r ∈ K, r ∈ H := fun r hr => by
    obtain ⟨j, hj⟩ := List.mem_iff_getElem?.1 hr
    obtain ⟨i, -, hi⟩ := hm j r hj
    exact List.mem_of_getElem? hi
  refine ⟨h.fr, fun r hr => h.at_ r (hin r hr), fun r hr => h.lt r (hin r hr), List.pairwise_iff_getElem.2 (fun j k hj hk hlt b hb hb' => ?_), fun r hr => h.may r (hin r hr), h.gat, h.glt, fun g hg r hr => h.gd g hg r (hin r hr)⟩
  obtain ⟨i1, e1, f1⟩ := hm j _ (List.getElem?_eq_getElem hj)
  obtain ⟨i2, e2, f2⟩ := hm k _ (List.getElem?_eq_getElem hk)
  have hne : i1 ≠ i2 := fun e => by
    subst e
    have := (List.getElem?_inj (by omega) hn).1 (e1.trans e2.symm)
    omega
  have pw := List.pairwise_iff_getElem.1 h.nd
  obtain ⟨l1, g1⟩ := List.getElem?_eq_some_iff.1 f1
  obtain ⟨l2, g2⟩ := List.getElem?_eq_some_iff.1 f2
  rcases Nat.lt_or_gt_of_ne hne with hlt' | hlt'
  · exact pw i1 i2 l1 l2 hlt' b (by rw [g1]; exact hb) (by rw [g2]; exact hb')
  · exact pw i2 i1 l2 l1 hlt' b (by rw [g2]; exact hb') (by rw [g1]; exact hb)
theorem Ws.pickG {w0 : World} {S : Nat → Prop} {H K G : List Res} {w : World} (h : Ws w0 S H G w) (is : List Nat) (hK : is.filterMap (fun i => G[i]?) = K) : Ws w0 S H K w := by
  have hin : ∀ r ∈ K, r ∈ G := fun r hr => by
    rw [← hK] at hr
    obtain ⟨i, -, hi⟩ := List.mem_filterMap.1 hr
    exact List.mem_of_getElem? hi
  exact ⟨h.fr, h.at_, h.lt, h.nd, h.may, fun g hg => h.gat g (hin g hg), fun g hg => h.glt g (hin g hg), fun g hg => h.gd g (hin g hg)⟩
end
end Go.Proofs.YtoakhhilmnfpkaaGreatDoor.L
