/- The engine inside a fence: the laws of control again, for functions that range over functions and for the rounds' bodies. -/
import Derived.Test.YtoakhhilmnfpkaaGreatDoorE6
import Derived.RangeFuncNested
import Derived.RangeFuncLeaves
import Derived.TacticsIn
import Derived.OrdersIn
namespace Go.Proofs.YtoakhhilmnfpkaaGreatDoor.L
open Go.RowKit Go.MapKept Go.Maps

/-- Every function, every depth; in a round of loop l, or in none. -/
abbrev FF (r : Option Nat) : Fence := { fn := fun _ => True, depth := none, alive := false, round := r }

section
variable {P : Program} {ops : Array Oper} {Q : Exit → Act → World → Prop} {n : Nat} {ds : List Deferred} {L : List (Nat × Value)} {a : Act} {w : World} {o : Oper} {rest : List Oper} {C : World → Prop} {v : Value} {r : Option Nat}

theorem callsF {f : FuncId} {args : Array Value} {R : Ending → World → Prop} : CallsIn (FF r) 0 P f args w R ↔ Calls P f args w R := callsIn_wide
theorem rowsF {row : String} {args : Array Value} {R : Value → World → Prop} (h : Rows P row args w R) : RowsIn (FF r) 0 P row args w R := fun c cs _ => by
  obtain ⟨v, w', h1, h2⟩ := h c cs
  exact ⟨v, w', h1, stepsIn_wide.2 h2⟩
theorem opF {next : Act → World → Prop} (hd : ∀ c, o.op ≠ .defer c) (h : o.wp P a w next Q) : o.wpIn (FF r) 0 P a w next Q := by
  refine ⟨fun _ _ => trivial, ?_⟩
  rw [show (FF r).round = r from rfl, Oper.semAt_eq r a.eval o hd]
  unfold Oper.wp at h
  generalize (execOp a.eval o).run P w = res at h ⊢
  cases res with
  | ok x w' =>
    cases x <;> first
      | exact h
      | exact h.elim
      | exact ⟨fun e => (by cases e), callsF.2 h⟩
      | exact ⟨fun e => (by cases e), rowsF h⟩
  | halt x w' => cases x <;> first
      | exact h
      | exact h.elim
/-- No operation that puts a call off. -/
def noDefer (ops : List Oper) : Bool := ops.all fun o => match o.op with | .defer _ => false | _ => true
theorem noDefer_spec {ops : List Oper} (h : noDefer ops = true) : ∀ o ∈ ops, ∀ c, o.op ≠ .defer c := fun o ho c hc => by
  have := List.all_eq_true.1 h o ho
  rw [hc] at this
  cases this

/-! ### one operation after another -/
/-- What an operation does, inside the fence. -/
def RunsF (P : Program) (ρ : Operand → Value) (o : Oper) (w : World) (Φ : Value → World → Prop) : Prop :=
  Runs P ρ o w Φ ∨ ∃ l args, (execOp ρ o).run P w = (Instr.yield l args).run P w ∧ YieldAt (FF none) 0 P l args w fun e w' => ∃ v, e = .returned v ∧ Φ v w'
theorem stF (hA : Fm n ds L a) (hk : okOp L o = true) (hw : wants ops L o true = true) (hd : dOk n o.dst = true) (hnd : noDefer [o] = true)
    (h : RunsF P (ev L) o w fun v w' => ∀ a', Fm n ds (addL o.dst v L) a' → wpListIn (FF r) 0 P ops Q rest a' w') : wpListIn (FF r) 0 P ops Q (o :: rest) a w := by
  unfold wpListIn
  rw [if_pos (hA.wanted hw)]
  have hev := hA.exec hk
  rcases h with h | ⟨l, args, h1, fn, tmps, assign, body, h2, h3⟩
  · refine opF (noDefer_spec hnd o (.head _)) (Runs.wp ?_)
    unfold Runs at h ⊢
    rw [hev]
    generalize (execOp (ev L) o).run P w = r at h ⊢
    cases r with
    | ok x w' =>
      cases x <;> first
        | exact h _ (hA.put hd _)
        | exact h.elim
        | exact h.mono fun e w'' ⟨v, he, hv⟩ => ⟨v, he, hv _ (hA.put hd _)⟩
    | halt x w' => exact h.elim
  · refine ⟨fun _ _ => trivial, ?_⟩
    rw [Oper.semAt_eq _ a.eval o (noDefer_spec hnd o (.head _)), hev, h1, h2]
    refine ⟨fun e => (by cases e), ?_⟩
    have h4 : RoundIn (FF r) 0 P l fn tmps assign body w (fun e w' => ∃ v, e = .returned v ∧ ∀ a', Fm n ds (addL o.dst v L) a' → wpListIn (FF r) 0 P ops Q rest a' w') := h3
    exact h4.mono fun e w' ⟨v, he, hv⟩ => by subst he; exact hv _ (hA.put hd _)
theorem st_rdF (hA : Fm n ds L a) (hk : okOp L o = true) (hw : wants ops L o true = true) (hd : dOk n o.dst = true) (hnd : noDefer [o] = true) (hC : C w) (hr : Rd P (ev L) o C v)
    (next : ∀ a', Fm n ds (addL o.dst v L) a' → wpListIn (FF r) 0 P ops Q rest a' w) : wpListIn (FF r) 0 P ops Q (o :: rest) a w :=
  stF hA hk hw hd hnd (.inl (by unfold Runs; rw [hr w hC]; exact next))
theorem st_skipF (hA : Fm n ds L a) (hw : wants ops L o false = true) (hd : dOk n o.dst = true) (next : ∀ a', Fm n ds (addL o.dst undef L) a' → wpListIn (FF r) 0 P ops Q rest a' w) : wpListIn (FF r) 0 P ops Q (o :: rest) a w := by
  unfold wpListIn
  rw [if_neg (by rw [hA.wanted hw]; simp)]
  exact ⟨fun _ _ => trivial, next _ (hA.put hd _)⟩
theorem wpListIn_nil (h : Q .normal a w) : wpListIn (FF r) 0 P ops Q [] a w := h

/-! ### regions that draw their order -/
theorem wpIn_cut {c : Code} (M : Act → World → Prop) (h : c.wpIn (FF r) 0 P (fun e a w => match e with | .normal => M a w | _ => False) a w) (next : ∀ a w, M a w → Q .normal a w) : c.wpIn (FF r) 0 P Q a w :=
  wpIn_mono h fun e a w hq => by cases e <;> first | exact next _ _ hq | exact hq.elim

/-! ### loops, scopes -/
theorem wpIn_loop_m {c : Code} (I : Nat → Act → World → Prop) (m : Nat) (h₀ : I m a w)
    (round : ∀ m a w, I m a w → c.wpIn (FF r) 0 P (Exit.then (fun a' w' => ∃ m', m' < m ∧ I m' a' w') Q) a w) : (Code.loop c).wpIn (FF r) 0 P Q a w := by
  classical
  have least : ∀ p : Nat → Prop, (∃ m, p m) → ∃ m, p m ∧ ∀ k, p k → m ≤ k := fun p ⟨m, hm⟩ => by
    induction m using Nat.strongRecOn with
    | _ m ih =>
      by_cases h : ∃ k, k < m ∧ p k
      · obtain ⟨k, hk, hp⟩ := h; exact ih k hk hp
      · exact ⟨m, hm, fun k hk => Nat.le_of_not_lt fun hlt => h ⟨k, hlt, hk⟩⟩
  refine wpIn_loop (fun a w => ∃ m, I m a w) (fun a w => if h : ∃ m, I m a w then Classical.choose (least _ h) else 0) ⟨m, h₀⟩ (fun a w hI => ?_)
  have hm := (Classical.choose_spec (least _ hI)).1
  refine wpIn_mono (round _ a w hm) (fun e a' w' hq => ?_)
  cases e <;> first
    | exact hq
    | (obtain ⟨m', hlt, hI'⟩ := hq
       have hex : ∃ m, I m a' w' := ⟨m', hI'⟩
       refine ⟨hex, ?_⟩
       simp only [dif_pos hI, dif_pos hex]
       exact Nat.lt_of_le_of_lt ((Classical.choose_spec (least _ hex)).2 m' hI') hlt)
theorem stepR_scope {b : Frame} {k : List Item} {cs : List Frame} {c : Code} : step P (lone (b.atR a (.code (.scope c) :: k)) cs w) = .next (lone (b.atR a (.code c :: .inScope c :: k)) cs w) :=
  step_lone_go (by simp [stepG, stepG.exec, Frame.atR])
theorem stepR_inScope {b : Frame} {k : List Item} {cs : List Frame} {c : Code} : step P (lone (b.atR a (.inScope c :: k)) cs w) = .next (lone (b.atR a k) cs w) :=
  step_lone_go (by simp [stepG, stepG.exec, Frame.atR])
end

/-! ### a function's begin and end -/
section
variable {P : Program} {fn : Func} {R : Ending → World → Prop} {a : Act} {w : World} {n : Nat} {ds : List Deferred} {L : List (Nat × Value)}
theorem enter_F {f : FuncId} {c : Code} {args : Array Value} (n : Nat) (hf : P.funcs[f]? = some fn) (hb : fn.body = some c) (hn : fn.ntmps = n) (hs : Nat.ble args.size n = true) (hL : argsL 0 args.toList = L)
    (h : ∀ a, Fm n [] L a → c.wpIn (FF none) 0 P (bodyPostM (FF none) 0 P fn R) a w) : Calls P f args w R := by
  have hs' : args.size ≤ n := Nat.le_of_ble_eq_true hs
  refine callsF.1 (callsIn_of_wp_marks hf hb trivial (h _ ⟨by simp [hn]; omega, rfl, fun t ht => ?_⟩))
  subst hL
  obtain ⟨-, h2⟩ := argsL_spec args.toList 0 t ht
  have h3 : args[t]? = some (lk (argsL 0 args.toList) t) := by simpa using h2
  have hlt := (Array.getElem?_eq_some_iff.1 h3).1
  simp only
  rw [Array.getElem?_append_left hlt]
  exact h3
theorem retF {e : Exit} (he : e = .ret ∨ e = .normal) (hA : Fm n ds L a) (h : LeavesInM (FF none) 0 P fn a.tmps R ds .returning w) : bodyPostM (FF none) 0 P fn R e a w := by
  rcases he with rfl | rfl <;> (show LeavesInM (FF none) 0 P fn a.tmps R a.defers .returning w; rw [hA.defers]; exact h)
/-- The block for the rounds' deferred calls, of which there are none. -/
def DefR (D : Nat) : Res := ⟨[D], fun w => w.heap[D]? = some (.deferred (some [])), fun _ _ h hp => (h D (.head _)).trans hp⟩
theorem Fr.put {w : World} {b : Nat} (o : Obj) : Fr (· = b) w (w.putObj b o) :=
  ⟨rfl, rfl, rfl, by simp [World.putObj], fun i _ hi => World.putObj_heap_other (fun e => hi e)⟩
end
end Go.Proofs.YtoakhhilmnfpkaaGreatDoor.L
