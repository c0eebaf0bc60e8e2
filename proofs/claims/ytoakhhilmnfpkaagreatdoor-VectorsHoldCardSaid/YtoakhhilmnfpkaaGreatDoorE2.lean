/- The engine: reads, stores, new memory, calls; a function's begin and end; control. -/
import Derived.Test.YtoakhhilmnfpkaaGreatDoorE
import Derived.Laws.Cells
import Derived.Laws.Tables
namespace Go.Proofs.YtoakhhilmnfpkaaGreatDoor.L
open Go.RowKit Go.MapKept Go.Maps

/-- The class of worlds of a step: as known, and come of w by new memory alone. -/
def Cls (w0 : World) (S : Nat → Prop) (H G : List Res) (w : World) : World → Prop := fun w' => Ws w0 S H G w' ∧ Fr No w w'
theorem Ws.cls {w0 : World} {S : Nat → Prop} {H G : List Res} {w : World} (h : Ws w0 S H G w) : Cls w0 S H G w w := ⟨h, Fr.refl _ _⟩
theorem q_region {P : Program} {id : Nat} {Q : Exit → Act → World → Prop} {a : Act} {w w0 : World} {S : Nat → Prop} {H G : List Res} {l : List Oper} (hm : P.follows .mixedOrders = true) (hB : Region.lexB .any l.toArray = true) (hW : Ws w0 S H G w)
    (h : wpQuiet P l.toArray (Cls w0 S H G w) (fun a' => ∀ w', Cls w0 S H G w w' → Q .normal a' w') l a) : (Code.region id l.toArray true).wp P Q a w :=
  wp_region_quiet (C := Cls w0 S H G w) hm hB ⟨hW.drew, (Fr.refl No w).drew⟩ (by simpa using h)

section
variable {P : Program} {ρ : Operand → Value} {o : Oper} {C : World → Prop} {v : Value} {w w0 : World} {S : Nat → Prop} {H G : List Res} {Φ : Value → World → Prop}
variable {d : Option Tmp} {ty : TypeId} {pos : String} {aft : Array Edge} {g : Option (Nat × Bool)}

theorem Rd.pure (h : ∀ w, (execOp ρ o).run P w = .ok (.value v) w) : Rd P ρ o C v := fun w _ => h w
theorem Rd.of {s : Sem Value} (he : execOp ρ o = (do Pure.pure (.value (← s)))) (h : ∀ w, C w → s.run P w = .ok v w) : Rd P ρ o C v := fun w hw => by
  rw [he, Sem.run_bind, h w hw]
  simp [Result.andThen]

/-! ### loads -/
/-- What a load of type t reads at place i of these cells. -/
def ldv (P : Program) (t : TypeId) (cs : Array Value) (i : Nat) : Option Value :=
  match P.underlying t, (P.info? t).map (·.size) with
  | some (.struct _), some n => if i + n ≤ cs.size then some (.agg (cs.extract i (i + n))) else none
  | some (.array _ _), some n => if i + n ≤ cs.size then some (.agg (cs.extract i (i + n))) else none
  | some (.struct _), none => none
  | some (.array _ _), none => none
  | some _, _ => cs[i]?
  | none, _ => none
theorem add_mk (b i j : Nat) : (⟨b, i, none⟩ : Addr).add j = ⟨b, i + j, none⟩ := by
  unfold Addr.add
  split
  · rename_i e; subst e; rfl
  · rfl
/-- n cells from i on, one by one. -/
theorem run_load_cells {b i n : Nat} {xs : List Value} (hn : xs.length = n) (h : ∀ j u, xs[j]? = some u → w.cell? ⟨b, i + j, none⟩ = some u) : (loadCells ⟨b, i, none⟩ n).run P w = .ok xs.toArray w := by
  subst hn
  exact run_loadCells_list (P := P) w ⟨b, i, none⟩ xs (fun j u hj => by rw [add_mk]; exact h j u hj)
theorem run_load_agg {t : TypeId} {b i : Nat} {xs : List Value} (ha : (isAgg t).run P w = .ok true w) (hs : (sizeOf t).run P w = .ok xs.length w) (h : ∀ j u, xs[j]? = some u → w.cell? ⟨b, i + j, none⟩ = some u) : (loadVar t ⟨b, i, none⟩).run P w = .ok (.agg xs.toArray) w := by
  simp [loadVar, Sem.run_bind, ha, hs, Result.andThen, run_load_cells rfl h]
theorem run_load_one {t : TypeId} {b i : Nat} {u : Value} (ha : (isAgg t).run P w = .ok false w) (h : w.cell? ⟨b, i, none⟩ = some u) : (loadVar t ⟨b, i, none⟩).run P w = .ok u w := by
  simp [loadVar, Sem.run_bind, ha, Result.andThen, h]
theorem run_ldv {t : TypeId} {b i : Nat} {cs : Array Value} {T : TypeId} {fr : Nat × Nat} (hb : w.heap[b]? = some (.cells cs T fr)) (hv : ldv P t cs i = some v) : (loadVar t ⟨b, i, none⟩).run P w = .ok v w := by
  unfold ldv at hv
  have key : ∀ (n : Nat), (isAgg t).run P w = .ok true w → (sizeOf t).run P w = .ok n w → i + n ≤ cs.size → (loadVar t ⟨b, i, none⟩).run P w = .ok (.agg (cs.extract i (i + n))) w := by
    intro n ha hs hle
    have hlen : (cs.extract i (i + n)).toList.length = n := by simp; omega
    have := run_load_agg (P := P) (w := w) (t := t) (b := b) (i := i) (xs := (cs.extract i (i + n)).toList) ha (by rw [hlen]; exact hs) (fun j u hj => by
      rw [blk_cell hb]
      have hj' := hj
      simp only [Array.getElem?_toList] at hj'
      rw [Array.getElem?_extract] at hj'
      split at hj'
      · exact hj'
      · cases hj')
    rw [Array.toArray_toList] at this
    exact this
  cases hu : P.underlying t with
  | none => rw [hu] at hv; cases hv
  | some dsc =>
    rw [hu] at hv
    cases hi : P.info? t with
    | none =>
      rw [hi] at hv
      cases dsc <;> simp only [Option.map_none] at hv <;> first
        | (cases hv; done)
        | exact run_load_one (by simp [isAgg, Sem.run_bind, run_underlying hu, Result.andThen]) (by rw [blk_cell hb]; exact hv)
    | some f =>
      rw [hi] at hv
      have hs : (sizeOf t).run P w = .ok f.size w := by simp [sizeOf, typeInfo, Sem.run_bind, hi, Result.andThen]
      cases dsc <;> simp only [Option.map_some] at hv <;> first
        | exact run_load_one (by simp [isAgg, Sem.run_bind, run_underlying hu, Result.andThen]) (by rw [blk_cell hb]; exact hv)
        | (split at hv
           · rename_i hle
             cases hv
             exact key _ (by simp [isAgg, Sem.run_bind, run_underlying hu, Result.andThen]) hs hle
           · cases hv)
theorem Rd.load {t : TypeId} {x : Operand} {b i : Nat} (hx : ρ x = .pointer (some ⟨b, i, none⟩)) {cs : Array Value} {T : TypeId} {fr : Nat × Nat} (hc : ∀ w, C w → w.heap[b]? = some (.cells cs T fr)) (hv : ldv P t cs i = some v) :
    Rd P ρ ⟨d, .load t x, ty, pos, aft, g⟩ C v :=
  Rd.of (s := Instr.loadAt t (ρ x)) rfl fun w hw => by
    rw [hx]
    simp only [Instr.loadAt, Instr.sureAddr, Sem.run_bind, Sem.run_pure, Result.andThen_ok]
    exact run_ldv (hc w hw) hv
/-- .. the cells being known otherwise. -/
theorem Rd.load_of {t : TypeId} {x : Operand} {b i : Nat} (hx : ρ x = .pointer (some ⟨b, i, none⟩)) (h : ∀ w, C w → (loadVar t ⟨b, i, none⟩).run P w = .ok v w) : Rd P ρ ⟨d, .load t x, ty, pos, aft, g⟩ C v :=
  Rd.of (s := Instr.loadAt t (ρ x)) rfl fun w hw => by
    rw [hx]
    simp only [Instr.loadAt, Instr.sureAddr, Sem.run_bind, Sem.run_pure, Result.andThen_ok]
    exact h w hw

/-! ### stores -/
def putC (cs : Array Value) : Nat → List Value → Array Value
  | _, [] => cs
  | j, v :: l => putC (cs.setIfInBounds j v) (j + 1) l
theorem run_storeCells {b T : Nat} : ∀ (l : List Value) (i j : Nat) (cs : Array Value) (w : World), w.heap[b]? = some (.cells cs T (0, 0)) → i + j + l.length ≤ cs.size → (∀ v ∈ l, v.oneCell' = true) →
    ∃ w', (storeCells ⟨b, i, none⟩ l j).run P w = .ok () w' ∧ w'.heap[b]? = some (.cells (putC cs (i + j) l) T (0, 0)) ∧ Fr (· = b) w w'
  | [], i, j, cs, w, hb, _, _ => ⟨w, rfl, hb, Fr.refl _ _⟩
  | v :: l, i, j, cs, w, hb, hl, h1 => by
    have hlt : i + j < cs.size := by simp at hl; omega
    have hcell : w.cell? ⟨b, i + j, none⟩ = some cs[i + j] := by rw [blk_cell hb]; simp [hlt]
    obtain ⟨w', r1, r2, r3⟩ := run_storeCells l i (j + 1) (cs.setIfInBounds (i + j) v) (w.setCell ⟨b, i + j, none⟩ v) (blk_set hb _ _) (by simp at hl ⊢; omega) (fun u hu => h1 u (.tail _ hu))
    refine ⟨w', ?_, by rw [show i + (j + 1) = i + j + 1 from by omega] at r2; exact r2, ((Fr.refl (· = b) w).setCell (p := ⟨b, i + j, none⟩) (.inl rfl) v).to r3 (fun _ _ s => s)⟩
    have hv := h1 v (.head _)
    unfold storeCells
    rw [add_mk, Sem.run_bind]
    have hst : (store ⟨b, i + j, none⟩ v).run P w = .ok () (w.setCell ⟨b, i + j, none⟩ v) := by
      cases v <;> first
        | (simp [Value.oneCell'] at hv; done)
        | simp [store, Sem.run, hcell, blk_free hb]
    rw [hst]
    exact r1
theorem Runs.store {t : TypeId} {x y : Operand} {b j : Nat} (hx : ρ x = .pointer (some ⟨b, j, none⟩)) (hy : ρ y = v) {n : Nat} (hsz : (P.info? t).map (·.size) = some n) (hn : v.cells.size = n) (h1 : v.cells.toList.all (·.oneCell') = true)
    (hW : Ws w0 S H G w) (i : Nat) {cs : Array Value} {T : TypeId} (hi : H[i]? = some (Cel b cs T)) (hle : j + n ≤ cs.size) {cs' : Array Value} (hc : putC cs j v.cells.toList = cs') {H' : List Res} (hH : H.set i (Cel b cs' T) = H')
    (next : ∀ w', Ws w0 S H' G w' → Φ undef w') : Runs P ρ ⟨d, .store t x y, ty, pos, aft, g⟩ w Φ := by
  obtain ⟨w', r1, r2, r3⟩ := run_storeCells (P := P) v.cells.toList j 0 cs w (hW.cel i hi) (by simp; omega) (fun u hu => List.all_eq_true.1 h1 u hu)
  have hinfo : (sizeOf t).run P w = .ok n w := by
    cases hq : P.info? t with
    | none => rw [hq] at hsz; cases hsz
    | some f => rw [hq] at hsz; cases hsz; simp [sizeOf, typeInfo, Sem.run_bind, hq, Result.andThen]
  unfold Runs
  have : (execOp ρ ⟨d, .store t x y, ty, pos, aft, g⟩).run P w = .ok .skip w' := by
    show (do Instr.storeAt t (ρ x) (ρ y); Pure.pure Next.skip : Sem Next).run P w = _
    rw [hx, hy]
    simp only [Instr.storeAt, Instr.sureAddr, storeVar, Sem.run_bind, Sem.run_pure, Result.andThen_ok, hinfo]
    rw [if_neg (by rw [hn]; simp)]
    simp only [Result.andThen_ok, r1]
  rw [this]
  exact next w' (hW.turn (r' := Cel b cs' T) i hi (r3.mono fun i _ e => by subst e; exact .head _) (by simp only [Nat.add_zero] at r2; rw [hc] at r2; exact r2) (fun x hx => ⟨.inl hx, Nat.lt_of_lt_of_le (hW.lt _ (List.mem_of_getElem? hi) x hx) r3.size⟩) hH)

/-! ### new memory -/
theorem Runs.new (f : Nat → Value) (ob : Obj) (r : Nat → Res) (h : ∀ w, (execOp ρ o).run P w = .ok (.value (f w.heap.size)) (w.alloc ob)) (hW : Ws w0 S H G w) (hfp : ∀ b, (r b).fp = [b]) (hp : ∀ (b : Nat) (w' : World), w'.heap[b]? = some ob → (r b).p w')
    (next : ∀ b w', Ws w0 S (r b :: H) G w' → w0.heap.size ≤ b → Fr No w w' → Φ (f b) w') : Runs P ρ o w Φ := by
  unfold Runs
  rw [h w]
  exact next _ _ (hW.alloc ob _ (hp _ _ (blk_new w ob)) (hfp _)) hW.fr.size ((Fr.refl No w).alloc ob)
/-- New cells. -/
theorem Runs.cells (f : Nat → Value) (cs : Array Value) (T : TypeId) (h : ∀ w, (execOp ρ o).run P w = .ok (.value (f w.heap.size)) (w.alloc (.cells cs T))) (hW : Ws w0 S H G w)
    (next : ∀ b w', Ws w0 S (Cel b cs T :: H) G w' → w0.heap.size ≤ b → Fr No w w' → Φ (f b) w') : Runs P ρ o w Φ :=
  Runs.new f _ (fun b => Cel b cs T) h hW (fun _ => rfl) (fun _ _ h => h) next

/-! ### calls -/
theorem Runs.call {f : FuncId} {args : Array Value} (he : ∀ w, (execOp ρ o).run P w = .ok (.enter f args) w) {R : Ending → World → Prop} (hc : Calls P f args w R) (next : ∀ e w', R e w' → ∃ v, e = .returned v ∧ Φ v w') : Runs P ρ o w Φ := by
  unfold Runs
  rw [he w]
  exact hc.mono next
/-- A call that hands back v and makes new memory alone. -/
theorem Runs.callN {f : FuncId} {args : Array Value} (he : ∀ w, (execOp ρ o).run P w = .ok (.enter f args) w) (hW : Ws w0 S H G w) (hc : Calls P f args w fun e w' => e = .returned v ∧ Fr No w w') (next : ∀ w', Ws w0 S H G w' → Fr No w w' → Φ v w') : Runs P ρ o w Φ :=
  Runs.call he hc fun _ w' ⟨h1, h2⟩ => ⟨v, h1, next w' (hW.call h2) h2⟩
theorem Runs.callS {f : FuncId} {args : Array Value} (he : ∀ w, (execOp ρ o).run P w = .ok (.enter f args) w) (hc : Calls P f args w fun e w' => e = .returned v ∧ w = w') (next : Φ v w) : Runs P ρ o w Φ :=
  Runs.call he hc fun _ _ ⟨h1, h2⟩ => ⟨v, h1, h2 ▸ next⟩
/-- .. met in the class. -/
theorem Cls.callN {f : FuncId} {args : Array Value} (h : ∀ w, Calls P f args w fun e w' => e = .returned v ∧ Fr No w w') : ∀ w', Cls w0 S H G w w' → Calls P f args w' fun e w'' => e = .returned v ∧ Cls w0 S H G w w'' :=
  fun w' hw => (h w').mono fun _ _ ⟨h1, h2⟩ => ⟨h1, hw.1.call h2, hw.2.no h2⟩
theorem Cls.callNC {f : FuncId} {args : Array Value} (h : ∀ w', Cls w0 S H G w w' → Calls P f args w' fun e w'' => e = .returned v ∧ Fr No w' w'') : ∀ w', Cls w0 S H G w w' → Calls P f args w' fun e w'' => e = .returned v ∧ Cls w0 S H G w w'' :=
  fun w' hw => (h w' hw).mono fun _ _ ⟨h1, h2⟩ => ⟨h1, hw.1.call h2, hw.2.no h2⟩
theorem Cls.callSC {f : FuncId} {args : Array Value} (h : ∀ w', Cls w0 S H G w w' → Calls P f args w' fun e w'' => e = .returned v ∧ w' = w'') : ∀ w', Cls w0 S H G w w' → Calls P f args w' fun e w'' => e = .returned v ∧ Cls w0 S H G w w'' :=
  fun w' hw => (h w' hw).mono fun _ _ ⟨h1, h2⟩ => ⟨h1, h2 ▸ hw⟩
end

/-! ### a function's begin -/
def argsL : Nat → List Value → List (Nat × Value)
  | _, [] => []
  | i, v :: r => (i, v) :: argsL (i + 1) r
theorem argsL_spec : ∀ (l : List Value) (i t : Nat), kn (argsL i l) t = true → i ≤ t ∧ l[t - i]? = some (lk (argsL i l) t)
  | [], _, _, h => by cases h
  | v :: r, i, t, h => by
    simp only [argsL, kn, lk] at h ⊢
    by_cases e : i = t
    · subst e; simp
    · have hb : Nat.beq i t = false := by
        cases hb : Nat.beq i t with
        | false => rfl
        | true => exact absurd (Nat.eq_of_beq_eq_true hb) e
      rw [hb] at h ⊢
      obtain ⟨h1, h2⟩ := argsL_spec r (i + 1) t (by simpa using h)
      refine ⟨by omega, ?_⟩
      rw [show t - i = t - (i + 1) + 1 from by omega]
      simpa using h2
theorem enter_E {P : Program} {f : FuncId} {fn : Func} {c : Code} {args : Array Value} {w : World} {R : Ending → World → Prop} {L : List (Nat × Value)} (n : Nat) (hf : P.funcs[f]? = some fn) (hb : fn.body = some c) (hn : fn.ntmps = n) (hs : Nat.ble args.size n = true) (hL : argsL 0 args.toList = L)
    (h : ∀ a, Fm n [] L a → c.wp P (bodyPost P fn R) a w) : Calls P f args w R := by
  have hs' : args.size ≤ n := Nat.le_of_ble_eq_true hs
  refine calls_of_wp hf hb (h _ ⟨by simp [hn]; omega, rfl, fun t ht => ?_⟩)
  subst hL
  obtain ⟨-, h2⟩ := argsL_spec args.toList 0 t ht
  have h3 : args[t]? = some (lk (argsL 0 args.toList) t) := by simpa using h2
  have hlt := (Array.getElem?_eq_some_iff.1 h3).1
  simp only
  rw [Array.getElem?_append_left hlt]
  exact h3

/-! ### a function's end -/
section
variable {P : Program} {fn : Func} {R : Ending → World → Prop} {a : Act} {w : World} {n : Nat} {L : List (Nat × Value)}
/-- One result. -/
def Got (P : Program) (w : World) (a : Act) : ResultVar → Value → Prop
  | .tmp t, v => a.tmps[t]?.getD undef = v
  | .cell x t, v => ∃ ad, a.tmps[x]?.getD undef = .pointer (some ad) ∧ (loadVar t ad).run P w = .ok v w
theorem Got.tmp (hA : Fm n [] L a) {t : Tmp} {v : Value} (hk : kn L t = true) (hv : lk L t = v) : Got P w a (.tmp t) v := by
  have := hA.at_ t hk
  rw [hv] at this
  simp [Got, this]
theorem Got.cell (hA : Fm n [] L a) {x : Tmp} {t : TypeId} {v : Value} {b i : Nat} (hk : kn L x = true) (hp : lk L x = .pointer (some ⟨b, i, none⟩)) {cs : Array Value} {T : TypeId} {fr : Nat × Nat} (hc : w.heap[b]? = some (.cells cs T fr)) (hv : ldv P t cs i = some v) : Got P w a (.cell x t) v := by
  have := hA.at_ x hk
  rw [hp] at this
  exact ⟨⟨b, i, none⟩, by simp [this], run_ldv hc hv⟩
theorem ret0 {e : Exit} (he : e = .ret ∨ e = .normal) (hr : fn.results = #[]) (hA : Fm n [] L a) (hR : R (.returned (.tuple #[])) w) : bodyPost P fn R e a w := by
  rcases he with rfl | rfl <;> exact ⟨hA.defers, _, by simp [results, hr], hR⟩
theorem ret1 {r : ResultVar} {v : Value} (hr : fn.results = #[r]) (hA : Fm n [] L a) (h : Got P w a r v) (hR : R (.returned v) w) : bodyPost P fn R .ret a w := by
  refine ⟨hA.defers, v, ?_, hR⟩
  cases r <;> simp only [Got] at h <;> (try obtain ⟨_, p1, q1⟩ := h) <;> simp [results, asAddr, *]
theorem ret2 {r1 r2 : ResultVar} {v1 v2 : Value} (hr : fn.results = #[r1, r2]) (hA : Fm n [] L a) (h1 : Got P w a r1 v1) (h2 : Got P w a r2 v2) (hR : R (.returned (.tuple #[v1, v2])) w) : bodyPost P fn R .ret a w := by
  refine ⟨hA.defers, _, ?_, hR⟩
  cases r1 <;> cases r2 <;> simp only [Got] at h1 h2 <;> (try obtain ⟨_, p1, q1⟩ := h1) <;> (try obtain ⟨_, p2, q2⟩ := h2) <;> simp [results, asAddr, *]
theorem ret3 {r1 r2 r3 : ResultVar} {v1 v2 v3 : Value} (hr : fn.results = #[r1, r2, r3]) (hA : Fm n [] L a) (h1 : Got P w a r1 v1) (h2 : Got P w a r2 v2) (h3 : Got P w a r3 v3) (hR : R (.returned (.tuple #[v1, v2, v3])) w) : bodyPost P fn R .ret a w := by
  refine ⟨hA.defers, _, ?_, hR⟩
  cases r1 <;> cases r2 <;> cases r3 <;> simp only [Got] at h1 h2 h3 <;> (try obtain ⟨_, p1, q1⟩ := h1) <;> (try obtain ⟨_, p2, q2⟩ := h2) <;> (try obtain ⟨_, p3, q3⟩ := h3) <;> simp [results, asAddr, *]
end

/-! ### control -/
section
variable {P : Program} {Q : Exit → Act → World → Prop} {K : Act → World → Prop} {a : Act} {w : World}
theorem thenN (h : K a w) : Exit.then K Q .normal a w := h
theorem thenX {id : Nat} (h : Q (.exit id) a w) : Exit.then K Q (.exit id) a w := h
theorem thenG {l : Nat} (h : Q (.goto l) a w) : Exit.then K Q (.goto l) a w := h
theorem thenR (h : Q .ret a w) : Exit.then K Q .ret a w := h
theorem blkN {id : Nat} (h : Q .normal a w) : Exit.inBlock id Q .normal a w := h
theorem blkR {id : Nat} (h : Q .ret a w) : Exit.inBlock id Q .ret a w := h
theorem blkG {id l : Nat} (h : Q (.goto l) a w) : Exit.inBlock id Q (.goto l) a w := h
theorem blkX {id : Nat} (h : Q .normal a w) : Exit.inBlock id Q (.exit id) a w := by simp only [Exit.inBlock, if_true]; exact h
theorem blkY {id id' : Nat} (hne : Nat.beq id' id = false) (h : Q (.exit id') a w) : Exit.inBlock id Q (.exit id') a w := by
  simp only [Exit.inBlock]
  rw [if_neg (fun e => by rw [e] at hne; simp at hne)]
  exact h
theorem least (p : Nat → Prop) (h : ∃ n, p n) : ∃ n, p n ∧ ∀ k, p k → n ≤ k := by
  obtain ⟨n, hn⟩ := h
  induction n using Nat.strongRecOn with
  | _ n ih =>
    by_cases hk : ∃ k, p k ∧ k < n
    · obtain ⟨k, h1, h2⟩ := hk
      exact ih k h2 h1
    · exact ⟨n, hn, fun k h => Nat.le_of_not_lt (fun hl => hk ⟨k, h, hl⟩)⟩
/-- A loop by what is left of it. -/
theorem wp_loop_m {c : Code} (I : Nat → Act → World → Prop) (m : Nat) (h₀ : I m a w)
    (round : ∀ m a w, I m a w → c.wp P (Exit.then (fun a' w' => ∃ m', m' < m ∧ I m' a' w') Q) a w) : (Code.loop c).wp P Q a w := by
  classical
  refine wp_loop (fun a w => ∃ m, I m a w) (fun a w => if h : ∃ m, I m a w then Classical.choose (least _ h) else 0) ⟨m, h₀⟩ (fun a w hI => ?_)
  have hm := (Classical.choose_spec (least _ hI)).1
  refine wp_mono (round _ a w hm) (fun e a' w' hq => ?_)
  cases e <;> first
    | exact hq
    | (obtain ⟨m', hlt, hI'⟩ := hq
       have hex : ∃ m, I m a' w' := ⟨m', hI'⟩
       refine ⟨hex, ?_⟩
       simp only [dif_pos hI, dif_pos hex]
       exact Nat.lt_of_le_of_lt ((Classical.choose_spec (least _ hex)).2 m' hI') hlt)
end
end Go.Proofs.YtoakhhilmnfpkaaGreatDoor.L
