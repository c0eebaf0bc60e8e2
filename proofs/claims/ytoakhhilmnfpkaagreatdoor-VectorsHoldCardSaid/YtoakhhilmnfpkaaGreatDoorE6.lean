/- The engine: struct equality, maps. -/
import Derived.Test.YtoakhhilmnfpkaaGreatDoorE5
import Derived.Laws.StructEq
namespace Go.Proofs.YtoakhhilmnfpkaaGreatDoor.L
open Go.RowKit Go.MapKept Go.Maps

section
variable {P : Program} {ρ : Operand → Value} {C : World → Prop} {Φ : Value → World → Prop}
variable {d : Option Tmp} {ty : TypeId} {pos : String} {aft : Array Edge} {g : Option (Nat × Bool)}

theorem run_eqGuard {op : BinOp} {T : TypeId} {x y : Operand} {a b : Array Value} (hg : P.eqGuardType P.depth T = false) (w : World) : (eqGuard op T x y (.agg a) (.agg b)).run P w = .ok () w := by
  unfold eqGuard
  cases op <;> simp [program, Sem.run]
  all_goals (intro h; rw [hg] at h; cases h)
theorem Rd.eqS {T tt : TypeId} {x y : Operand} {u v : Value} {a b : Array Value} {r : Bool} (hx : ρ x = u) (hy : ρ y = v) (hu : u = .agg a) (hv : v = .agg b) (hg : P.eqGuardType P.depth T = false) (he : ∀ w, (Op.equal T u v).run P w = .ok r w) :
    Rd P ρ ⟨d, .binOp .eql T x y tt, ty, pos, aft, g⟩ C (.bool r) :=
  Rd.of (s := do eqGuard .eql T x y (ρ x) (ρ y); binOp .eql T (ρ x) (ρ y)) rfl fun w _ => by
    rw [hx, hy, hu, hv]
    rw [hu, hv] at he
    rw [Sem.run_bind, run_eqGuard hg w]
    show (do let r ← Op.equal T (.agg a) (.agg b); Pure.pure (Value.bool r) : Sem Value).run P w = _
    rw [Sem.run_bind, he w]
    rfl
theorem Rd.neS {T tt : TypeId} {x y : Operand} {u v : Value} {a b : Array Value} {r : Bool} (hx : ρ x = u) (hy : ρ y = v) (hu : u = .agg a) (hv : v = .agg b) (hg : P.eqGuardType P.depth T = false) (he : ∀ w, (Op.equal T u v).run P w = .ok r w) :
    Rd P ρ ⟨d, .binOp .neq T x y tt, ty, pos, aft, g⟩ C (.bool (!r)) :=
  Rd.of (s := do eqGuard .neq T x y (ρ x) (ρ y); binOp .neq T (ρ x) (ρ y)) rfl fun w _ => by
    rw [hx, hy, hu, hv]
    rw [hu, hv] at he
    rw [Sem.run_bind, run_eqGuard hg w]
    show (do let r ← Op.equal T (.agg a) (.agg b); Pure.pure (Value.bool (!r)) : Sem Value).run P w = _
    rw [Sem.run_bind, he w]
    rfl
end

/-! ### the model's '==' at a struct, field by field -/
theorem eqF_nil {P : Program} {d : Nat} {xs ys : Array Value} {l : List Field} (hl : l = []) (w : World) : (Op.eqFields d xs ys l).run P w = .ok true w := by subst hl; rfl
theorem eqF_cons {P : Program} {d : Nat} {xs ys : Array Value} {l : List Field} (f : Field) {fs : List Field} {u v : Value} {r s : Bool} (hl : l = f :: fs) (hn : (f.name != "_") = true) (hu : ∀ w, (part f.type xs f.offset).run P w = .ok u w) (hv : ∀ w, (part f.type ys f.offset).run P w = .ok v w)
    (hr : ∀ w, (Op.equalIn d f.type u v).run P w = .ok r w) (hs : ∀ w, (Op.eqFields d xs ys fs).run P w = .ok s w) (w : World) : (Op.eqFields d xs ys l).run P w = .ok (r && s) w := by
  subst hl
  have hn' : f.name ≠ "_" := by simpa using hn
  unfold Op.eqFields
  rw [if_pos hn', Sem.run_bind, hu w]
  simp only [Result.andThen_ok]
  rw [Sem.run_bind, hv w]
  simp only [Result.andThen_ok]
  rw [Sem.run_bind, hr w]
  simp only [Result.andThen_ok]
  cases r
  · rfl
  · simpa using hs w
theorem eq_struct {P : Program} {d : Nat} {t : TypeId} {u v : Value} {xs ys : Array Value} {r : Bool} (hu : u = .agg xs) (hv : v = .agg ys) (ht : P.underlying t = some (.struct (P.fieldsOf t))) (hp : P.stoodInHeld t = false) (h : ∀ w, (Op.eqFields d xs ys (P.fieldsOf t).toList).run P w = .ok r w) (w : World) :
    (Op.equalIn (d + 1) t u v).run P w = .ok r w := by
  subst hu hv
  exact (run_equalIn_struct w d t xs ys ht hp).trans (h w)

/-! ### maps -/
section
variable {κ ν : Type} [DecidableEq κ] {ek : κ → Value} {ev : ν → Value} {m : List (κ × ν)}
/-- A map's block. -/
def mapR (b : Nat) (ek : κ → Value) (ev : ν → Value) (m : List (κ × ν)) : Res := ⟨[b], fun w => mapAt w b ek ev m, fun _ _ h hp => hp.kept (h b (.head _))⟩
variable {P : Program} {ρ : Operand → Value} {C : World → Prop} {Φ : Value → World → Prop} {w w0 : World} {S : Nat → Prop} {H G : List Res}
variable {d : Option Tmp} {ty : TypeId} {pos : String} {aft : Array Edge} {g : Option (Nat × Bool)}
theorem Rd.lookup {T k e : TypeId} {x ix : Operand} {b : Nat} {z : Value} (a : κ) (c : Bool) (hx : ρ x = .map (some b)) (hix : ρ ix = ek a) (K : KeyE P k ek) (hT : P.underlying T = some (.map k e)) (hz : ∀ w, (zeroValue e).run P w = .ok z w) (hm : ∀ w, C w → mapAt w b ek ev m) :
    Rd P ρ ⟨d, .lookup T x ix c, ty, pos, aft, g⟩ C (if c then .tuple #[((look m a).map ev).getD z, .bool (look m a).isSome] else ((look m a).map ev).getD z) :=
  Rd.of (s := Instr.lookup T (ρ x) (ρ ix) c) rfl fun w hw => by
    rw [hx, hix]
    exact (hm w hw).lookup K hT (hz w) a c
omit [DecidableEq κ] in
theorem Rd.lookupNil {T k e : TypeId} {x ix : Operand} {z : Value} (a : κ) (c : Bool) (hx : ρ x = .map none) (hix : ρ ix = ek a) (K : KeyE P k ek) (hT : P.underlying T = some (.map k e)) (hz : ∀ w, (zeroValue e).run P w = .ok z w) :
    Rd P ρ ⟨d, .lookup T x ix c, ty, pos, aft, g⟩ C (if c then .tuple #[z, .bool false] else z) :=
  Rd.of (s := Instr.lookup T (ρ x) (ρ ix) c) rfl fun w _ => by
    rw [hx, hix]
    exact lookup_nil K hT (hz w) a c
omit [DecidableEq κ] in
theorem Ws.turnMap (h : Ws w0 S H G w) (i : Nat) {b : Nat} {m' : List (κ × ν)} (hi : H[i]? = some (mapR b ek ev m)) {w' : World} (hf : Fr (· = b) w w') (hm : mapAt w' b ek ev m') : Ws w0 S (H.set i (mapR b ek ev m')) G w' :=
  h.turn i hi (r' := mapR b ek ev m') (hf.mono fun _ _ e => by subst e; exact .head _) hm (fun x hx => ⟨.inl hx, Nat.lt_of_lt_of_le (h.lt _ (List.mem_of_getElem? hi) x hx) hf.size⟩) rfl
theorem Runs.mapUpdate {T k e : TypeId} {x ix y : Operand} {b i : Nat} (a : κ) (v : ν) (hx : ρ x = .map (some b)) (hix : ρ ix = ek a) (hy : ρ y = ev v) (K : KeyE P k ek) (hT : P.underlying T = some (.map k e)) (hW : Ws w0 S H G w) (hi : H[i]? = some (mapR b ek ev m))
    (next : ∀ w', Ws w0 S (H.set i (mapR b ek ev (put m a v))) G w' → Φ undef w') : Runs P ρ ⟨d, .mapUpdate T x ix y, ty, pos, aft, g⟩ w Φ := by
  obtain ⟨w', h1, h2, h3, h4⟩ := (show mapAt w b ek ev m from hW.get i hi).store K hT a v
  unfold Runs
  have he : (execOp ρ ⟨d, .mapUpdate T x ix y, ty, pos, aft, g⟩).run P w = .ok .skip w' := by
    show (do Instr.mapUpdate T (ρ x) (ρ ix) (ρ y); Pure.pure Next.skip : Sem Next).run P w = _
    rw [hx, hix, hy, Sem.run_bind, h1]
    rfl
  rw [he]
  exact next w' (hW.turnMap i hi h3 h2)
theorem Runs.insert {T k e : TypeId} {x ix y : Operand} {b i : Nat} (a : κ) (v : ν) (hx : ρ x = .map (some b)) (hix : ρ ix = ek a) (hy : ρ y = ev v) (K : KeyE P k ek) (hT : P.underlying T = some (.map k e)) (hW : Ws w0 S H G w) (hi : H[i]? = some (mapR b ek ev m))
    (next : ∀ w', Ws w0 S (H.set i (mapR b ek ev (put m a v))) G w' → Φ undef w') : Runs P ρ ⟨d, .insert T x ix y, ty, pos, aft, g⟩ w Φ :=
  Runs.mapUpdate (d := d) (ty := ty) (pos := pos) (aft := aft) (g := g) a v hx hix hy K hT hW hi next
/-- 'm[k] op= v': the entry; then its value: the stamp is known of the store alone. -/
def stampR (P : Program) (T : TypeId) (b : Nat) (ek : κ → Value) (ev : ν → Value) (m : List (κ × ν)) (a : κ) (st : Int) (w1 : World) : Prop :=
  ∀ v : ν, ∃ w2, (Instr.entryStore T (.map (some b)) (.int .i64 st) (ev v)).run P w1 = .ok () w2 ∧ mapAt w2 b ek ev (put m a v) ∧ Fr (· = b) w1 w2
omit [DecidableEq κ] in
theorem Runs.makeMap {T : TypeId} (ek : κ → Value) (ev : ν → Value) (hW : Ws w0 S H G w) (next : ∀ b w', Ws w0 S (mapR b ek ev [] :: H) G w' → w0.heap.size ≤ b → Fr No w w' → Φ (.map (some b)) w') : Runs P ρ ⟨d, .makeMap T none, ty, pos, aft, g⟩ w Φ :=
  Runs.new (fun b => .map (some b)) (.map #[] 0) (fun b => mapR b ek ev []) (fun _ => rfl) hW (fun _ => rfl) (fun _ _ h => ⟨#[], 0, h, stamped_empty 0, rfl⟩) next
end
end Go.Proofs.YtoakhhilmnfpkaaGreatDoor.L
