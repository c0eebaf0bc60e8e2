/- The engine: the same laws in short: what is settled by looking is left out where they are used. -/
import Derived.Test.YtoakhhilmnfpkaaGreatDoorE16
namespace Go.Proofs.YtoakhhilmnfpkaaGreatDoor.L
open Go.RowKit Go.MapKept Go.Maps

section
variable {P : Program} {ops : Array Oper} {Q : Exit → Act → World → Prop} {n : Nat} {ds : List Deferred} {L : List (Nat × Value)} {a : Act} {w : World} {o : Oper} {rest : List Oper} {C : World → Prop}

theorem st_p (v : Value) (hA : Fm n ds L a) (next : ∀ a', Fm n ds (addL o.dst v L) a' → wpList P ops Q rest a' w) (hk : okOp L o = true := by kernel_rfl) (hw : wants ops L o true = true := by kernel_rfl) (hd : dOk n o.dst = true := by kernel_rfl)
    (hp : ∀ w, (execOp (ev L) o).run P w = .ok (.value v) w := by intro _; kernel_rfl) : wpList P ops Q (o :: rest) a w :=
  st_rd (C := fun _ => True) hA hk hw hd trivial (Rd.pure hp) next
theorem st_q (v : Value) (hA : Fm n ds L a) (hC : C w) (hr : Rd P (ev L) o C v) (next : ∀ a', Fm n ds (addL o.dst v L) a' → wpList P ops Q rest a' w) (hk : okOp L o = true := by kernel_rfl) (hw : wants ops L o true = true := by kernel_rfl) (hd : dOk n o.dst = true := by kernel_rfl) : wpList P ops Q (o :: rest) a w :=
  st_rd hA hk hw hd hC hr next
theorem st_s (hA : Fm n ds L a) (h : Runs P (ev L) o w fun v w' => ∀ a', Fm n ds (addL o.dst v L) a' → wpList P ops Q rest a' w') (hk : okOp L o = true := by kernel_rfl) (hw : wants ops L o true = true := by kernel_rfl) (hd : dOk n o.dst = true := by kernel_rfl) : wpList P ops Q (o :: rest) a w :=
  st hA hk hw hd h
theorem st_k (hA : Fm n ds L a) (next : ∀ a', Fm n ds (addL o.dst undef L) a' → wpList P ops Q rest a' w) (hw : wants ops L o false = true := by kernel_rfl) (hd : dOk n o.dst = true := by kernel_rfl) : wpList P ops Q (o :: rest) a w :=
  st_skip hA hw hd next
theorem sq_p {Q : Act → Prop} (v : Value) (hA : Fm n ds L a) (next : ∀ a', Fm n ds (addL o.dst v L) a' → wpQuiet P ops C Q rest a') (hk : okOp L o = true := by kernel_rfl) (hw : wants ops L o true = true := by kernel_rfl) (hd : dOk n o.dst = true := by kernel_rfl)
    (hp : ∀ w, (execOp (ev L) o).run P w = .ok (.value v) w := by intro _; kernel_rfl) : wpQuiet P ops C Q (o :: rest) a :=
  sq_rd hA hk hw hd (Rd.pure hp) next
theorem sq_q {Q : Act → Prop} (v : Value) (hA : Fm n ds L a) (hr : Rd P (ev L) o C v) (next : ∀ a', Fm n ds (addL o.dst v L) a' → wpQuiet P ops C Q rest a') (hk : okOp L o = true := by kernel_rfl) (hw : wants ops L o true = true := by kernel_rfl) (hd : dOk n o.dst = true := by kernel_rfl) : wpQuiet P ops C Q (o :: rest) a :=
  sq_rd hA hk hw hd hr next
theorem sq_k {Q : Act → Prop} (hA : Fm n ds L a) (next : ∀ a', Fm n ds (addL o.dst undef L) a' → wpQuiet P ops C Q rest a') (hw : wants ops L o false = true := by kernel_rfl) (hd : dOk n o.dst = true := by kernel_rfl) : wpQuiet P ops C Q (o :: rest) a :=
  sq_skip hA hw hd next
end

section
variable {P : Program} {ops : Array Oper} {Q : Exit → Act → World → Prop} {C : World → Prop} {rd need pur : Nat → Bool} {n : Nat} {ds : List Deferred} {L : List (Nat × Value)} {a : Act} {w : World} {fuel : Nat} {listed : Array Bool} {oi : Oper}

theorem sr_p (i : Nat) (v : Value) (hR : Reg ops rd need pur) (hi : ops[i]? = some oi) (hA : Fm n ds L a) (next : ∀ a', Fm n ds (addL oi.dst v L) a' → wpAnyR P ops Q C need pur fuel (listed.setIfInBounds i true) a' w) (hnd : need i = false := by kernel_rfl) (hf : Region.free .any ops listed i = true := by kernel_rfl) (hr : (Region.ready .any ops listed).contains i = true := by kernel_rfl)
    (hQ : ∀ c a w, Q (.panic c) (a.put oi.dst v) w → Q (.panic c) a w := by exact fun _ _ _ h => h.elim) (hk : okOp L oi = true := by kernel_rfl) (hw : wants ops L oi true = true := by kernel_rfl) (hd : dOk n oi.dst = true := by kernel_rfl) (hp : ∀ w, (execOp (ev L) oi).run P w = .ok (.value v) w := by intro _; kernel_rfl) : wpAnyR P ops Q C need pur (fuel + 1) listed a w :=
  sr_pure hR hnd hi hf hr hQ hA hk hw hd (Rd.pure hp) next
theorem sr_q (i : Nat) (v : Value) (hR : Reg ops rd need pur) (hi : ops[i]? = some oi) (hA : Fm n ds L a) (hv : Rd P (ev L) oi (fun _ => True) v) (next : ∀ a', Fm n ds (addL oi.dst v L) a' → wpAnyR P ops Q C need pur fuel (listed.setIfInBounds i true) a' w) (hnd : need i = false := by kernel_rfl) (hf : Region.free .any ops listed i = true := by kernel_rfl) (hr : (Region.ready .any ops listed).contains i = true := by kernel_rfl)
    (hQ : ∀ c a w, Q (.panic c) (a.put oi.dst v) w → Q (.panic c) a w := by exact fun _ _ _ h => h.elim) (hk : okOp L oi = true := by kernel_rfl) (hw : wants ops L oi true = true := by kernel_rfl) (hd : dOk n oi.dst = true := by kernel_rfl) : wpAnyR P ops Q C need pur (fuel + 1) listed a w :=
  sr_pure hR hnd hi hf hr hQ hA hk hw hd hv next
theorem sr_t (i : Nat) (v : Value) (hR : Reg ops rd need pur) (hi : ops[i]? = some oi) (hA : Fm n ds L a) (hC : C w) (hv : Rd P (ev L) oi C v) (next : ∀ a', Fm n ds (addL oi.dst v L) a' → wpAnyR P ops Q C need pur fuel (listed.setIfInBounds i true) a' w) (hcl : closedB ops listed = true := by kernel_rfl) (hri : rd i = true := by kernel_rfl) (hf : Region.free .any ops listed i = true := by kernel_rfl) (hr : (Region.ready .any ops listed).contains i = true := by kernel_rfl)
    (hQ : ∀ c a w, Q (.panic c) (a.put oi.dst v) w → Q (.panic c) a w := by exact fun _ _ _ h => h.elim) (hk : okOp L oi = true := by kernel_rfl) (hw : wants ops L oi true = true := by kernel_rfl) (hd : dOk n oi.dst = true := by kernel_rfl) : wpAnyR P ops Q C need pur (fuel + 1) listed a w :=
  sr_take hR hcl hi hri hf hr hQ hA hk hw hd hC hv next
theorem sr_d {i : Nat} (hi : ops[i]? = some oi) (hA : Fm n ds L a) {K : Act → World → Prop} (h : Runs P (ev L) oi w fun v w' => ∀ a', Fm n ds (addL oi.dst v L) a' → K a' w') (hk : okOp L oi = true := by kernel_rfl) (hw : wants ops L oi true = true := by kernel_rfl) (hd : dOk n oi.dst = true := by kernel_rfl) : wpOp P ops Q i K a w :=
  sr_do hi hA hk hw hd h
theorem sr_s (i : Nat) (hR : Reg ops rd need pur) (hi : ops[i]? = some oi) (hA : Fm n ds L a) (next : ∀ a', Fm n ds (addL oi.dst undef L) a' → wpAnyR P ops Q C need pur fuel (listed.setIfInBounds i true) a' w) (hnd : need i = false := by kernel_rfl) (hf : Region.free .any ops listed i = true := by kernel_rfl) (hr : (Region.ready .any ops listed).contains i = true := by kernel_rfl)
    (hQ : ∀ c a w, Q (.panic c) (a.put oi.dst undef) w → Q (.panic c) a w := by exact fun _ _ _ h => h.elim) (hw : wants ops L oi false = true := by kernel_rfl) (hd : dOk n oi.dst = true := by kernel_rfl) : wpAnyR P ops Q C need pur (fuel + 1) listed a w :=
  sr_skipP hR hnd hi hf hr hQ hA hw hd next
theorem sr_z {i : Nat} (hi : ops[i]? = some oi) (hA : Fm n ds L a) {K : Act → World → Prop} (h : ∀ a', Fm n ds (addL oi.dst undef L) a' → K a' w) (hw : wants ops L oi false = true := by kernel_rfl) (hd : dOk n oi.dst = true := by kernel_rfl) : wpOp P ops Q i K a w := sr_pass hi hA hw hd h
end
theorem qn {a b : Bool} {X Y D : Prop} (h : D) (ha : a = false := by kernel_rfl) (hb : b = false := by kernel_rfl) : ((a = true → X) ∧ (b = true → Y)) ∧ D := ⟨⟨fun q => absurd (ha.symm.trans q) (by decide), fun q => absurd (hb.symm.trans q) (by decide)⟩, h⟩

section
variable {P : Program} {ops : Array Oper} {K : Act → World → Prop} {Q : Exit → Act → World → Prop} {n : Nat} {L : List (Nat × Value)} {a : Act} {w w0 w1 : World} {S : Nat → Prop} {H G : List Res} {ρ : Operand → Value} {fn : Func} {R : Ending → World → Prop}
variable {d : Option Tmp} {ty : TypeId} {pos : String} {aft : Array Edge} {g : Option (Nat × Bool)}
theorem wn (h : K a w) : wpList P ops (Exit.then K Q) [] a w := wpList_nil (thenN h)
theorem wr {id : Nat} {l : List Oper} {y : Code} (h : wpList P l.toArray (Exit.then (y.wp P Q) Q) l a w) : (Code.seq (Code.region id l.toArray false) y).wp P Q a w := wp_seq (wp_region_lit h)
theorem rl (b i N : Nat) {t : TypeId} {x : Operand} {v : Value} {cs : Array Value} {T : TypeId} (hH : H[N]? = some (Cel b cs T) := by rfl) (hx : ρ x = .pointer (some ⟨b, i, none⟩) := by kernel_rfl) (hv : ldv P t cs i = some v := by kernel_rfl) : Rd P ρ ⟨d, .load t x, ty, pos, aft, g⟩ (Cls w0 S H G w1) v :=
  Rd.load hx (fun _ hw => hw.1.cel N hH) hv
theorem r1 {t : Tmp} (v : Value) (hA : Fm n [] L a) (hR : R (.returned v) w) (hr : fn.results = #[.tmp t] := by rfl) (hk : kn L t = true := by kernel_rfl) (hv : lk L t = v := by kernel_rfl) : bodyPost P fn R .ret a w := ret1 hr hA (Got.tmp hA hk hv) hR
end
@[reducible] def pA (b i : Nat) : Value := .pointer (some ⟨b, i, none⟩)
end Go.Proofs.YtoakhhilmnfpkaaGreatDoor.L
