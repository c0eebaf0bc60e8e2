/- The engine: numbers, tests, rows. -/
import Derived.Test.YtoakhhilmnfpkaaGreatDoorE2
import Derived.Test.YtoakhhilmnfpkaaGreatDoorArgs
namespace Go.Proofs.YtoakhhilmnfpkaaGreatDoor.L
open Go.RowKit Go.MapKept Go.Maps

/-! ### numbers -/
theorem w_i64 {x : Int} (h1 : -9223372036854775808 ≤ x) (h2 : x ≤ 9223372036854775807) : IntKind.i64.wrap x = x := by
  unfold IntKind.wrap; simp [IntKind.bits, IntKind.signed]; try split
  all_goals omega
theorem w_i32 {x : Int} (h1 : -2147483648 ≤ x) (h2 : x ≤ 2147483647) : IntKind.i32.wrap x = x := by
  unfold IntKind.wrap; simp [IntKind.bits, IntKind.signed]; try split
  all_goals omega
theorem w_u64 {x : Int} (h1 : 0 ≤ x) (h2 : x ≤ 18446744073709551615) : IntKind.u64.wrap x = x := by
  unfold IntKind.wrap; simp [IntKind.bits, IntKind.signed]; try split
  all_goals omega
theorem w_u32 {x : Int} (h1 : 0 ≤ x) (h2 : x ≤ 4294967295) : IntKind.u32.wrap x = x := by
  unfold IntKind.wrap; simp [IntKind.bits, IntKind.signed]; try split
  all_goals omega
theorem w_u8 {x : Int} (h1 : 0 ≤ x) (h2 : x ≤ 255) : IntKind.u8.wrap x = x := by
  unfold IntKind.wrap; simp [IntKind.bits, IntKind.signed]; try split
  all_goals omega

/-! ### tests -/
theorem of_bne_f {x y : Int} (h : (x != y) = false) : x = y := by simpa using h
theorem not_t {b : Bool} (h : (!b) = true) : b = false := by simpa using h
theorem not_f {b : Bool} (h : (!b) = false) : b = true := by simpa using h
theorem retv {a b : Value} (h : a = b) : Ending.returned a = Ending.returned b := by rw [h]

section
variable {P : Program} {ρ : Operand → Value} {o : Oper} {C : World → Prop} {v v0 : Value} {w w0 : World} {S : Nat → Prop}
variable {d : Option Tmp} {ty : TypeId} {pos : String} {aft : Array Edge} {g : Option (Nat × Bool)}
theorem Rd.pureE (h : ∀ w, (execOp ρ o).run P w = .ok (.value v0) w) (he : v0 = v) : Rd P ρ o C v := he ▸ Rd.pure h

theorem Rd.cast (h : Rd P ρ o C v0) (he : v0 = v) : Rd P ρ o C v := he ▸ h

/-! ### rows -/
theorem row_some {w : World} {A : Option Addr} {sz : Nat} {α : Type} {en : α → List Value} {l : List α} (h : RowAt w A sz en l) {k : Nat} {y : α} (hk : l[k]? = some y) : ∃ b off, A = some ⟨b, off, none⟩ ∧ b < w.heap.size := by
  rcases h with rfl | ⟨b, off, h1, h2, -⟩
  · cases hk
  · exact ⟨b, off, h1, h2⟩
/-- n cells from place j of element k on. -/
theorem row_ld {α : Type} {b off sz k : Nat} {en : α → List Value} {l : List α} {y : α} {xs : List Value} (h : RowAt w0 (some ⟨b, off, none⟩) sz en l) (hk : l[k]? = some y) (hf : Fr S w0 w) (hS : ¬ S b) (j n : Nat) (hx : ((en y).drop j).take n = xs) :
    ∀ (i : Nat) (v : Value), xs[i]? = some v → w.cell? ⟨b, off + k * sz + j + i, none⟩ = some v := by
  intro i v hv
  subst hx
  rcases h with rfl | ⟨b', off', hA, hb, hc⟩
  · cases hk
  · cases hA
    rw [List.getElem?_take] at hv
    split at hv
    · rw [List.getElem?_drop] at hv
      have := hc k y hk (j + i) v hv
      have hcell : w.cell? ⟨b, off + k * sz + j + i, none⟩ = w0.cell? ⟨b, off + k * sz + j + i, none⟩ := by
        unfold World.cell?
        rw [hf.block b hb hS]
      rw [hcell, show off + k * sz + j + i = off + (k * sz + (j + i)) from by omega]
      exact this
    · cases hv
def ldl (P : Program) (t : TypeId) (xs : List Value) : Option Value :=
  match P.underlying t, (P.info? t).map (·.size) with
  | some (.struct _), some n => if n = xs.length then some (.agg xs.toArray) else none
  | some (.array _ _), some n => if n = xs.length then some (.agg xs.toArray) else none
  | some (.struct _), none => none
  | some (.array _ _), none => none
  | some _, _ => xs[0]?
  | none, _ => none
theorem run_ldl {t : TypeId} {b i : Nat} {xs : List Value} (hc : ∀ (j : Nat) (u : Value), xs[j]? = some u → w.cell? ⟨b, i + j, none⟩ = some u) (hv : ldl P t xs = some v) : (loadVar t ⟨b, i, none⟩).run P w = .ok v w := by
  unfold ldl at hv
  cases hu : P.underlying t with
  | none => rw [hu] at hv; cases hv
  | some dsc =>
    rw [hu] at hv
    have one : xs[0]? = some v → (isAgg t).run P w = .ok false w → (loadVar t ⟨b, i, none⟩).run P w = .ok v w := fun h0 ha => run_load_one ha (by simpa using hc 0 v h0)
    cases hi : P.info? t with
    | none =>
      rw [hi] at hv
      cases dsc <;> simp only [Option.map_none] at hv <;> first
        | (cases hv; done)
        | exact one hv (by simp [isAgg, Sem.run_bind, run_underlying hu, Result.andThen])
    | some f =>
      rw [hi] at hv
      cases dsc <;> simp only [Option.map_some] at hv <;> first
        | exact one hv (by simp [isAgg, Sem.run_bind, run_underlying hu, Result.andThen])
        | (split at hv
           · rename_i hle
             cases hv
             exact run_load_agg (by simp [isAgg, Sem.run_bind, run_underlying hu, Result.andThen]) (by simp [sizeOf, typeInfo, Sem.run_bind, hi, Result.andThen, hle]) hc
           · cases hv)
theorem Rd.loadRow {t : TypeId} {x : Operand} {b i : Nat} {xs : List Value} (hx : ρ x = .pointer (some ⟨b, i, none⟩)) (hc : ∀ w, C w → ∀ (j : Nat) (u : Value), xs[j]? = some u → w.cell? ⟨b, i + j, none⟩ = some u) (hv : ldl P t xs = some v) :
    Rd P ρ ⟨d, .load t x, ty, pos, aft, g⟩ C v := Rd.load_of hx fun w hw => run_ldl (hc w hw) hv
theorem Rd.indexAddr {t e : TypeId} {x ix : Operand} {b off n c k sz : Nat} (hx : ρ x = .slice (some ⟨b, off, none⟩) n c) (hix : ρ ix = .int .i64 (k : Int)) (hlt : k < n)
    (hu : ∀ w, (underlying t).run P w = .ok (.slice e) w) (hs : ∀ w, (sizeOf e).run P w = .ok sz w) :
    Rd P ρ ⟨d, .indexAddr t x ix, ty, pos, aft, g⟩ C (.pointer (some ⟨b, off + k * sz, none⟩)) :=
  Rd.of (s := Instr.indexAt t (ρ x) (ρ ix)) rfl fun w _ => by
    rw [hx, hix]
    simp [Instr.indexAt, asIntOf, Sem.run_bind, hu, hs, Result.andThen, hlt, add_mk]
end
end Go.Proofs.YtoakhhilmnfpkaaGreatDoor.L
