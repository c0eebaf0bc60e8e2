/- Contracts, walked by program over the engine's laws. -/
import Derived.Test.YtcgcippmbeileaaProg
import Derived.Test.YtcgcippmbeileaaT10
namespace Go.Proofs.Ytcgcippmbeileaa.L
open Go.RowKit

theorem elt_Shade : Elt Try.prog 31 7 enShade := ⟨⟨Value.agg #[Value.int .u64 0, Value.int .i64 0, Value.int .i64 0, Value.int .u64 0, Value.int .i64 0, Value.int .i64 0, Value.int .i64 0], 56, by kernel_rfl, rfl, by decide⟩, by decide, fun _ => rfl, fun x u hu => List.all_eq_true.1 (show (enShade x).all (·.oneCell') = true from rfl) u hu⟩
theorem natvalK {ρ : Operand → Value} {x : Operand} {kk : IntKind} {k : Int} (h : ρ x = .int kk k) (h0 : 0 ≤ k) : ρ x = .int kk ((k.toNat : Nat) : Int) := by rw [h, Int.toNat_of_nonneg h0]
abbrev VT22 : Type := List (Int × Nat × (Nat → Shade))
def zSh : Shade := ⟨0, ⟨0, 0⟩, 0, ⟨0, 0⟩, 0⟩
def ShR (m b : Nat) (V : VT22) : Res := allR [Cel m #[Value.map (some b)] 55, mapR b (fun a : Int => Value.int .u32 a) (fun x_ : Nat => Value.pointer (some ⟨x_, 0, none⟩)) (outs V), SubR (fun (c_ : Nat → Shade) (b_ : Nat) => PsR 4096 enShade 67 c_ b_) V]
/-- What stands at an address; a shade is laid. -/
def atS (V : VT22) (a : Int) : Shade := ((look (vals V) (a / 4096)).map fun f => f (Int.toNat (a % 4096))).getD zSh
def LayR (V : VT22) (a : Int) (x : Shade) (V' : VT22) : Prop :=
  match look (vals V) (a / 4096) with
  | none => ∃ b, V' = V ++ [(a / 4096, b, psSet (fun _ => zSh) (Int.toNat (a % 4096)) x)]
  | some f => ∃ k b, V[k]? = some (a / 4096, b, f) ∧ V' = V.set k (a / 4096, b, psSet f (Int.toNat (a % 4096)) x)
set_option maxRecDepth 100000 in
theorem e_snew  (w : World)  : Calls Try.prog 8 #[] w (fun e w' => ∃ np : Nat, ∃ nb : Nat, e = .returned (Value.pointer (some ⟨np, 0, none⟩)) ∧ Made (ShR np nb ([] : List (Int × Nat × (Nat → Shade)))) w w') := by
 refine enter_E 4 Try.func8 rfl rfl (by kernel_rfl) (L := []) (by kernel_rfl) ?_
 intro ac hA
 have hW := Ws.start w No
 refine wp_seq ?_
 refine wp_region_lit ?_
 refine st_p (Value.pointer none) hA ?_; clear hA ac; intro ac hA
 refine wpList_nil ?_
 refine thenN ?_
 refine wp_seq ?_
 refine wp_region_lit ?_
 refine st_s hA (Runs.makeMap (fun a : Int => Value.int .u32 a) (fun x_ : Nat => Value.pointer (some ⟨x_, 0, none⟩)) hW ?_); clear hA ac hW; intro b1 w2 hW hb1 hfw2 ac hA
 refine st_p (Value.agg #[Value.map (some b1)]) hA ?_; clear hA ac; intro ac hA
 refine st_s hA (Runs.cells (fun b => Value.pointer (some ⟨b, 0, none⟩)) #[Value.map (some b1)] 55 (fun _ => by kernel_rfl) hW ?_); clear hA ac hW; intro b3 w4 hW hb3 hfw4 ac hA
 refine st_p (Value.pointer (some ⟨b3, 0, none⟩)) hA ?_; clear hA ac; intro ac hA
 refine wpList_nil ?_
 refine thenN ?_
 refine wp_ret ?_
 refine ret1 (v := Value.pointer (some ⟨b3, 0, none⟩)) (by rfl) hA (Got.tmp hA (by kernel_rfl) (by kernel_rfl)) ?_
 clear hA
 have hW := SubR.nil (f := (fun (c_ : Nat → Shade) (b_ : Nat) => PsR 4096 enShade 67 c_ b_)) (κ := Int) hW
 replace hW : Ws w No [SubR (fun (c_ : Nat → Shade) (b_ : Nat) => PsR 4096 enShade 67 c_ b_) ([] : List (Int × Nat × (Nat → Shade))), Cel b3 #[Value.map (some b1)] 55, mapR b1 (fun a : Int => Value.int .u32 a) (fun x_ : Nat => Value.pointer (some ⟨x_, 0, none⟩)) ([])] [] w4 := hW
 exact ⟨b3, b1, rfl, (Ws.pack (K := []) (show Ws w No ([Cel b3 #[Value.map (some b1)] 55, mapR b1 (fun a : Int => Value.int .u32 a) (fun x_ : Nat => Value.pointer (some ⟨x_, 0, none⟩)) ([]), SubR (fun (c_ : Nat → Shade) (b_ : Nat) => PsR 4096 enShade 67 c_ b_) ([] : List (Int × Nat × (Nat → Shade)))] ++ []) [] _ from hW.pick [1, 2, 0] (by decide) rfl)).madeDone 0 rfl⟩

set_option maxRecDepth 100000 in
theorem e_snone (p : Nat) (b : Nat) (w : World) (ho_p : w.heap[p]? = some (.cells #[Value.map (some b)] 55 (0, 0))) : Calls Try.prog 22 #[Value.pointer (some ⟨p, 0, none⟩)] w (fun e w' => e = .returned (Value.bool false) ∧ w = w') := by
 have _hu := ho_p; clear _hu
 refine enter_E 12 Try.func22 rfl rfl (by kernel_rfl) (L := [(0, Value.pointer (some ⟨p, 0, none⟩))]) (by kernel_rfl) ?_
 intro ac hA
 have hW := Ws.start w No
 have hW := hW.celG ho_p
 refine wp_seq ?_
 refine wp_region_lit ?_
 refine st_p (Value.bool false) hA ?_; clear hA ac; intro ac hA
 refine wpList_nil ?_
 refine thenN ?_
 refine wp_seq ?_
 refine wp_region_lit ?_
 refine st_p (Value.pointer (some ⟨p, 0, none⟩)) hA ?_; clear hA ac; intro ac hA
 refine st_p (Value.bool false) hA ?_; clear hA ac; intro ac hA
 refine st_p (Value.bool false) hA ?_; clear hA ac; intro ac hA
 refine st_p (Value.pointer (some ⟨p, 0, none⟩)) hA ?_; clear hA ac; intro ac hA
 refine st_p (Value.pointer (some ⟨p, 0, none⟩)) hA ?_; clear hA ac; intro ac hA
 refine st_p (Value.pointer (some ⟨p, 0, none⟩)) hA ?_; clear hA ac; intro ac hA
 refine st_q (Value.map (some b)) hA hW.cls (Rd.load (b := p) (i := 0) (by kernel_rfl) (fun _ hw => show _ = _ from (hw.1).getG 0 rfl) (by kernel_rfl)) ?_; clear hA ac; intro ac hA
 refine st_p (Value.bool false) hA ?_; clear hA ac; intro ac hA
 refine st_p (Value.bool false) hA ?_; clear hA ac; intro ac hA
 refine st_p (Value.bool false) hA ?_; clear hA ac; intro ac hA
 refine wpList_nil ?_
 refine thenN ?_
 refine wp_ret ?_
 refine ret1 (v := Value.bool false) (by rfl) hA (Got.tmp hA (by kernel_rfl) (by kernel_rfl)) ?_
 clear hA
 exact ⟨retv (by rfl), rfl⟩

set_option maxRecDepth 100000 in
theorem e_at_none (b : Nat) (h : List (Int × Nat)) (a : Int) (w : World) (ho_p : (mapR b (fun a : Int => Value.int .u32 a) (fun x_ : Nat => Value.pointer (some ⟨x_, 0, none⟩)) h).p w) (ha : 0 ≤ a ∧ a ≤ 4294967295) (hl : look h ((a : Int) / 4096 : Int) = none) : Calls Try.prog 24 #[Value.map (some b), Value.int .u32 a] w (fun e w' => e = .returned (Value.pointer none) ∧ Fr No w w') := by
 have _hu := ho_p; clear _hu
 have _hu := ha; clear _hu
 have _hu := hl; clear _hu
 refine enter_E 17 Try.func24 rfl rfl (by kernel_rfl) (L := [(0, Value.map (some b)), (1, Value.int .u32 a)]) (by kernel_rfl) ?_
 intro ac hA
 have hW := Ws.start w No
 have hW := hW.mapG ho_p
 refine wp_seq ?_
 refine wp_region_lit ?_
 refine st_p (Value.pointer none) hA ?_; clear hA ac; intro ac hA
 refine wpList_nil ?_
 refine thenN ?_
 refine wp_seq ?_
 refine wp_seq ?_
 refine wp_region_lit ?_
 refine st_p (Value.map (some b)) hA ?_; clear hA ac; intro ac hA
 refine st_p (Value.int .u32 a) hA ?_; clear hA ac; intro ac hA
 refine st_q (Value.int .u32 ((a : Int) / 4096)) hA hW.cls (Rd.pureE (v0 := Value.int .u32 (IntKind.u32.wrap (Int.tdiv (a : Int) 4096))) (fun _ => by kernel_rfl) (congrArg (Value.int .u32) ((congrArg IntKind.u32.wrap (quo_ (x := a) (by omega))).trans (w_u32 (by omega) (by omega))))) ?_; clear hA ac; intro ac hA
 refine st_q (Value.pointer none) hA hW.cls ((Rd.lookup (k := 35) (e := 65) (ek := (fun a : Int => Value.int .u32 a)) (ev := (fun x_ : Nat => Value.pointer (some ⟨x_, 0, none⟩))) (m := h) (z := Value.pointer none) ((a : Int) / 4096 : Int) false (by kernel_rfl) (by kernel_rfl) (KeyE.int (by kernel_rfl)) (by kernel_rfl) (fun _ => by kernel_rfl) (fun _ hw => (hw.1).getG 0 rfl)).cast (by rw [hl]; rfl)) ?_; clear hA ac; intro ac hA
 refine st_p (Value.pointer none) hA ?_; clear hA ac; intro ac hA
 refine wpList_nil ?_
 refine thenN ?_
 refine wp_seq ?_
 refine wp_region_lit ?_
 refine st_p (Value.pointer none) hA ?_; clear hA ac; intro ac hA
 refine st_p (Value.bool false) hA ?_; clear hA ac; intro ac hA
 refine wpList_nil ?_
 refine thenN ?_
 refine wp_cond_false (hA.eval (by kernel_rfl)) ?_
 refine wp_skip ?_
 refine thenN ?_
 refine wp_seq ?_
 refine wp_region_lit ?_
 refine st_p (Value.pointer none) hA ?_; clear hA ac; intro ac hA
 refine wpList_nil ?_
 refine thenN ?_
 refine wp_ret ?_
 refine ret1 (v := Value.pointer none) (by rfl) hA (Got.tmp hA (by kernel_rfl) (by kernel_rfl)) ?_
 clear hA
 exact ⟨retv (by rfl), hW.fr⟩

set_option maxRecDepth 100000 in
theorem e_at_some (b : Nat) (h : List (Int × Nat)) (a : Int) (w : World) (ho_p : (mapR b (fun a : Int => Value.int .u32 a) (fun x_ : Nat => Value.pointer (some ⟨x_, 0, none⟩)) h).p w) (ha : 0 ≤ a ∧ a ≤ 4294967295) (hl : (look h ((a : Int) / 4096 : Int)).isSome = true) : Calls Try.prog 24 #[Value.map (some b), Value.int .u32 a] w (fun e w' => e = .returned (Value.pointer (some ⟨((look h ((a : Int) / 4096 : Int)).getD 0), 0 + (Int.toNat ((a : Int) % 4096)) * 7, none⟩)) ∧ Fr No w w') := by
 have _hu := ho_p; clear _hu
 have _hu := ha; clear _hu
 have _hu := hl; clear _hu
 refine enter_E 17 Try.func24 rfl rfl (by kernel_rfl) (L := [(0, Value.map (some b)), (1, Value.int .u32 a)]) (by kernel_rfl) ?_
 intro ac hA
 have hW := Ws.start w No
 have hW := hW.mapG ho_p
 refine wp_seq ?_
 refine wp_region_lit ?_
 refine st_p (Value.pointer none) hA ?_; clear hA ac; intro ac hA
 refine wpList_nil ?_
 refine thenN ?_
 refine wp_seq ?_
 refine wp_seq ?_
 obtain ⟨q_, hq_⟩ := Option.isSome_iff_exists.1 hl
 refine wp_region_lit ?_
 refine st_p (Value.map (some b)) hA ?_; clear hA ac; intro ac hA
 refine st_p (Value.int .u32 a) hA ?_; clear hA ac; intro ac hA
 refine st_q (Value.int .u32 ((a : Int) / 4096)) hA hW.cls (Rd.pureE (v0 := Value.int .u32 (IntKind.u32.wrap (Int.tdiv (a : Int) 4096))) (fun _ => by kernel_rfl) (congrArg (Value.int .u32) ((congrArg IntKind.u32.wrap (quo_ (x := a) (by omega))).trans (w_u32 (by omega) (by omega))))) ?_; clear hA ac; intro ac hA
 refine st_q (Value.pointer (some ⟨q_, 0, none⟩)) hA hW.cls ((Rd.lookup (k := 35) (e := 65) (ek := (fun a : Int => Value.int .u32 a)) (ev := (fun x_ : Nat => Value.pointer (some ⟨x_, 0, none⟩))) (m := h) (z := Value.pointer none) ((a : Int) / 4096 : Int) false (by kernel_rfl) (by kernel_rfl) (KeyE.int (by kernel_rfl)) (by kernel_rfl) (fun _ => by kernel_rfl) (fun _ hw => (hw.1).getG 0 rfl)).cast (by rw [hq_]; rfl)) ?_; clear hA ac; intro ac hA
 refine st_p (Value.pointer (some ⟨q_, 0, none⟩)) hA ?_; clear hA ac; intro ac hA
 refine wpList_nil ?_
 refine thenN ?_
 refine wp_seq ?_
 refine wp_region_lit ?_
 refine st_p (Value.pointer (some ⟨q_, 0, none⟩)) hA ?_; clear hA ac; intro ac hA
 refine st_p (Value.bool true) hA ?_; clear hA ac; intro ac hA
 refine wpList_nil ?_
 refine thenN ?_
 refine wp_cond_true (hA.eval (by kernel_rfl)) ?_
 refine wp_seq ?_
 refine wp_region_lit ?_
 refine st_p (Value.pointer (some ⟨q_, 0, none⟩)) hA ?_; clear hA ac; intro ac hA
 refine st_p (Value.int .u32 a) hA ?_; clear hA ac; intro ac hA
 refine st_q (Value.int .u32 ((a : Int) % 4096)) hA hW.cls (Rd.pureE (v0 := Value.int .u32 (Int.tmod (a : Int) 4096)) (fun _ => by kernel_rfl) (congrArg (Value.int .u32) (rem_ (x := a) (by omega)))) ?_; clear hA ac; intro ac hA
 refine st_p (Value.pointer (some ⟨q_, 0, none⟩)) hA ?_; clear hA ac; intro ac hA
 refine st_q (Value.pointer (some ⟨q_, 0 + (Int.toNat ((a : Int) % 4096)) * 7, none⟩)) hA hW.cls (Rd.indexArr (e := 31) (sz := 7) (m := 4096) (b := q_) (off := 0) (i := (Int.toNat ((a : Int) % 4096))) (kk := .u32) (by kernel_rfl) (natvalK (k := (a : Int) % 4096) (by kernel_rfl) (by omega)) (by first | omega | (simp; done) | (simp; omega)) (fun _ => by kernel_rfl) (fun _ => by kernel_rfl)) ?_; clear hA ac; intro ac hA
 refine st_p (Value.pointer (some ⟨q_, 0 + (Int.toNat ((a : Int) % 4096)) * 7, none⟩)) hA ?_; clear hA ac; intro ac hA
 refine wpList_nil ?_
 refine thenN ?_
 refine wp_ret ?_
 refine thenR ?_
 refine ret1 (v := Value.pointer (some ⟨q_, 0 + (Int.toNat ((a : Int) % 4096)) * 7, none⟩)) (by rfl) hA (Got.tmp hA (by kernel_rfl) (by kernel_rfl)) ?_
 clear hA
 exact ⟨retv (by rw [hq_]; rfl), hW.fr⟩

set_option maxRecDepth 100000 in
theorem e_lay (m : Nat) (b : Nat) (V : VT22) (addr : Int) (x : Shade) (w : World) (ho_p : (ShR m b V).p w) (hl_p : ∀ x_ ∈ (ShR m b V).fp, x_ < w.heap.size) (ha : 0 ≤ addr ∧ addr ≤ 4294967295) (hx : (0 ≤ x.wr ∧ x.wr ≤ 18446744073709551615) ∧ (0 ≤ x.rd ∧ x.rd ≤ 18446744073709551615)) : Calls Try.prog 9 #[Value.pointer (some ⟨m, 0, none⟩), Value.int .u32 addr, x.v] w (fun e w' => ∃ V' : VT22, ∃ was : Shade, ∃ ee : Int, e = .returned (Value.tuple #[was.v, Value.int .i64 ee]) ∧ (ee = argErr (Shade.ok x)) ∧ (if Shade.ok x = true then (LayR V addr x V' ∧ was = atS V addr) else (V' = V ∧ was = zSh)) ∧ Upd (ShR m b V) (ShR m b V') w w') := by
 have _hu := ho_p; have _hv := hl_p; clear _hu _hv
 have _hu := ha; clear _hu
 have _hu := hx; clear _hu
 refine enter_E 48 Try.func9 rfl rfl (by kernel_rfl) (L := [(0, Value.pointer (some ⟨m, 0, none⟩)), (1, Value.int .u32 addr), (2, x.v)]) (by kernel_rfl) ?_
 intro ac hA
 have hW : Ws w (· ∈ (ShR m b V).fp) [Cel m #[Value.map (some b)] 55, mapR b (fun a : Int => Value.int .u32 a) (fun x_ : Nat => Value.pointer (some ⟨x_, 0, none⟩)) (outs V), SubR (fun (c_ : Nat → Shade) (b_ : Nat) => PsR 4096 enShade 67 c_ b_) V] [] w := Ws.unpack (K := []) (objW ho_p hl_p)
 clear ho_p hl_p
 refine wp_seq ?_
 refine wp_region_lit ?_
 refine st_s hA (Runs.cells (fun b => Value.pointer (some ⟨b, 0, none⟩)) #[Value.int .u64 x.wr, Value.int .i64 x.ws.f, Value.int .i64 x.ws.pc, Value.int .u64 x.rd, Value.int .i64 x.rs.f, Value.int .i64 x.rs.pc, Value.int .i64 x.vec] 31 (fun _ => by kernel_rfl) hW ?_); clear hA ac hW; intro b1 w2 hW hb1 hfw2 ac hA
 refine st_s hA (Runs.cells (fun b => Value.pointer (some ⟨b, 0, none⟩)) #[Value.int .u64 0, Value.int .i64 0, Value.int .i64 0, Value.int .u64 0, Value.int .i64 0, Value.int .i64 0, Value.int .i64 0] 31 (fun _ => by kernel_rfl) hW ?_); clear hA ac hW; intro b3 w4 hW hb3 hfw4 ac hA
 refine st_p (Value.int .i64 0) hA ?_; clear hA ac; intro ac hA
 refine wpList_nil ?_
 refine thenN ?_
 refine wp_fwd (l := 0) rfl ?_
 refine wp_seq ?_
 refine wp_seq ?_
 refine wp_region_lit ?_
 refine st_p (Value.int .i64 1) hA ?_; clear hA ac; intro ac hA
 refine wpList_nil ?_
 refine thenN ?_
 refine wp_seq ?_
 refine wp_region_lit ?_
 refine st_p (Value.pointer (some ⟨m, 0, none⟩)) hA ?_; clear hA ac; intro ac hA
 refine st_s hA (Runs.callS (v := Value.bool false) (fun _ => by kernel_rfl) (e_snone m b w4 ((hW).cel 2 rfl)) ?_); clear hA ac; intro  ac hA
 refine wpList_nil ?_
 refine thenN ?_
 refine wp_cond_false (hA.eval (by kernel_rfl)) ?_
 refine wp_skip ?_
 refine thenN ?_
 refine wp_seq ?_
 refine wp_seq ?_
 refine wp_region_lit ?_
 refine st_q (Value.agg #[Value.int .u64 x.wr, Value.int .i64 x.ws.f, Value.int .i64 x.ws.pc, Value.int .u64 x.rd, Value.int .i64 x.rs.f, Value.int .i64 x.rs.pc, Value.int .i64 x.vec]) hA hW.cls (Rd.load (b := b1) (i := 0) (by kernel_rfl) (fun _ hw => (hw.1).cel 1 rfl) (by kernel_rfl)) ?_; clear hA ac; intro ac hA
 refine st_s hA (Runs.callN (v := Value.int .i64 (argErr (Shade.ok x))) (fun _ => by kernel_rfl) hW (e_check x w4 (by first | omega | assumption)) ?_); clear hA ac hW; intro w5 hW hfw5 ac hA
 refine st_p (Value.int .i64 (argErr (Shade.ok x))) hA ?_; clear hA ac; intro ac hA
 refine wpList_nil ?_
 refine thenN ?_
 refine wp_seq ?_
 refine wp_region_lit ?_
 refine st_p (Value.int .i64 (argErr (Shade.ok x))) hA ?_; clear hA ac; intro ac hA
 refine st_p (Value.bool ((argErr (Shade.ok x) : Int) != (0 : Int))) hA ?_; clear hA ac; intro ac hA
 refine wpList_nil ?_
 refine thenN ?_
 refine wp_cond_split (t := (argErr (Shade.ok x) : Int) != (0 : Int)) (hA.eval (by kernel_rfl)) (fun h6 => ?_) (fun h6 => ?_)
 · skip
   have h6 := bne_iff_ne.1 h6
   first
   | (exfalso; clear hA hW; omega)
   | (
     refine wp_goto ?_
     refine thenG ?_
     refine fwdG ?_
     refine wp_seq ?_
     refine wp_skip ?_
     refine thenN ?_
     refine wp_seq ?_
     refine wp_region_lit ?_
     refine st_p (Value.agg #[Value.int .u64 0, Value.int .i64 0, Value.int .i64 0, Value.int .u64 0, Value.int .i64 0, Value.int .i64 0, Value.int .i64 0]) hA ?_; clear hA ac; intro ac hA
     refine st_p (Value.int .i64 (argErr (Shade.ok x))) hA ?_; clear hA ac; intro ac hA
     refine st_s hA (Runs.store (v := Value.agg #[Value.int .u64 0, Value.int .i64 0, Value.int .i64 0, Value.int .u64 0, Value.int .i64 0, Value.int .i64 0, Value.int .i64 0]) (b := b3) (j := 0) (n := 7) (cs' := #[Value.int .u64 0, Value.int .i64 0, Value.int .i64 0, Value.int .u64 0, Value.int .i64 0, Value.int .i64 0, Value.int .i64 0]) (H' := [Cel b3 #[Value.int .u64 0, Value.int .i64 0, Value.int .i64 0, Value.int .u64 0, Value.int .i64 0, Value.int .i64 0, Value.int .i64 0] 31, Cel b1 #[Value.int .u64 x.wr, Value.int .i64 x.ws.f, Value.int .i64 x.ws.pc, Value.int .u64 x.rd, Value.int .i64 x.rs.f, Value.int .i64 x.rs.pc, Value.int .i64 x.vec] 31, Cel m #[Value.map (some b)] 55, mapR b (fun a : Int => Value.int .u32 a) (fun x_ : Nat => Value.pointer (some ⟨x_, 0, none⟩)) (outs V), SubR (fun (c_ : Nat → Shade) (b_ : Nat) => PsR 4096 enShade 67 c_ b_) V]) (by kernel_rfl) (by kernel_rfl) (by kernel_rfl) (by kernel_rfl) (by kernel_rfl) hW 0 (by rfl) (Nat.le_of_ble_eq_true (by kernel_rfl)) (by kernel_rfl) (by rfl) ?_); clear hA ac hW; intro w7 hW ac hA
     refine st_p (Value.int .i64 (argErr (Shade.ok x))) hA ?_; clear hA ac; intro ac hA
     refine wpList_nil ?_
     refine thenN ?_
     refine wp_ret ?_
     refine nogR ?_
     refine ret2 (v1 := Value.agg #[Value.int .u64 0, Value.int .i64 0, Value.int .i64 0, Value.int .u64 0, Value.int .i64 0, Value.int .i64 0, Value.int .i64 0]) (v2 := Value.int .i64 (argErr (Shade.ok x))) (by rfl) hA (Got.cell (b := b3) (i := 0) hA (by kernel_rfl) (by kernel_rfl) (hW.cel 0 rfl) (by kernel_rfl)) (Got.tmp hA (by kernel_rfl) (by kernel_rfl)) ?_
     clear hA
     exact ⟨V, (⟨0, (⟨0, 0⟩ : Site), 0, (⟨0, 0⟩ : Site), 0⟩ : Shade), argErr (Shade.ok x), rfl, by rfl, by rw [if_neg (by intro h_; rw [h_] at h6; exact h6 rfl)]; exact ⟨rfl, rfl⟩, (Ws.pack (K := []) (show Ws w (· ∈ (ShR m b V).fp) ([Cel m #[Value.map (some b)] 55, mapR b (fun a : Int => Value.int .u32 a) (fun x_ : Nat => Value.pointer (some ⟨x_, 0, none⟩)) (outs V), SubR (fun (c_ : Nat → Shade) (b_ : Nat) => PsR 4096 enShade 67 c_ b_) V] ++ []) [] _ from hW.pick [2, 3, 4] (by decide) rfl)).updDone 0 rfl⟩)
 · skip
   have h6 := of_bne_f h6
   first
   | (exfalso; clear hA hW; omega)
   | (
     refine wp_skip ?_
     refine thenN ?_
     refine wp_seq ?_
     refine wp_seq ?_
     rcases hk8 : look (outs V) ((addr : Int) / 4096 : Int) with _ | bk9
     · skip
       first
       | (exfalso; clear hA hW; omega)
       | (
         refine wp_region_lit ?_
         refine st_p (Value.pointer (some ⟨m, 0, none⟩)) hA ?_; clear hA ac; intro ac hA
         refine st_p (Value.pointer (some ⟨m, 0, none⟩)) hA ?_; clear hA ac; intro ac hA
         refine st_p (Value.pointer (some ⟨m, 0, none⟩)) hA ?_; clear hA ac; intro ac hA
         refine st_q (Value.map (some b)) hA hW.cls (Rd.load (b := m) (i := 0) (by kernel_rfl) (fun _ hw => (hw.1).cel 2 rfl) (by kernel_rfl)) ?_; clear hA ac; intro ac hA
         refine st_p (Value.int .u32 addr) hA ?_; clear hA ac; intro ac hA
         refine st_s hA (Runs.callN (v := Value.pointer none) (fun _ => by kernel_rfl) hW (e_at_none b (outs V) (addr) w5 ((hW).get 3 rfl) (by first | omega | assumption) hk8) ?_); clear hA ac hW; intro w10 hW hfw10 ac hA
         refine st_p (Value.bool true) hA ?_; clear hA ac; intro ac hA
         refine wpList_nil ?_
         refine thenN ?_
         refine wp_cond_true (hA.eval (by kernel_rfl)) ?_
         refine wp_region_lit ?_
         refine st_p (Value.pointer (some ⟨m, 0, none⟩)) hA ?_; clear hA ac; intro ac hA
         refine st_p (Value.pointer (some ⟨m, 0, none⟩)) hA ?_; clear hA ac; intro ac hA
         refine st_p (Value.pointer (some ⟨m, 0, none⟩)) hA ?_; clear hA ac; intro ac hA
         refine st_q (Value.map (some b)) hA hW.cls (Rd.load (b := m) (i := 0) (by kernel_rfl) (fun _ hw => (hw.1).cel 2 rfl) (by kernel_rfl)) ?_; clear hA ac; intro ac hA
         refine st_p (Value.int .u32 addr) hA ?_; clear hA ac; intro ac hA
         refine st_q (Value.int .u32 ((addr : Int) / 4096)) hA hW.cls (Rd.pureE (v0 := Value.int .u32 (IntKind.u32.wrap (Int.tdiv (addr : Int) 4096))) (fun _ => by kernel_rfl) (congrArg (Value.int .u32) ((congrArg IntKind.u32.wrap (quo_ (x := addr) (by omega))).trans (w_u32 (by omega) (by omega))))) ?_; clear hA ac; intro ac hA
         refine st_p (Value.agg (pgB 4096 enShade (fun _ => (⟨0, ⟨0, 0⟩, 0, ⟨0, 0⟩, 0⟩ : Shade)))) hA ?_; clear hA ac; intro ac hA
         refine st_s hA (Runs.cells (fun b => Value.pointer (some ⟨b, 0, none⟩)) (pgB 4096 enShade (fun _ => (⟨0, ⟨0, 0⟩, 0, ⟨0, 0⟩, 0⟩ : Shade))) 67 (fun _ => by kernel_rfl) hW ?_); clear hA ac hW; intro b11 w12 hW hb11 hfw12 ac hA
         refine st_s hA (Runs.mapUpdate (k := 35) (e := 65) (ek := (fun a : Int => Value.int .u32 a)) (ev := (fun x_ : Nat => Value.pointer (some ⟨x_, 0, none⟩))) (m := (outs V)) ((addr : Int) / 4096 : Int) b11 (by kernel_rfl) (by kernel_rfl) (by kernel_rfl) (KeyE.int (by kernel_rfl)) (by kernel_rfl) hW (i := 4) rfl ?_); clear hA ac hW; intro w13 hW ac hA
         refine wpList_nil ?_
         refine thenN ?_
         refine wp_seq ?_
         have hlk_ : look (put (outs V) ((addr : Int) / 4096 : Int) b11) ((addr : Int) / 4096 : Int) = some b11 := by rw [look_put]; simp
         refine wp_region_lit ?_
         refine st_p (Value.pointer (some ⟨m, 0, none⟩)) hA ?_; clear hA ac; intro ac hA
         refine st_p (Value.pointer (some ⟨m, 0, none⟩)) hA ?_; clear hA ac; intro ac hA
         refine st_p (Value.pointer (some ⟨m, 0, none⟩)) hA ?_; clear hA ac; intro ac hA
         refine st_q (Value.map (some b)) hA hW.cls (Rd.load (b := m) (i := 0) (by kernel_rfl) (fun _ hw => (hw.1).cel 3 rfl) (by kernel_rfl)) ?_; clear hA ac; intro ac hA
         refine st_p (Value.int .u32 addr) hA ?_; clear hA ac; intro ac hA
         refine st_s hA (Runs.callN (v := Value.pointer (some ⟨b11, 0 + (Int.toNat ((addr : Int) % 4096)) * 7, none⟩)) (fun _ => by kernel_rfl) hW ((by have h_ := e_at_some b (put (outs V) ((addr : Int) / 4096 : Int) b11) (addr) w13 ((hW).get 4 rfl) (by first | omega | assumption) (by rw [hlk_]; rfl); rw [hlk_, Option.getD_some] at h_; exact h_)) ?_); clear hA ac hW; intro w14 hW hfw14 ac hA
         refine st_p (Value.pointer (some ⟨b11, 0 + (Int.toNat ((addr : Int) % 4096)) * 7, none⟩)) hA ?_; clear hA ac; intro ac hA
         refine st_q (((fun _ => (⟨0, ⟨0, 0⟩, 0, ⟨0, 0⟩, 0⟩ : Shade)) (Int.toNat ((addr : Int) % 4096))).v) hA hW.cls (Rd.load (b := b11) (i := 0 + (Int.toNat ((addr : Int) % 4096)) * 7) (by kernel_rfl) (fun _ hw => (hw.1).cel 0 rfl) (by rw [Nat.zero_add]; exact ldv_elem (F := Try.prog.fieldsOf 31) elt_Shade.len (by kernel_rfl) (by kernel_rfl) (by first | omega | (simp; done) | (simp; omega)))) ?_; clear hA ac; intro ac hA
         refine st_s hA (Runs.store (v := ((fun _ => (⟨0, ⟨0, 0⟩, 0, ⟨0, 0⟩, 0⟩ : Shade)) (Int.toNat ((addr : Int) % 4096))).v) (b := b3) (j := 0) (n := 7) (cs' := #[Value.int .u64 ((fun _ => (⟨0, ⟨0, 0⟩, 0, ⟨0, 0⟩, 0⟩ : Shade)) (Int.toNat ((addr : Int) % 4096))).wr, Value.int .i64 ((fun _ => (⟨0, ⟨0, 0⟩, 0, ⟨0, 0⟩, 0⟩ : Shade)) (Int.toNat ((addr : Int) % 4096))).ws.f, Value.int .i64 ((fun _ => (⟨0, ⟨0, 0⟩, 0, ⟨0, 0⟩, 0⟩ : Shade)) (Int.toNat ((addr : Int) % 4096))).ws.pc, Value.int .u64 ((fun _ => (⟨0, ⟨0, 0⟩, 0, ⟨0, 0⟩, 0⟩ : Shade)) (Int.toNat ((addr : Int) % 4096))).rd, Value.int .i64 ((fun _ => (⟨0, ⟨0, 0⟩, 0, ⟨0, 0⟩, 0⟩ : Shade)) (Int.toNat ((addr : Int) % 4096))).rs.f, Value.int .i64 ((fun _ => (⟨0, ⟨0, 0⟩, 0, ⟨0, 0⟩, 0⟩ : Shade)) (Int.toNat ((addr : Int) % 4096))).rs.pc, Value.int .i64 ((fun _ => (⟨0, ⟨0, 0⟩, 0, ⟨0, 0⟩, 0⟩ : Shade)) (Int.toNat ((addr : Int) % 4096))).vec]) (H' := [PsR 4096 enShade 67 (fun _ => (⟨0, ⟨0, 0⟩, 0, ⟨0, 0⟩, 0⟩ : Shade)) b11, Cel b3 #[Value.int .u64 ((fun _ => (⟨0, ⟨0, 0⟩, 0, ⟨0, 0⟩, 0⟩ : Shade)) (Int.toNat ((addr : Int) % 4096))).wr, Value.int .i64 ((fun _ => (⟨0, ⟨0, 0⟩, 0, ⟨0, 0⟩, 0⟩ : Shade)) (Int.toNat ((addr : Int) % 4096))).ws.f, Value.int .i64 ((fun _ => (⟨0, ⟨0, 0⟩, 0, ⟨0, 0⟩, 0⟩ : Shade)) (Int.toNat ((addr : Int) % 4096))).ws.pc, Value.int .u64 ((fun _ => (⟨0, ⟨0, 0⟩, 0, ⟨0, 0⟩, 0⟩ : Shade)) (Int.toNat ((addr : Int) % 4096))).rd, Value.int .i64 ((fun _ => (⟨0, ⟨0, 0⟩, 0, ⟨0, 0⟩, 0⟩ : Shade)) (Int.toNat ((addr : Int) % 4096))).rs.f, Value.int .i64 ((fun _ => (⟨0, ⟨0, 0⟩, 0, ⟨0, 0⟩, 0⟩ : Shade)) (Int.toNat ((addr : Int) % 4096))).rs.pc, Value.int .i64 ((fun _ => (⟨0, ⟨0, 0⟩, 0, ⟨0, 0⟩, 0⟩ : Shade)) (Int.toNat ((addr : Int) % 4096))).vec] 31, Cel b1 #[Value.int .u64 x.wr, Value.int .i64 x.ws.f, Value.int .i64 x.ws.pc, Value.int .u64 x.rd, Value.int .i64 x.rs.f, Value.int .i64 x.rs.pc, Value.int .i64 x.vec] 31, Cel m #[Value.map (some b)] 55, mapR b (fun a : Int => Value.int .u32 a) (fun x_ : Nat => Value.pointer (some ⟨x_, 0, none⟩)) (put (outs V) ((addr : Int) / 4096 : Int) b11), SubR (fun (c_ : Nat → Shade) (b_ : Nat) => PsR 4096 enShade 67 c_ b_) V]) (by kernel_rfl) (by kernel_rfl) (by kernel_rfl) (by kernel_rfl) (by kernel_rfl) hW 1 (by rfl) (Nat.le_of_ble_eq_true (by kernel_rfl)) (by kernel_rfl) (by rfl) ?_); clear hA ac hW; intro w15 hW ac hA
         refine wpList_nil ?_
         refine thenN ?_
         refine wp_seq ?_
         refine wp_cut (fun ac_ wl_ => Fm 48 [] [(0, Value.pointer (some ⟨m, 0, none⟩)), (1, Value.int .u32 addr), (2, x.v), (5, Value.pointer (some ⟨b1, 0, none⟩)), (6, Value.pointer (some ⟨b3, 0, none⟩)), (7, Value.int .i64 (argErr (Shade.ok x))), (8, Value.pointer (some ⟨m, 0, none⟩)), (9, Value.bool false), (10, Value.agg #[Value.int .u64 x.wr, Value.int .i64 x.ws.f, Value.int .i64 x.ws.pc, Value.int .u64 x.rd, Value.int .i64 x.rs.f, Value.int .i64 x.rs.pc, Value.int .i64 x.vec]), (11, Value.int .i64 (argErr (Shade.ok x))), (12, Value.int .i64 (argErr (Shade.ok x))), (13, Value.bool ((argErr (Shade.ok x) : Int) != (0 : Int))), (14, Value.pointer (some ⟨m, 0, none⟩)), (15, Value.pointer (some ⟨m, 0, none⟩)), (16, Value.pointer (some ⟨m, 0, none⟩)), (17, Value.map (some b)), (18, Value.int .u32 addr), (19, Value.pointer none), (20, Value.bool true), (21, Value.pointer (some ⟨m, 0, none⟩)), (22, Value.pointer (some ⟨m, 0, none⟩)), (23, Value.pointer (some ⟨m, 0, none⟩)), (24, Value.map (some b)), (25, Value.int .u32 addr), (26, Value.int .u32 ((addr : Int) / 4096)), (27, Value.agg (pgB 4096 enShade (fun _ => (⟨0, ⟨0, 0⟩, 0, ⟨0, 0⟩, 0⟩ : Shade)))), (28, Value.pointer (some ⟨b11, 0, none⟩)), (29, Value.pointer (some ⟨m, 0, none⟩)), (30, Value.pointer (some ⟨m, 0, none⟩)), (31, Value.pointer (some ⟨m, 0, none⟩)), (32, Value.map (some b)), (33, Value.int .u32 addr), (34, Value.pointer (some ⟨b11, 0 + (Int.toNat ((addr : Int) % 4096)) * 7, none⟩)), (35, Value.pointer (some ⟨b11, 0 + (Int.toNat ((addr : Int) % 4096)) * 7, none⟩)), (36, ((fun _ => (⟨0, ⟨0, 0⟩, 0, ⟨0, 0⟩, 0⟩ : Shade)) (Int.toNat ((addr : Int) % 4096))).v)] ac_ ∧ Ws w (· ∈ (ShR m b V).fp) [PsR 4096 enShade 67 (psSet (fun _ => (⟨0, ⟨0, 0⟩, 0, ⟨0, 0⟩, 0⟩ : Shade)) (Int.toNat ((addr : Int) % 4096)) x) b11, Cel b3 #[Value.int .u64 ((fun _ => (⟨0, ⟨0, 0⟩, 0, ⟨0, 0⟩, 0⟩ : Shade)) (Int.toNat ((addr : Int) % 4096))).wr, Value.int .i64 ((fun _ => (⟨0, ⟨0, 0⟩, 0, ⟨0, 0⟩, 0⟩ : Shade)) (Int.toNat ((addr : Int) % 4096))).ws.f, Value.int .i64 ((fun _ => (⟨0, ⟨0, 0⟩, 0, ⟨0, 0⟩, 0⟩ : Shade)) (Int.toNat ((addr : Int) % 4096))).ws.pc, Value.int .u64 ((fun _ => (⟨0, ⟨0, 0⟩, 0, ⟨0, 0⟩, 0⟩ : Shade)) (Int.toNat ((addr : Int) % 4096))).rd, Value.int .i64 ((fun _ => (⟨0, ⟨0, 0⟩, 0, ⟨0, 0⟩, 0⟩ : Shade)) (Int.toNat ((addr : Int) % 4096))).rs.f, Value.int .i64 ((fun _ => (⟨0, ⟨0, 0⟩, 0, ⟨0, 0⟩, 0⟩ : Shade)) (Int.toNat ((addr : Int) % 4096))).rs.pc, Value.int .i64 ((fun _ => (⟨0, ⟨0, 0⟩, 0, ⟨0, 0⟩, 0⟩ : Shade)) (Int.toNat ((addr : Int) % 4096))).vec] 31, Cel b1 #[Value.int .u64 x.wr, Value.int .i64 x.ws.f, Value.int .i64 x.ws.pc, Value.int .u64 x.rd, Value.int .i64 x.rs.f, Value.int .i64 x.rs.pc, Value.int .i64 x.vec] 31, Cel m #[Value.map (some b)] 55, mapR b (fun a : Int => Value.int .u32 a) (fun x_ : Nat => Value.pointer (some ⟨x_, 0, none⟩)) (put (outs V) ((addr : Int) / 4096 : Int) b11), SubR (fun (c_ : Nat → Shade) (b_ : Nat) => PsR 4096 enShade 67 c_ b_) V] [] wl_) ?_ ?_
         · refine sr_region (m := 9) (C := Ws w (· ∈ (ShR m b V).fp) [PsR 4096 enShade 67 (fun _ => (⟨0, ⟨0, 0⟩, 0, ⟨0, 0⟩, 0⟩ : Shade)) b11, Cel b3 #[Value.int .u64 ((fun _ => (⟨0, ⟨0, 0⟩, 0, ⟨0, 0⟩, 0⟩ : Shade)) (Int.toNat ((addr : Int) % 4096))).wr, Value.int .i64 ((fun _ => (⟨0, ⟨0, 0⟩, 0, ⟨0, 0⟩, 0⟩ : Shade)) (Int.toNat ((addr : Int) % 4096))).ws.f, Value.int .i64 ((fun _ => (⟨0, ⟨0, 0⟩, 0, ⟨0, 0⟩, 0⟩ : Shade)) (Int.toNat ((addr : Int) % 4096))).ws.pc, Value.int .u64 ((fun _ => (⟨0, ⟨0, 0⟩, 0, ⟨0, 0⟩, 0⟩ : Shade)) (Int.toNat ((addr : Int) % 4096))).rd, Value.int .i64 ((fun _ => (⟨0, ⟨0, 0⟩, 0, ⟨0, 0⟩, 0⟩ : Shade)) (Int.toNat ((addr : Int) % 4096))).rs.f, Value.int .i64 ((fun _ => (⟨0, ⟨0, 0⟩, 0, ⟨0, 0⟩, 0⟩ : Shade)) (Int.toNat ((addr : Int) % 4096))).rs.pc, Value.int .i64 ((fun _ => (⟨0, ⟨0, 0⟩, 0, ⟨0, 0⟩, 0⟩ : Shade)) (Int.toNat ((addr : Int) % 4096))).vec] 31, Cel b1 #[Value.int .u64 x.wr, Value.int .i64 x.ws.f, Value.int .i64 x.ws.pc, Value.int .u64 x.rd, Value.int .i64 x.rs.f, Value.int .i64 x.rs.pc, Value.int .i64 x.vec] 31, Cel m #[Value.map (some b)] 55, mapR b (fun a : Int => Value.int .u32 a) (fun x_ : Nat => Value.pointer (some ⟨x_, 0, none⟩)) (put (outs V) ((addr : Int) / 4096 : Int) b11), SubR (fun (c_ : Nat → Shade) (b_ : Nat) => PsR 4096 enShade 67 c_ b_) V] []) (fun i => [3, 6].contains i) (fun i => [3, 5, 6].contains i) (fun i => [0, 1, 2, 4, 7].contains i) (by kernel_rfl) (by kernel_rfl) (by kernel_rfl) (by kernel_rfl) hW ?_; clear hW; intro w16 hW hfw16 hR; have hC : Ws w (· ∈ (ShR m b V).fp) [PsR 4096 enShade 67 (fun _ => (⟨0, ⟨0, 0⟩, 0, ⟨0, 0⟩, 0⟩ : Shade)) b11, Cel b3 #[Value.int .u64 ((fun _ => (⟨0, ⟨0, 0⟩, 0, ⟨0, 0⟩, 0⟩ : Shade)) (Int.toNat ((addr : Int) % 4096))).wr, Value.int .i64 ((fun _ => (⟨0, ⟨0, 0⟩, 0, ⟨0, 0⟩, 0⟩ : Shade)) (Int.toNat ((addr : Int) % 4096))).ws.f, Value.int .i64 ((fun _ => (⟨0, ⟨0, 0⟩, 0, ⟨0, 0⟩, 0⟩ : Shade)) (Int.toNat ((addr : Int) % 4096))).ws.pc, Value.int .u64 ((fun _ => (⟨0, ⟨0, 0⟩, 0, ⟨0, 0⟩, 0⟩ : Shade)) (Int.toNat ((addr : Int) % 4096))).rd, Value.int .i64 ((fun _ => (⟨0, ⟨0, 0⟩, 0, ⟨0, 0⟩, 0⟩ : Shade)) (Int.toNat ((addr : Int) % 4096))).rs.f, Value.int .i64 ((fun _ => (⟨0, ⟨0, 0⟩, 0, ⟨0, 0⟩, 0⟩ : Shade)) (Int.toNat ((addr : Int) % 4096))).rs.pc, Value.int .i64 ((fun _ => (⟨0, ⟨0, 0⟩, 0, ⟨0, 0⟩, 0⟩ : Shade)) (Int.toNat ((addr : Int) % 4096))).vec] 31, Cel b1 #[Value.int .u64 x.wr, Value.int .i64 x.ws.f, Value.int .i64 x.ws.pc, Value.int .u64 x.rd, Value.int .i64 x.rs.f, Value.int .i64 x.rs.pc, Value.int .i64 x.vec] 31, Cel m #[Value.map (some b)] 55, mapR b (fun a : Int => Value.int .u32 a) (fun x_ : Nat => Value.pointer (some ⟨x_, 0, none⟩)) (put (outs V) ((addr : Int) / 4096 : Int) b11), SubR (fun (c_ : Nat → Shade) (b_ : Nat) => PsR 4096 enShade 67 c_ b_) V] [] w16 := hW.pick [0, 1, 2, 3, 4, 5] (by decide) rfl
           refine sr_p 0 (Value.pointer (some ⟨m, 0, none⟩)) hR rfl hA ?_; clear hA ac; intro ac hA
           refine sr_p 1 (Value.pointer (some ⟨m, 0, none⟩)) hR rfl hA ?_; clear hA ac; intro ac hA
           refine sr_p 2 (Value.pointer (some ⟨m, 0, none⟩)) hR rfl hA ?_; clear hA ac; intro ac hA
           refine sr_t 3 (Value.map (some b)) hR rfl hA hC (Rd.load (b := m) (i := 0) (by kernel_rfl) (fun _ hw => (hw).cel 3 rfl) (by kernel_rfl)) ?_; clear hA ac; intro ac hA
           refine sr_p 4 (Value.int .u32 addr) hR rfl hA ?_; clear hA ac; intro ac hA
           refine sr_t 6 (Value.agg #[Value.int .u64 x.wr, Value.int .i64 x.ws.f, Value.int .i64 x.ws.pc, Value.int .u64 x.rd, Value.int .i64 x.rs.f, Value.int .i64 x.rs.pc, Value.int .i64 x.vec]) hR rfl hA hC (Rd.load (b := b1) (i := 0) (by kernel_rfl) (fun _ hw => (hw).cel 2 rfl) (by kernel_rfl)) ?_; clear hA ac; intro ac hA
           refine sr_one (i := 5) (by kernel_rfl) (sr_d rfl hA (Runs.callN (v := Value.pointer (some ⟨b11, 0 + (Int.toNat ((addr : Int) % 4096)) * 7, none⟩)) (fun _ => by kernel_rfl) hW ((by have h_ := e_at_some b (put (outs V) ((addr : Int) / 4096 : Int) b11) (addr) w16 ((hW).get 4 rfl) (by first | omega | assumption) (by rw [hlk_]; rfl); rw [hlk_, Option.getD_some] at h_; exact h_)) ?_)); clear hA ac hW; intro w17 hW hfw17 ac hA
           refine ⟨⟨fun _ => (hW.pick [0, 1, 2, 3, 4, 5] (by decide) rfl).pickG [] rfl, fun h => absurd h (by decide)⟩, ?_⟩; have hC : Ws w (· ∈ (ShR m b V).fp) [PsR 4096 enShade 67 (fun _ => (⟨0, ⟨0, 0⟩, 0, ⟨0, 0⟩, 0⟩ : Shade)) b11, Cel b3 #[Value.int .u64 ((fun _ => (⟨0, ⟨0, 0⟩, 0, ⟨0, 0⟩, 0⟩ : Shade)) (Int.toNat ((addr : Int) % 4096))).wr, Value.int .i64 ((fun _ => (⟨0, ⟨0, 0⟩, 0, ⟨0, 0⟩, 0⟩ : Shade)) (Int.toNat ((addr : Int) % 4096))).ws.f, Value.int .i64 ((fun _ => (⟨0, ⟨0, 0⟩, 0, ⟨0, 0⟩, 0⟩ : Shade)) (Int.toNat ((addr : Int) % 4096))).ws.pc, Value.int .u64 ((fun _ => (⟨0, ⟨0, 0⟩, 0, ⟨0, 0⟩, 0⟩ : Shade)) (Int.toNat ((addr : Int) % 4096))).rd, Value.int .i64 ((fun _ => (⟨0, ⟨0, 0⟩, 0, ⟨0, 0⟩, 0⟩ : Shade)) (Int.toNat ((addr : Int) % 4096))).rs.f, Value.int .i64 ((fun _ => (⟨0, ⟨0, 0⟩, 0, ⟨0, 0⟩, 0⟩ : Shade)) (Int.toNat ((addr : Int) % 4096))).rs.pc, Value.int .i64 ((fun _ => (⟨0, ⟨0, 0⟩, 0, ⟨0, 0⟩, 0⟩ : Shade)) (Int.toNat ((addr : Int) % 4096))).vec] 31, Cel b1 #[Value.int .u64 x.wr, Value.int .i64 x.ws.f, Value.int .i64 x.ws.pc, Value.int .u64 x.rd, Value.int .i64 x.rs.f, Value.int .i64 x.rs.pc, Value.int .i64 x.vec] 31, Cel m #[Value.map (some b)] 55, mapR b (fun a : Int => Value.int .u32 a) (fun x_ : Nat => Value.pointer (some ⟨x_, 0, none⟩)) (put (outs V) ((addr : Int) / 4096 : Int) b11), SubR (fun (c_ : Nat → Shade) (b_ : Nat) => PsR 4096 enShade 67 c_ b_) V] [] w17 := (hW.pick [0, 1, 2, 3, 4, 5] (by decide) rfl).pickG [] rfl
           refine sr_p 7 (Value.pointer (some ⟨b11, 0 + (Int.toNat ((addr : Int) % 4096)) * 7, none⟩)) hR rfl hA ?_; clear hA ac; intro ac hA
           refine sr_one (i := 8) (by kernel_rfl) (sr_d rfl hA (Runs.storePs (sz := 7) (n := 4096) (f := (fun _ => (⟨0, ⟨0, 0⟩, 0, ⟨0, 0⟩, 0⟩ : Shade))) (b := b11) (j := (Int.toNat ((addr : Int) % 4096))) (u := Value.agg #[Value.int .u64 x.wr, Value.int .i64 x.ws.f, Value.int .i64 x.ws.pc, Value.int .u64 x.rd, Value.int .i64 x.rs.f, Value.int .i64 x.rs.pc, Value.int .i64 x.vec]) (v := x) elt_Shade.len elt_Shade.pos elt_Shade.one (by kernel_rfl) (by kernel_rfl) (by kernel_rfl) (by kernel_rfl) (by first | omega | (simp; done) | (simp; omega)) hW 0 rfl (H' := [PsR 4096 enShade 67 (psSet (fun _ => (⟨0, ⟨0, 0⟩, 0, ⟨0, 0⟩, 0⟩ : Shade)) (Int.toNat ((addr : Int) % 4096)) x) b11, Cel b3 #[Value.int .u64 ((fun _ => (⟨0, ⟨0, 0⟩, 0, ⟨0, 0⟩, 0⟩ : Shade)) (Int.toNat ((addr : Int) % 4096))).wr, Value.int .i64 ((fun _ => (⟨0, ⟨0, 0⟩, 0, ⟨0, 0⟩, 0⟩ : Shade)) (Int.toNat ((addr : Int) % 4096))).ws.f, Value.int .i64 ((fun _ => (⟨0, ⟨0, 0⟩, 0, ⟨0, 0⟩, 0⟩ : Shade)) (Int.toNat ((addr : Int) % 4096))).ws.pc, Value.int .u64 ((fun _ => (⟨0, ⟨0, 0⟩, 0, ⟨0, 0⟩, 0⟩ : Shade)) (Int.toNat ((addr : Int) % 4096))).rd, Value.int .i64 ((fun _ => (⟨0, ⟨0, 0⟩, 0, ⟨0, 0⟩, 0⟩ : Shade)) (Int.toNat ((addr : Int) % 4096))).rs.f, Value.int .i64 ((fun _ => (⟨0, ⟨0, 0⟩, 0, ⟨0, 0⟩, 0⟩ : Shade)) (Int.toNat ((addr : Int) % 4096))).rs.pc, Value.int .i64 ((fun _ => (⟨0, ⟨0, 0⟩, 0, ⟨0, 0⟩, 0⟩ : Shade)) (Int.toNat ((addr : Int) % 4096))).vec] 31, Cel b1 #[Value.int .u64 x.wr, Value.int .i64 x.ws.f, Value.int .i64 x.ws.pc, Value.int .u64 x.rd, Value.int .i64 x.rs.f, Value.int .i64 x.rs.pc, Value.int .i64 x.vec] 31, Cel m #[Value.map (some b)] 55, mapR b (fun a : Int => Value.int .u32 a) (fun x_ : Nat => Value.pointer (some ⟨x_, 0, none⟩)) (put (outs V) ((addr : Int) / 4096 : Int) b11), SubR (fun (c_ : Nat → Shade) (b_ : Nat) => PsR 4096 enShade 67 c_ b_) V]) rfl ?_)); clear hA ac hW; intro w18 hW ac hA
           refine ⟨⟨fun h => absurd h (by decide), fun h => absurd h (by decide)⟩, ?_⟩
           refine sr_done (by kernel_rfl) ?_ _
           exact ⟨hA.sub ⟨⟨by kernel_rfl, by kernel_rfl⟩, ⟨by kernel_rfl, by kernel_rfl⟩, ⟨by kernel_rfl, by kernel_rfl⟩, ⟨by kernel_rfl, by kernel_rfl⟩, ⟨by kernel_rfl, by kernel_rfl⟩, ⟨by kernel_rfl, by kernel_rfl⟩, ⟨by kernel_rfl, by kernel_rfl⟩, ⟨by kernel_rfl, by kernel_rfl⟩, ⟨by kernel_rfl, by kernel_rfl⟩, ⟨by kernel_rfl, by kernel_rfl⟩, ⟨by kernel_rfl, by kernel_rfl⟩, ⟨by kernel_rfl, by kernel_rfl⟩, ⟨by kernel_rfl, by kernel_rfl⟩, ⟨by kernel_rfl, by kernel_rfl⟩, ⟨by kernel_rfl, by kernel_rfl⟩, ⟨by kernel_rfl, by kernel_rfl⟩, ⟨by kernel_rfl, by kernel_rfl⟩, ⟨by kernel_rfl, by kernel_rfl⟩, ⟨by kernel_rfl, by kernel_rfl⟩, ⟨by kernel_rfl, by kernel_rfl⟩, ⟨by kernel_rfl, by kernel_rfl⟩, ⟨by kernel_rfl, by kernel_rfl⟩, ⟨by kernel_rfl, by kernel_rfl⟩, ⟨by kernel_rfl, by kernel_rfl⟩, ⟨by kernel_rfl, by kernel_rfl⟩, ⟨by kernel_rfl, by kernel_rfl⟩, ⟨by kernel_rfl, by kernel_rfl⟩, ⟨by kernel_rfl, by kernel_rfl⟩, ⟨by kernel_rfl, by kernel_rfl⟩, ⟨by kernel_rfl, by kernel_rfl⟩, ⟨by kernel_rfl, by kernel_rfl⟩, ⟨by kernel_rfl, by kernel_rfl⟩, ⟨by kernel_rfl, by kernel_rfl⟩, ⟨by kernel_rfl, by kernel_rfl⟩, ⟨by kernel_rfl, by kernel_rfl⟩, trivial⟩, (hW.pick [0, 1, 2, 3, 4, 5] (by decide) rfl).pickG [] rfl⟩
         clear hA ac hW; rintro ac w19 ⟨hA, hW⟩
         refine thenN ?_
         refine wp_seq ?_
         refine wp_seq ?_
         refine wp_region_lit ?_
         refine st_q (Value.agg #[Value.int .u64 ((fun _ => (⟨0, ⟨0, 0⟩, 0, ⟨0, 0⟩, 0⟩ : Shade)) (Int.toNat ((addr : Int) % 4096))).wr, Value.int .i64 ((fun _ => (⟨0, ⟨0, 0⟩, 0, ⟨0, 0⟩, 0⟩ : Shade)) (Int.toNat ((addr : Int) % 4096))).ws.f, Value.int .i64 ((fun _ => (⟨0, ⟨0, 0⟩, 0, ⟨0, 0⟩, 0⟩ : Shade)) (Int.toNat ((addr : Int) % 4096))).ws.pc, Value.int .u64 ((fun _ => (⟨0, ⟨0, 0⟩, 0, ⟨0, 0⟩, 0⟩ : Shade)) (Int.toNat ((addr : Int) % 4096))).rd, Value.int .i64 ((fun _ => (⟨0, ⟨0, 0⟩, 0, ⟨0, 0⟩, 0⟩ : Shade)) (Int.toNat ((addr : Int) % 4096))).rs.f, Value.int .i64 ((fun _ => (⟨0, ⟨0, 0⟩, 0, ⟨0, 0⟩, 0⟩ : Shade)) (Int.toNat ((addr : Int) % 4096))).rs.pc, Value.int .i64 ((fun _ => (⟨0, ⟨0, 0⟩, 0, ⟨0, 0⟩, 0⟩ : Shade)) (Int.toNat ((addr : Int) % 4096))).vec]) hA hW.cls (Rd.load (b := b3) (i := 0) (by kernel_rfl) (fun _ hw => (hw.1).cel 1 rfl) (by kernel_rfl)) ?_; clear hA ac; intro ac hA
         refine st_s hA (Runs.store (v := Value.agg #[Value.int .u64 ((fun _ => (⟨0, ⟨0, 0⟩, 0, ⟨0, 0⟩, 0⟩ : Shade)) (Int.toNat ((addr : Int) % 4096))).wr, Value.int .i64 ((fun _ => (⟨0, ⟨0, 0⟩, 0, ⟨0, 0⟩, 0⟩ : Shade)) (Int.toNat ((addr : Int) % 4096))).ws.f, Value.int .i64 ((fun _ => (⟨0, ⟨0, 0⟩, 0, ⟨0, 0⟩, 0⟩ : Shade)) (Int.toNat ((addr : Int) % 4096))).ws.pc, Value.int .u64 ((fun _ => (⟨0, ⟨0, 0⟩, 0, ⟨0, 0⟩, 0⟩ : Shade)) (Int.toNat ((addr : Int) % 4096))).rd, Value.int .i64 ((fun _ => (⟨0, ⟨0, 0⟩, 0, ⟨0, 0⟩, 0⟩ : Shade)) (Int.toNat ((addr : Int) % 4096))).rs.f, Value.int .i64 ((fun _ => (⟨0, ⟨0, 0⟩, 0, ⟨0, 0⟩, 0⟩ : Shade)) (Int.toNat ((addr : Int) % 4096))).rs.pc, Value.int .i64 ((fun _ => (⟨0, ⟨0, 0⟩, 0, ⟨0, 0⟩, 0⟩ : Shade)) (Int.toNat ((addr : Int) % 4096))).vec]) (b := b3) (j := 0) (n := 7) (cs' := #[Value.int .u64 ((fun _ => (⟨0, ⟨0, 0⟩, 0, ⟨0, 0⟩, 0⟩ : Shade)) (Int.toNat ((addr : Int) % 4096))).wr, Value.int .i64 ((fun _ => (⟨0, ⟨0, 0⟩, 0, ⟨0, 0⟩, 0⟩ : Shade)) (Int.toNat ((addr : Int) % 4096))).ws.f, Value.int .i64 ((fun _ => (⟨0, ⟨0, 0⟩, 0, ⟨0, 0⟩, 0⟩ : Shade)) (Int.toNat ((addr : Int) % 4096))).ws.pc, Value.int .u64 ((fun _ => (⟨0, ⟨0, 0⟩, 0, ⟨0, 0⟩, 0⟩ : Shade)) (Int.toNat ((addr : Int) % 4096))).rd, Value.int .i64 ((fun _ => (⟨0, ⟨0, 0⟩, 0, ⟨0, 0⟩, 0⟩ : Shade)) (Int.toNat ((addr : Int) % 4096))).rs.f, Value.int .i64 ((fun _ => (⟨0, ⟨0, 0⟩, 0, ⟨0, 0⟩, 0⟩ : Shade)) (Int.toNat ((addr : Int) % 4096))).rs.pc, Value.int .i64 ((fun _ => (⟨0, ⟨0, 0⟩, 0, ⟨0, 0⟩, 0⟩ : Shade)) (Int.toNat ((addr : Int) % 4096))).vec]) (H' := [PsR 4096 enShade 67 (psSet (fun _ => (⟨0, ⟨0, 0⟩, 0, ⟨0, 0⟩, 0⟩ : Shade)) (Int.toNat ((addr : Int) % 4096)) x) b11, Cel b3 #[Value.int .u64 ((fun _ => (⟨0, ⟨0, 0⟩, 0, ⟨0, 0⟩, 0⟩ : Shade)) (Int.toNat ((addr : Int) % 4096))).wr, Value.int .i64 ((fun _ => (⟨0, ⟨0, 0⟩, 0, ⟨0, 0⟩, 0⟩ : Shade)) (Int.toNat ((addr : Int) % 4096))).ws.f, Value.int .i64 ((fun _ => (⟨0, ⟨0, 0⟩, 0, ⟨0, 0⟩, 0⟩ : Shade)) (Int.toNat ((addr : Int) % 4096))).ws.pc, Value.int .u64 ((fun _ => (⟨0, ⟨0, 0⟩, 0, ⟨0, 0⟩, 0⟩ : Shade)) (Int.toNat ((addr : Int) % 4096))).rd, Value.int .i64 ((fun _ => (⟨0, ⟨0, 0⟩, 0, ⟨0, 0⟩, 0⟩ : Shade)) (Int.toNat ((addr : Int) % 4096))).rs.f, Value.int .i64 ((fun _ => (⟨0, ⟨0, 0⟩, 0, ⟨0, 0⟩, 0⟩ : Shade)) (Int.toNat ((addr : Int) % 4096))).rs.pc, Value.int .i64 ((fun _ => (⟨0, ⟨0, 0⟩, 0, ⟨0, 0⟩, 0⟩ : Shade)) (Int.toNat ((addr : Int) % 4096))).vec] 31, Cel b1 #[Value.int .u64 x.wr, Value.int .i64 x.ws.f, Value.int .i64 x.ws.pc, Value.int .u64 x.rd, Value.int .i64 x.rs.f, Value.int .i64 x.rs.pc, Value.int .i64 x.vec] 31, Cel m #[Value.map (some b)] 55, mapR b (fun a : Int => Value.int .u32 a) (fun x_ : Nat => Value.pointer (some ⟨x_, 0, none⟩)) (put (outs V) ((addr : Int) / 4096 : Int) b11), SubR (fun (c_ : Nat → Shade) (b_ : Nat) => PsR 4096 enShade 67 c_ b_) V]) (by kernel_rfl) (by kernel_rfl) (by kernel_rfl) (by kernel_rfl) (by kernel_rfl) hW 1 (by rfl) (Nat.le_of_ble_eq_true (by kernel_rfl)) (by kernel_rfl) (by rfl) ?_); clear hA ac hW; intro w20 hW ac hA
         refine st_p (Value.int .i64 0) hA ?_; clear hA ac; intro ac hA
         refine wpList_nil ?_
         refine thenN ?_
         refine wp_ret ?_
         refine thenR ?_
         refine fwdR ?_
         refine ret2 (v1 := Value.agg #[Value.int .u64 ((fun _ => (⟨0, ⟨0, 0⟩, 0, ⟨0, 0⟩, 0⟩ : Shade)) (Int.toNat ((addr : Int) % 4096))).wr, Value.int .i64 ((fun _ => (⟨0, ⟨0, 0⟩, 0, ⟨0, 0⟩, 0⟩ : Shade)) (Int.toNat ((addr : Int) % 4096))).ws.f, Value.int .i64 ((fun _ => (⟨0, ⟨0, 0⟩, 0, ⟨0, 0⟩, 0⟩ : Shade)) (Int.toNat ((addr : Int) % 4096))).ws.pc, Value.int .u64 ((fun _ => (⟨0, ⟨0, 0⟩, 0, ⟨0, 0⟩, 0⟩ : Shade)) (Int.toNat ((addr : Int) % 4096))).rd, Value.int .i64 ((fun _ => (⟨0, ⟨0, 0⟩, 0, ⟨0, 0⟩, 0⟩ : Shade)) (Int.toNat ((addr : Int) % 4096))).rs.f, Value.int .i64 ((fun _ => (⟨0, ⟨0, 0⟩, 0, ⟨0, 0⟩, 0⟩ : Shade)) (Int.toNat ((addr : Int) % 4096))).rs.pc, Value.int .i64 ((fun _ => (⟨0, ⟨0, 0⟩, 0, ⟨0, 0⟩, 0⟩ : Shade)) (Int.toNat ((addr : Int) % 4096))).vec]) (v2 := Value.int .i64 0) (by rfl) hA (Got.cell (b := b3) (i := 0) hA (by kernel_rfl) (by kernel_rfl) (hW.cel 1 rfl) (by kernel_rfl)) (Got.tmp hA (by kernel_rfl) (by kernel_rfl)) ?_
         clear hA
         rw [put_end hk8, ← outs_snoc (((addr : Int) / 4096 : Int)) b11 (psSet (fun _ => (⟨0, ⟨0, 0⟩, 0, ⟨0, 0⟩, 0⟩ : Shade)) (Int.toNat ((addr : Int) % 4096)) x)] at hW
         have hW := Ws.subAdd (f := (fun (c_ : Nat → Shade) (b_ : Nat) => PsR 4096 enShade 67 c_ b_)) (hW.pick [0, 5, 1, 2, 3, 4] (by decide) rfl) (((addr : Int) / 4096 : Int))
         replace hW : Ws w (· ∈ (ShR m b V).fp) [SubR (fun (c_ : Nat → Shade) (b_ : Nat) => PsR 4096 enShade 67 c_ b_) (V ++ [(((addr : Int) / 4096 : Int), b11, psSet (fun _ => (⟨0, ⟨0, 0⟩, 0, ⟨0, 0⟩, 0⟩ : Shade)) (Int.toNat ((addr : Int) % 4096)) x)]), Cel b3 #[Value.int .u64 ((fun _ => (⟨0, ⟨0, 0⟩, 0, ⟨0, 0⟩, 0⟩ : Shade)) (Int.toNat ((addr : Int) % 4096))).wr, Value.int .i64 ((fun _ => (⟨0, ⟨0, 0⟩, 0, ⟨0, 0⟩, 0⟩ : Shade)) (Int.toNat ((addr : Int) % 4096))).ws.f, Value.int .i64 ((fun _ => (⟨0, ⟨0, 0⟩, 0, ⟨0, 0⟩, 0⟩ : Shade)) (Int.toNat ((addr : Int) % 4096))).ws.pc, Value.int .u64 ((fun _ => (⟨0, ⟨0, 0⟩, 0, ⟨0, 0⟩, 0⟩ : Shade)) (Int.toNat ((addr : Int) % 4096))).rd, Value.int .i64 ((fun _ => (⟨0, ⟨0, 0⟩, 0, ⟨0, 0⟩, 0⟩ : Shade)) (Int.toNat ((addr : Int) % 4096))).rs.f, Value.int .i64 ((fun _ => (⟨0, ⟨0, 0⟩, 0, ⟨0, 0⟩, 0⟩ : Shade)) (Int.toNat ((addr : Int) % 4096))).rs.pc, Value.int .i64 ((fun _ => (⟨0, ⟨0, 0⟩, 0, ⟨0, 0⟩, 0⟩ : Shade)) (Int.toNat ((addr : Int) % 4096))).vec] 31, Cel b1 #[Value.int .u64 x.wr, Value.int .i64 x.ws.f, Value.int .i64 x.ws.pc, Value.int .u64 x.rd, Value.int .i64 x.rs.f, Value.int .i64 x.rs.pc, Value.int .i64 x.vec] 31, Cel m #[Value.map (some b)] 55, mapR b (fun a : Int => Value.int .u32 a) (fun x_ : Nat => Value.pointer (some ⟨x_, 0, none⟩)) (outs (V ++ [(((addr : Int) / 4096 : Int), b11, psSet (fun _ => (⟨0, ⟨0, 0⟩, 0, ⟨0, 0⟩, 0⟩ : Shade)) (Int.toNat ((addr : Int) % 4096)) x)]))] [] w20 := hW
         exact ⟨V ++ [(((addr : Int) / 4096 : Int), b11, psSet (fun _ => (⟨0, ⟨0, 0⟩, 0, ⟨0, 0⟩, 0⟩ : Shade)) (Int.toNat ((addr : Int) % 4096)) x)], ((fun _ => (⟨0, ⟨0, 0⟩, 0, ⟨0, 0⟩, 0⟩ : Shade)) (Int.toNat ((addr : Int) % 4096))), 0, rfl, by first | rfl | exact h6.symm, by rw [if_pos (by cases h_ : Shade.ok x; (rw [h_] at h6; cases h6); rfl)]; unfold LayR atS; rw [outs_none.1 hk8]; exact ⟨⟨_, rfl⟩, rfl⟩, (Ws.pack (K := []) (show Ws w (· ∈ (ShR m b V).fp) ([Cel m #[Value.map (some b)] 55, mapR b (fun a : Int => Value.int .u32 a) (fun x_ : Nat => Value.pointer (some ⟨x_, 0, none⟩)) (outs (V ++ [(((addr : Int) / 4096 : Int), b11, psSet (fun _ => (⟨0, ⟨0, 0⟩, 0, ⟨0, 0⟩, 0⟩ : Shade)) (Int.toNat ((addr : Int) % 4096)) x)])), SubR (fun (c_ : Nat → Shade) (b_ : Nat) => PsR 4096 enShade 67 c_ b_) (V ++ [(((addr : Int) / 4096 : Int), b11, psSet (fun _ => (⟨0, ⟨0, 0⟩, 0, ⟨0, 0⟩, 0⟩ : Shade)) (Int.toNat ((addr : Int) % 4096)) x)])] ++ []) [] _ from hW.pick [3, 4, 0] (by decide) rfl)).updDone 0 rfl⟩)
     · skip
       first
       | (exfalso; clear hA hW; omega)
       | (
         obtain ⟨i21, c22, hi23, hv24⟩ := outs_at hk8
         have hW := Ws.subOpen (hW.pick [4, 0, 1, 2, 3] (by decide) rfl) i21 hi23
         replace hW : Ws w (· ∈ (ShR m b V).fp) [PsR 4096 enShade 67 c22 bk9, SubR (fun (c_ : Nat → Shade) (b_ : Nat) => PsR 4096 enShade 67 c_ b_) (List.eraseIdx V i21), Cel b3 #[Value.int .u64 0, Value.int .i64 0, Value.int .i64 0, Value.int .u64 0, Value.int .i64 0, Value.int .i64 0, Value.int .i64 0] 31, Cel b1 #[Value.int .u64 x.wr, Value.int .i64 x.ws.f, Value.int .i64 x.ws.pc, Value.int .u64 x.rd, Value.int .i64 x.rs.f, Value.int .i64 x.rs.pc, Value.int .i64 x.vec] 31, Cel m #[Value.map (some b)] 55, mapR b (fun a : Int => Value.int .u32 a) (fun x_ : Nat => Value.pointer (some ⟨x_, 0, none⟩)) (outs V)] [] w5 := hW
         refine wp_region_lit ?_
         refine st_p (Value.pointer (some ⟨m, 0, none⟩)) hA ?_; clear hA ac; intro ac hA
         refine st_p (Value.pointer (some ⟨m, 0, none⟩)) hA ?_; clear hA ac; intro ac hA
         refine st_p (Value.pointer (some ⟨m, 0, none⟩)) hA ?_; clear hA ac; intro ac hA
         refine st_q (Value.map (some b)) hA hW.cls (Rd.load (b := m) (i := 0) (by kernel_rfl) (fun _ hw => (hw.1).cel 4 rfl) (by kernel_rfl)) ?_; clear hA ac; intro ac hA
         refine st_p (Value.int .u32 addr) hA ?_; clear hA ac; intro ac hA
         refine st_s hA (Runs.callN (v := Value.pointer (some ⟨bk9, 0 + (Int.toNat ((addr : Int) % 4096)) * 7, none⟩)) (fun _ => by kernel_rfl) hW ((by have h_ := e_at_some b (outs V) (addr) w5 ((hW).get 5 rfl) (by first | omega | assumption) (by rw [hk8]; rfl); rw [hk8, Option.getD_some] at h_; exact h_)) ?_); clear hA ac hW; intro w25 hW hfw25 ac hA
         refine st_p (Value.bool false) hA ?_; clear hA ac; intro ac hA
         refine wpList_nil ?_
         refine thenN ?_
         refine wp_cond_false (hA.eval (by kernel_rfl)) ?_
         refine wp_skip ?_
         refine thenN ?_
         refine wp_seq ?_
         refine wp_region_lit ?_
         refine st_p (Value.pointer (some ⟨m, 0, none⟩)) hA ?_; clear hA ac; intro ac hA
         refine st_p (Value.pointer (some ⟨m, 0, none⟩)) hA ?_; clear hA ac; intro ac hA
         refine st_p (Value.pointer (some ⟨m, 0, none⟩)) hA ?_; clear hA ac; intro ac hA
         refine st_q (Value.map (some b)) hA hW.cls (Rd.load (b := m) (i := 0) (by kernel_rfl) (fun _ hw => (hw.1).cel 4 rfl) (by kernel_rfl)) ?_; clear hA ac; intro ac hA
         refine st_p (Value.int .u32 addr) hA ?_; clear hA ac; intro ac hA
         refine st_s hA (Runs.callN (v := Value.pointer (some ⟨bk9, 0 + (Int.toNat ((addr : Int) % 4096)) * 7, none⟩)) (fun _ => by kernel_rfl) hW ((by have h_ := e_at_some b (outs V) (addr) w25 ((hW).get 5 rfl) (by first | omega | assumption) (by rw [hk8]; rfl); rw [hk8, Option.getD_some] at h_; exact h_)) ?_); clear hA ac hW; intro w26 hW hfw26 ac hA
         refine st_p (Value.pointer (some ⟨bk9, 0 + (Int.toNat ((addr : Int) % 4096)) * 7, none⟩)) hA ?_; clear hA ac; intro ac hA
         refine st_q ((c22 (Int.toNat ((addr : Int) % 4096))).v) hA hW.cls (Rd.load (b := bk9) (i := 0 + (Int.toNat ((addr : Int) % 4096)) * 7) (by kernel_rfl) (fun _ hw => (hw.1).cel 0 rfl) (by rw [Nat.zero_add]; exact ldv_elem (F := Try.prog.fieldsOf 31) elt_Shade.len (by kernel_rfl) (by kernel_rfl) (by first | omega | (simp; done) | (simp; omega)))) ?_; clear hA ac; intro ac hA
         refine st_s hA (Runs.store (v := (c22 (Int.toNat ((addr : Int) % 4096))).v) (b := b3) (j := 0) (n := 7) (cs' := #[Value.int .u64 (c22 (Int.toNat ((addr : Int) % 4096))).wr, Value.int .i64 (c22 (Int.toNat ((addr : Int) % 4096))).ws.f, Value.int .i64 (c22 (Int.toNat ((addr : Int) % 4096))).ws.pc, Value.int .u64 (c22 (Int.toNat ((addr : Int) % 4096))).rd, Value.int .i64 (c22 (Int.toNat ((addr : Int) % 4096))).rs.f, Value.int .i64 (c22 (Int.toNat ((addr : Int) % 4096))).rs.pc, Value.int .i64 (c22 (Int.toNat ((addr : Int) % 4096))).vec]) (H' := [PsR 4096 enShade 67 c22 bk9, SubR (fun (c_ : Nat → Shade) (b_ : Nat) => PsR 4096 enShade 67 c_ b_) (List.eraseIdx V i21), Cel b3 #[Value.int .u64 (c22 (Int.toNat ((addr : Int) % 4096))).wr, Value.int .i64 (c22 (Int.toNat ((addr : Int) % 4096))).ws.f, Value.int .i64 (c22 (Int.toNat ((addr : Int) % 4096))).ws.pc, Value.int .u64 (c22 (Int.toNat ((addr : Int) % 4096))).rd, Value.int .i64 (c22 (Int.toNat ((addr : Int) % 4096))).rs.f, Value.int .i64 (c22 (Int.toNat ((addr : Int) % 4096))).rs.pc, Value.int .i64 (c22 (Int.toNat ((addr : Int) % 4096))).vec] 31, Cel b1 #[Value.int .u64 x.wr, Value.int .i64 x.ws.f, Value.int .i64 x.ws.pc, Value.int .u64 x.rd, Value.int .i64 x.rs.f, Value.int .i64 x.rs.pc, Value.int .i64 x.vec] 31, Cel m #[Value.map (some b)] 55, mapR b (fun a : Int => Value.int .u32 a) (fun x_ : Nat => Value.pointer (some ⟨x_, 0, none⟩)) (outs V)]) (by kernel_rfl) (by kernel_rfl) (by kernel_rfl) (by kernel_rfl) (by kernel_rfl) hW 2 (by rfl) (Nat.le_of_ble_eq_true (by kernel_rfl)) (by kernel_rfl) (by rfl) ?_); clear hA ac hW; intro w27 hW ac hA
         refine wpList_nil ?_
         refine thenN ?_
         refine wp_seq ?_
         refine wp_cut (fun ac_ wl_ => Fm 48 [] [(0, Value.pointer (some ⟨m, 0, none⟩)), (1, Value.int .u32 addr), (2, x.v), (5, Value.pointer (some ⟨b1, 0, none⟩)), (6, Value.pointer (some ⟨b3, 0, none⟩)), (7, Value.int .i64 (argErr (Shade.ok x))), (8, Value.pointer (some ⟨m, 0, none⟩)), (9, Value.bool false), (10, Value.agg #[Value.int .u64 x.wr, Value.int .i64 x.ws.f, Value.int .i64 x.ws.pc, Value.int .u64 x.rd, Value.int .i64 x.rs.f, Value.int .i64 x.rs.pc, Value.int .i64 x.vec]), (11, Value.int .i64 (argErr (Shade.ok x))), (12, Value.int .i64 (argErr (Shade.ok x))), (13, Value.bool ((argErr (Shade.ok x) : Int) != (0 : Int))), (14, Value.pointer (some ⟨m, 0, none⟩)), (15, Value.pointer (some ⟨m, 0, none⟩)), (16, Value.pointer (some ⟨m, 0, none⟩)), (17, Value.map (some b)), (18, Value.int .u32 addr), (19, Value.pointer (some ⟨bk9, 0 + (Int.toNat ((addr : Int) % 4096)) * 7, none⟩)), (20, Value.bool false), (29, Value.pointer (some ⟨m, 0, none⟩)), (30, Value.pointer (some ⟨m, 0, none⟩)), (31, Value.pointer (some ⟨m, 0, none⟩)), (32, Value.map (some b)), (33, Value.int .u32 addr), (34, Value.pointer (some ⟨bk9, 0 + (Int.toNat ((addr : Int) % 4096)) * 7, none⟩)), (35, Value.pointer (some ⟨bk9, 0 + (Int.toNat ((addr : Int) % 4096)) * 7, none⟩)), (36, (c22 (Int.toNat ((addr : Int) % 4096))).v)] ac_ ∧ Ws w (· ∈ (ShR m b V).fp) [PsR 4096 enShade 67 (psSet c22 (Int.toNat ((addr : Int) % 4096)) x) bk9, SubR (fun (c_ : Nat → Shade) (b_ : Nat) => PsR 4096 enShade 67 c_ b_) (List.eraseIdx V i21), Cel b3 #[Value.int .u64 (c22 (Int.toNat ((addr : Int) % 4096))).wr, Value.int .i64 (c22 (Int.toNat ((addr : Int) % 4096))).ws.f, Value.int .i64 (c22 (Int.toNat ((addr : Int) % 4096))).ws.pc, Value.int .u64 (c22 (Int.toNat ((addr : Int) % 4096))).rd, Value.int .i64 (c22 (Int.toNat ((addr : Int) % 4096))).rs.f, Value.int .i64 (c22 (Int.toNat ((addr : Int) % 4096))).rs.pc, Value.int .i64 (c22 (Int.toNat ((addr : Int) % 4096))).vec] 31, Cel b1 #[Value.int .u64 x.wr, Value.int .i64 x.ws.f, Value.int .i64 x.ws.pc, Value.int .u64 x.rd, Value.int .i64 x.rs.f, Value.int .i64 x.rs.pc, Value.int .i64 x.vec] 31, Cel m #[Value.map (some b)] 55, mapR b (fun a : Int => Value.int .u32 a) (fun x_ : Nat => Value.pointer (some ⟨x_, 0, none⟩)) (outs V)] [] wl_) ?_ ?_
         · refine sr_region (m := 9) (C := Ws w (· ∈ (ShR m b V).fp) [PsR 4096 enShade 67 c22 bk9, SubR (fun (c_ : Nat → Shade) (b_ : Nat) => PsR 4096 enShade 67 c_ b_) (List.eraseIdx V i21), Cel b3 #[Value.int .u64 (c22 (Int.toNat ((addr : Int) % 4096))).wr, Value.int .i64 (c22 (Int.toNat ((addr : Int) % 4096))).ws.f, Value.int .i64 (c22 (Int.toNat ((addr : Int) % 4096))).ws.pc, Value.int .u64 (c22 (Int.toNat ((addr : Int) % 4096))).rd, Value.int .i64 (c22 (Int.toNat ((addr : Int) % 4096))).rs.f, Value.int .i64 (c22 (Int.toNat ((addr : Int) % 4096))).rs.pc, Value.int .i64 (c22 (Int.toNat ((addr : Int) % 4096))).vec] 31, Cel b1 #[Value.int .u64 x.wr, Value.int .i64 x.ws.f, Value.int .i64 x.ws.pc, Value.int .u64 x.rd, Value.int .i64 x.rs.f, Value.int .i64 x.rs.pc, Value.int .i64 x.vec] 31, Cel m #[Value.map (some b)] 55, mapR b (fun a : Int => Value.int .u32 a) (fun x_ : Nat => Value.pointer (some ⟨x_, 0, none⟩)) (outs V)] []) (fun i => [3, 6].contains i) (fun i => [3, 5, 6].contains i) (fun i => [0, 1, 2, 4, 7].contains i) (by kernel_rfl) (by kernel_rfl) (by kernel_rfl) (by kernel_rfl) hW ?_; clear hW; intro w28 hW hfw28 hR; have hC : Ws w (· ∈ (ShR m b V).fp) [PsR 4096 enShade 67 c22 bk9, SubR (fun (c_ : Nat → Shade) (b_ : Nat) => PsR 4096 enShade 67 c_ b_) (List.eraseIdx V i21), Cel b3 #[Value.int .u64 (c22 (Int.toNat ((addr : Int) % 4096))).wr, Value.int .i64 (c22 (Int.toNat ((addr : Int) % 4096))).ws.f, Value.int .i64 (c22 (Int.toNat ((addr : Int) % 4096))).ws.pc, Value.int .u64 (c22 (Int.toNat ((addr : Int) % 4096))).rd, Value.int .i64 (c22 (Int.toNat ((addr : Int) % 4096))).rs.f, Value.int .i64 (c22 (Int.toNat ((addr : Int) % 4096))).rs.pc, Value.int .i64 (c22 (Int.toNat ((addr : Int) % 4096))).vec] 31, Cel b1 #[Value.int .u64 x.wr, Value.int .i64 x.ws.f, Value.int .i64 x.ws.pc, Value.int .u64 x.rd, Value.int .i64 x.rs.f, Value.int .i64 x.rs.pc, Value.int .i64 x.vec] 31, Cel m #[Value.map (some b)] 55, mapR b (fun a : Int => Value.int .u32 a) (fun x_ : Nat => Value.pointer (some ⟨x_, 0, none⟩)) (outs V)] [] w28 := hW.pick [0, 1, 2, 3, 4, 5] (by decide) rfl
           refine sr_p 0 (Value.pointer (some ⟨m, 0, none⟩)) hR rfl hA ?_; clear hA ac; intro ac hA
           refine sr_p 1 (Value.pointer (some ⟨m, 0, none⟩)) hR rfl hA ?_; clear hA ac; intro ac hA
           refine sr_p 2 (Value.pointer (some ⟨m, 0, none⟩)) hR rfl hA ?_; clear hA ac; intro ac hA
           refine sr_t 3 (Value.map (some b)) hR rfl hA hC (Rd.load (b := m) (i := 0) (by kernel_rfl) (fun _ hw => (hw).cel 4 rfl) (by kernel_rfl)) ?_; clear hA ac; intro ac hA
           refine sr_p 4 (Value.int .u32 addr) hR rfl hA ?_; clear hA ac; intro ac hA
           refine sr_t 6 (Value.agg #[Value.int .u64 x.wr, Value.int .i64 x.ws.f, Value.int .i64 x.ws.pc, Value.int .u64 x.rd, Value.int .i64 x.rs.f, Value.int .i64 x.rs.pc, Value.int .i64 x.vec]) hR rfl hA hC (Rd.load (b := b1) (i := 0) (by kernel_rfl) (fun _ hw => (hw).cel 3 rfl) (by kernel_rfl)) ?_; clear hA ac; intro ac hA
           refine sr_one (i := 5) (by kernel_rfl) (sr_d rfl hA (Runs.callN (v := Value.pointer (some ⟨bk9, 0 + (Int.toNat ((addr : Int) % 4096)) * 7, none⟩)) (fun _ => by kernel_rfl) hW ((by have h_ := e_at_some b (outs V) (addr) w28 ((hW).get 5 rfl) (by first | omega | assumption) (by rw [hk8]; rfl); rw [hk8, Option.getD_some] at h_; exact h_)) ?_)); clear hA ac hW; intro w29 hW hfw29 ac hA
           refine ⟨⟨fun _ => (hW.pick [0, 1, 2, 3, 4, 5] (by decide) rfl).pickG [] rfl, fun h => absurd h (by decide)⟩, ?_⟩; have hC : Ws w (· ∈ (ShR m b V).fp) [PsR 4096 enShade 67 c22 bk9, SubR (fun (c_ : Nat → Shade) (b_ : Nat) => PsR 4096 enShade 67 c_ b_) (List.eraseIdx V i21), Cel b3 #[Value.int .u64 (c22 (Int.toNat ((addr : Int) % 4096))).wr, Value.int .i64 (c22 (Int.toNat ((addr : Int) % 4096))).ws.f, Value.int .i64 (c22 (Int.toNat ((addr : Int) % 4096))).ws.pc, Value.int .u64 (c22 (Int.toNat ((addr : Int) % 4096))).rd, Value.int .i64 (c22 (Int.toNat ((addr : Int) % 4096))).rs.f, Value.int .i64 (c22 (Int.toNat ((addr : Int) % 4096))).rs.pc, Value.int .i64 (c22 (Int.toNat ((addr : Int) % 4096))).vec] 31, Cel b1 #[Value.int .u64 x.wr, Value.int .i64 x.ws.f, Value.int .i64 x.ws.pc, Value.int .u64 x.rd, Value.int .i64 x.rs.f, Value.int .i64 x.rs.pc, Value.int .i64 x.vec] 31, Cel m #[Value.map (some b)] 55, mapR b (fun a : Int => Value.int .u32 a) (fun x_ : Nat => Value.pointer (some ⟨x_, 0, none⟩)) (outs V)] [] w29 := (hW.pick [0, 1, 2, 3, 4, 5] (by decide) rfl).pickG [] rfl
           refine sr_p 7 (Value.pointer (some ⟨bk9, 0 + (Int.toNat ((addr : Int) % 4096)) * 7, none⟩)) hR rfl hA ?_; clear hA ac; intro ac hA
           refine sr_one (i := 8) (by kernel_rfl) (sr_d rfl hA (Runs.storePs (sz := 7) (n := 4096) (f := c22) (b := bk9) (j := (Int.toNat ((addr : Int) % 4096))) (u := Value.agg #[Value.int .u64 x.wr, Value.int .i64 x.ws.f, Value.int .i64 x.ws.pc, Value.int .u64 x.rd, Value.int .i64 x.rs.f, Value.int .i64 x.rs.pc, Value.int .i64 x.vec]) (v := x) elt_Shade.len elt_Shade.pos elt_Shade.one (by kernel_rfl) (by kernel_rfl) (by kernel_rfl) (by kernel_rfl) (by first | omega | (simp; done) | (simp; omega)) hW 0 rfl (H' := [PsR 4096 enShade 67 (psSet c22 (Int.toNat ((addr : Int) % 4096)) x) bk9, SubR (fun (c_ : Nat → Shade) (b_ : Nat) => PsR 4096 enShade 67 c_ b_) (List.eraseIdx V i21), Cel b3 #[Value.int .u64 (c22 (Int.toNat ((addr : Int) % 4096))).wr, Value.int .i64 (c22 (Int.toNat ((addr : Int) % 4096))).ws.f, Value.int .i64 (c22 (Int.toNat ((addr : Int) % 4096))).ws.pc, Value.int .u64 (c22 (Int.toNat ((addr : Int) % 4096))).rd, Value.int .i64 (c22 (Int.toNat ((addr : Int) % 4096))).rs.f, Value.int .i64 (c22 (Int.toNat ((addr : Int) % 4096))).rs.pc, Value.int .i64 (c22 (Int.toNat ((addr : Int) % 4096))).vec] 31, Cel b1 #[Value.int .u64 x.wr, Value.int .i64 x.ws.f, Value.int .i64 x.ws.pc, Value.int .u64 x.rd, Value.int .i64 x.rs.f, Value.int .i64 x.rs.pc, Value.int .i64 x.vec] 31, Cel m #[Value.map (some b)] 55, mapR b (fun a : Int => Value.int .u32 a) (fun x_ : Nat => Value.pointer (some ⟨x_, 0, none⟩)) (outs V)]) rfl ?_)); clear hA ac hW; intro w30 hW ac hA
           refine ⟨⟨fun h => absurd h (by decide), fun h => absurd h (by decide)⟩, ?_⟩
           refine sr_done (by kernel_rfl) ?_ _
           exact ⟨hA.sub ⟨⟨by kernel_rfl, by kernel_rfl⟩, ⟨by kernel_rfl, by kernel_rfl⟩, ⟨by kernel_rfl, by kernel_rfl⟩, ⟨by kernel_rfl, by kernel_rfl⟩, ⟨by kernel_rfl, by kernel_rfl⟩, ⟨by kernel_rfl, by kernel_rfl⟩, ⟨by kernel_rfl, by kernel_rfl⟩, ⟨by kernel_rfl, by kernel_rfl⟩, ⟨by kernel_rfl, by kernel_rfl⟩, ⟨by kernel_rfl, by kernel_rfl⟩, ⟨by kernel_rfl, by kernel_rfl⟩, ⟨by kernel_rfl, by kernel_rfl⟩, ⟨by kernel_rfl, by kernel_rfl⟩, ⟨by kernel_rfl, by kernel_rfl⟩, ⟨by kernel_rfl, by kernel_rfl⟩, ⟨by kernel_rfl, by kernel_rfl⟩, ⟨by kernel_rfl, by kernel_rfl⟩, ⟨by kernel_rfl, by kernel_rfl⟩, ⟨by kernel_rfl, by kernel_rfl⟩, ⟨by kernel_rfl, by kernel_rfl⟩, ⟨by kernel_rfl, by kernel_rfl⟩, ⟨by kernel_rfl, by kernel_rfl⟩, ⟨by kernel_rfl, by kernel_rfl⟩, ⟨by kernel_rfl, by kernel_rfl⟩, ⟨by kernel_rfl, by kernel_rfl⟩, ⟨by kernel_rfl, by kernel_rfl⟩, ⟨by kernel_rfl, by kernel_rfl⟩, trivial⟩, (hW.pick [0, 1, 2, 3, 4, 5] (by decide) rfl).pickG [] rfl⟩
         clear hA ac hW; rintro ac w31 ⟨hA, hW⟩
         refine thenN ?_
         refine wp_seq ?_
         refine wp_seq ?_
         refine wp_region_lit ?_
         refine st_q (Value.agg #[Value.int .u64 (c22 (Int.toNat ((addr : Int) % 4096))).wr, Value.int .i64 (c22 (Int.toNat ((addr : Int) % 4096))).ws.f, Value.int .i64 (c22 (Int.toNat ((addr : Int) % 4096))).ws.pc, Value.int .u64 (c22 (Int.toNat ((addr : Int) % 4096))).rd, Value.int .i64 (c22 (Int.toNat ((addr : Int) % 4096))).rs.f, Value.int .i64 (c22 (Int.toNat ((addr : Int) % 4096))).rs.pc, Value.int .i64 (c22 (Int.toNat ((addr : Int) % 4096))).vec]) hA hW.cls (Rd.load (b := b3) (i := 0) (by kernel_rfl) (fun _ hw => (hw.1).cel 2 rfl) (by kernel_rfl)) ?_; clear hA ac; intro ac hA
         refine st_s hA (Runs.store (v := Value.agg #[Value.int .u64 (c22 (Int.toNat ((addr : Int) % 4096))).wr, Value.int .i64 (c22 (Int.toNat ((addr : Int) % 4096))).ws.f, Value.int .i64 (c22 (Int.toNat ((addr : Int) % 4096))).ws.pc, Value.int .u64 (c22 (Int.toNat ((addr : Int) % 4096))).rd, Value.int .i64 (c22 (Int.toNat ((addr : Int) % 4096))).rs.f, Value.int .i64 (c22 (Int.toNat ((addr : Int) % 4096))).rs.pc, Value.int .i64 (c22 (Int.toNat ((addr : Int) % 4096))).vec]) (b := b3) (j := 0) (n := 7) (cs' := #[Value.int .u64 (c22 (Int.toNat ((addr : Int) % 4096))).wr, Value.int .i64 (c22 (Int.toNat ((addr : Int) % 4096))).ws.f, Value.int .i64 (c22 (Int.toNat ((addr : Int) % 4096))).ws.pc, Value.int .u64 (c22 (Int.toNat ((addr : Int) % 4096))).rd, Value.int .i64 (c22 (Int.toNat ((addr : Int) % 4096))).rs.f, Value.int .i64 (c22 (Int.toNat ((addr : Int) % 4096))).rs.pc, Value.int .i64 (c22 (Int.toNat ((addr : Int) % 4096))).vec]) (H' := [PsR 4096 enShade 67 (psSet c22 (Int.toNat ((addr : Int) % 4096)) x) bk9, SubR (fun (c_ : Nat → Shade) (b_ : Nat) => PsR 4096 enShade 67 c_ b_) (List.eraseIdx V i21), Cel b3 #[Value.int .u64 (c22 (Int.toNat ((addr : Int) % 4096))).wr, Value.int .i64 (c22 (Int.toNat ((addr : Int) % 4096))).ws.f, Value.int .i64 (c22 (Int.toNat ((addr : Int) % 4096))).ws.pc, Value.int .u64 (c22 (Int.toNat ((addr : Int) % 4096))).rd, Value.int .i64 (c22 (Int.toNat ((addr : Int) % 4096))).rs.f, Value.int .i64 (c22 (Int.toNat ((addr : Int) % 4096))).rs.pc, Value.int .i64 (c22 (Int.toNat ((addr : Int) % 4096))).vec] 31, Cel b1 #[Value.int .u64 x.wr, Value.int .i64 x.ws.f, Value.int .i64 x.ws.pc, Value.int .u64 x.rd, Value.int .i64 x.rs.f, Value.int .i64 x.rs.pc, Value.int .i64 x.vec] 31, Cel m #[Value.map (some b)] 55, mapR b (fun a : Int => Value.int .u32 a) (fun x_ : Nat => Value.pointer (some ⟨x_, 0, none⟩)) (outs V)]) (by kernel_rfl) (by kernel_rfl) (by kernel_rfl) (by kernel_rfl) (by kernel_rfl) hW 2 (by rfl) (Nat.le_of_ble_eq_true (by kernel_rfl)) (by kernel_rfl) (by rfl) ?_); clear hA ac hW; intro w32 hW ac hA
         refine st_p (Value.int .i64 0) hA ?_; clear hA ac; intro ac hA
         refine wpList_nil ?_
         refine thenN ?_
         refine wp_ret ?_
         refine thenR ?_
         refine fwdR ?_
         refine ret2 (v1 := Value.agg #[Value.int .u64 (c22 (Int.toNat ((addr : Int) % 4096))).wr, Value.int .i64 (c22 (Int.toNat ((addr : Int) % 4096))).ws.f, Value.int .i64 (c22 (Int.toNat ((addr : Int) % 4096))).ws.pc, Value.int .u64 (c22 (Int.toNat ((addr : Int) % 4096))).rd, Value.int .i64 (c22 (Int.toNat ((addr : Int) % 4096))).rs.f, Value.int .i64 (c22 (Int.toNat ((addr : Int) % 4096))).rs.pc, Value.int .i64 (c22 (Int.toNat ((addr : Int) % 4096))).vec]) (v2 := Value.int .i64 0) (by rfl) hA (Got.cell (b := b3) (i := 0) hA (by kernel_rfl) (by kernel_rfl) (hW.cel 2 rfl) (by kernel_rfl)) (Got.tmp hA (by kernel_rfl) (by kernel_rfl)) ?_
         clear hA
         have hW := Ws.subClose (f := (fun (c_ : Nat → Shade) (b_ : Nat) => PsR 4096 enShade 67 c_ b_)) (x := psSet c22 (Int.toNat ((addr : Int) % 4096)) x) (hW.pick [0, 1, 2, 3, 4, 5] (by decide) rfl) hi23
         rw [← outs_set (c' := psSet c22 (Int.toNat ((addr : Int) % 4096)) x) hi23] at hW
         replace hW : Ws w (· ∈ (ShR m b V).fp) [SubR (fun (c_ : Nat → Shade) (b_ : Nat) => PsR 4096 enShade 67 c_ b_) (List.set V i21 (((addr : Int) / 4096 : Int), bk9, psSet c22 (Int.toNat ((addr : Int) % 4096)) x)), Cel b3 #[Value.int .u64 (c22 (Int.toNat ((addr : Int) % 4096))).wr, Value.int .i64 (c22 (Int.toNat ((addr : Int) % 4096))).ws.f, Value.int .i64 (c22 (Int.toNat ((addr : Int) % 4096))).ws.pc, Value.int .u64 (c22 (Int.toNat ((addr : Int) % 4096))).rd, Value.int .i64 (c22 (Int.toNat ((addr : Int) % 4096))).rs.f, Value.int .i64 (c22 (Int.toNat ((addr : Int) % 4096))).rs.pc, Value.int .i64 (c22 (Int.toNat ((addr : Int) % 4096))).vec] 31, Cel b1 #[Value.int .u64 x.wr, Value.int .i64 x.ws.f, Value.int .i64 x.ws.pc, Value.int .u64 x.rd, Value.int .i64 x.rs.f, Value.int .i64 x.rs.pc, Value.int .i64 x.vec] 31, Cel m #[Value.map (some b)] 55, mapR b (fun a : Int => Value.int .u32 a) (fun x_ : Nat => Value.pointer (some ⟨x_, 0, none⟩)) (outs (List.set V i21 (((addr : Int) / 4096 : Int), bk9, psSet c22 (Int.toNat ((addr : Int) % 4096)) x)))] [] w32 := hW
         exact ⟨List.set V i21 (((addr : Int) / 4096 : Int), bk9, psSet c22 (Int.toNat ((addr : Int) % 4096)) x), (c22 (Int.toNat ((addr : Int) % 4096))), 0, rfl, by first | rfl | exact h6.symm, by rw [if_pos (by cases h_ : Shade.ok x; (rw [h_] at h6; cases h6); rfl)]; unfold LayR atS; rw [hv24]; exact ⟨⟨_, _, hi23, rfl⟩, rfl⟩, (Ws.pack (K := []) (show Ws w (· ∈ (ShR m b V).fp) ([Cel m #[Value.map (some b)] 55, mapR b (fun a : Int => Value.int .u32 a) (fun x_ : Nat => Value.pointer (some ⟨x_, 0, none⟩)) (outs (List.set V i21 (((addr : Int) / 4096 : Int), bk9, psSet c22 (Int.toNat ((addr : Int) % 4096)) x))), SubR (fun (c_ : Nat → Shade) (b_ : Nat) => PsR 4096 enShade 67 c_ b_) (List.set V i21 (((addr : Int) / 4096 : Int), bk9, psSet c22 (Int.toNat ((addr : Int) % 4096)) x))] ++ []) [] _ from hW.pick [3, 4, 0] (by decide) rfl)).updDone 0 rfl⟩))

set_option maxRecDepth 100000 in
theorem e_sat (m : Nat) (b : Nat) (V : VT22) (addr : Int) (w : World) (ho_p : (ShR m b V).p w) (hl_p : ∀ x_ ∈ (ShR m b V).fp, x_ < w.heap.size) (ha : 0 ≤ addr ∧ addr ≤ 4294967295) : Calls Try.prog 12 #[Value.pointer (some ⟨m, 0, none⟩), Value.int .u32 addr] w (fun e w' => e = .returned ((atS V addr).v) ∧ Fr No w w') := by
 have _hu := ho_p; have _hv := hl_p; clear _hu _hv
 have _hu := ha; clear _hu
 refine enter_E 25 Try.func12 rfl rfl (by kernel_rfl) (L := [(0, Value.pointer (some ⟨m, 0, none⟩)), (1, Value.int .u32 addr)]) (by kernel_rfl) ?_
 intro ac hA
 have hW := Ws.start w No
 have hW := hW.objG (L := [Cel m #[Value.map (some b)] 55, mapR b (fun a : Int => Value.int .u32 a) (fun x_ : Nat => Value.pointer (some ⟨x_, 0, none⟩)) (outs V), SubR (fun (c_ : Nat → Shade) (b_ : Nat) => PsR 4096 enShade 67 c_ b_) V]) ho_p hl_p
 clear ho_p hl_p
 refine wp_seq ?_
 refine wp_region_lit ?_
 refine st_s hA (Runs.cells (fun b => Value.pointer (some ⟨b, 0, none⟩)) #[Value.int .u64 0, Value.int .i64 0, Value.int .i64 0, Value.int .u64 0, Value.int .i64 0, Value.int .i64 0, Value.int .i64 0] 31 (fun _ => by kernel_rfl) hW ?_); clear hA ac hW; intro b1 w2 hW hb1 hfw2 ac hA
 refine wpList_nil ?_
 refine thenN ?_
 refine wp_seq ?_
 refine wp_seq ?_
 rcases hk3 : look (outs V) ((addr : Int) / 4096 : Int) with _ | bk4
 · skip
   first
   | (exfalso; clear hA hW; omega)
   | (
     refine wp_region_lit ?_
     refine st_p (Value.pointer (some ⟨m, 0, none⟩)) hA ?_; clear hA ac; intro ac hA
     refine st_s hA (Runs.callS (v := Value.bool false) (fun _ => by kernel_rfl) (e_snone m b w2 (show _ = _ from (hW).getG 0 rfl)) ?_); clear hA ac; intro  ac hA
     refine st_p (Value.bool false) hA ?_; clear hA ac; intro ac hA
     refine st_p (Value.pointer (some ⟨m, 0, none⟩)) hA ?_; clear hA ac; intro ac hA
     refine st_p (Value.pointer (some ⟨m, 0, none⟩)) hA ?_; clear hA ac; intro ac hA
     refine st_p (Value.pointer (some ⟨m, 0, none⟩)) hA ?_; clear hA ac; intro ac hA
     refine st_q (Value.map (some b)) hA hW.cls (Rd.load (b := m) (i := 0) (by kernel_rfl) (fun _ hw => show _ = _ from (hw.1).getG 0 rfl) (by kernel_rfl)) ?_; clear hA ac; intro ac hA
     refine st_p (Value.int .u32 addr) hA ?_; clear hA ac; intro ac hA
     refine st_s hA (Runs.callN (v := Value.pointer none) (fun _ => by kernel_rfl) hW (e_at_none b (outs V) (addr) w2 ((hW).getG 1 rfl) (by first | omega | assumption) hk3) ?_); clear hA ac hW; intro w5 hW hfw5 ac hA
     refine st_p (Value.bool true) hA ?_; clear hA ac; intro ac hA
     refine st_p (Value.bool true) hA ?_; clear hA ac; intro ac hA
     refine wpList_nil ?_
     refine thenN ?_
     refine wp_cond_true (hA.eval (by kernel_rfl)) ?_
     refine wp_seq ?_
     refine wp_region_lit ?_
     refine st_p (Value.agg #[Value.int .u64 0, Value.int .i64 0, Value.int .i64 0, Value.int .u64 0, Value.int .i64 0, Value.int .i64 0, Value.int .i64 0]) hA ?_; clear hA ac; intro ac hA
     refine st_s hA (Runs.store (v := Value.agg #[Value.int .u64 0, Value.int .i64 0, Value.int .i64 0, Value.int .u64 0, Value.int .i64 0, Value.int .i64 0, Value.int .i64 0]) (b := b1) (j := 0) (n := 7) (cs' := #[Value.int .u64 0, Value.int .i64 0, Value.int .i64 0, Value.int .u64 0, Value.int .i64 0, Value.int .i64 0, Value.int .i64 0]) (H' := [Cel b1 #[Value.int .u64 0, Value.int .i64 0, Value.int .i64 0, Value.int .u64 0, Value.int .i64 0, Value.int .i64 0, Value.int .i64 0] 31]) (by kernel_rfl) (by kernel_rfl) (by kernel_rfl) (by kernel_rfl) (by kernel_rfl) hW 0 (by rfl) (Nat.le_of_ble_eq_true (by kernel_rfl)) (by kernel_rfl) (by rfl) ?_); clear hA ac hW; intro w6 hW ac hA
     refine wpList_nil ?_
     refine thenN ?_
     refine wp_ret ?_
     refine thenR ?_
     refine ret1 (v := Value.agg #[Value.int .u64 0, Value.int .i64 0, Value.int .i64 0, Value.int .u64 0, Value.int .i64 0, Value.int .i64 0, Value.int .i64 0]) (by rfl) hA (Got.cell (b := b1) (i := 0) hA (by kernel_rfl) (by kernel_rfl) (hW.cel 0 rfl) (by kernel_rfl)) ?_
     clear hA
     exact ⟨retv (by unfold atS; rw [outs_none.1 hk3]; rfl), hW.fr⟩)
 · skip
   first
   | (exfalso; clear hA hW; omega)
   | (
     obtain ⟨i7, c8, hi9, hv10⟩ := outs_at hk3
     have hW := hW.subG 2 rfl hi9
     replace hW : Ws w No [Cel b1 #[Value.int .u64 0, Value.int .i64 0, Value.int .i64 0, Value.int .u64 0, Value.int .i64 0, Value.int .i64 0, Value.int .i64 0] 31] [PsR 4096 enShade 67 c8 bk4, Cel m #[Value.map (some b)] 55, mapR b (fun a : Int => Value.int .u32 a) (fun x_ : Nat => Value.pointer (some ⟨x_, 0, none⟩)) (outs V), SubR (fun (c_ : Nat → Shade) (b_ : Nat) => PsR 4096 enShade 67 c_ b_) V] w2 := hW
     refine wp_region_lit ?_
     refine st_p (Value.pointer (some ⟨m, 0, none⟩)) hA ?_; clear hA ac; intro ac hA
     refine st_s hA (Runs.callS (v := Value.bool false) (fun _ => by kernel_rfl) (e_snone m b w2 (show _ = _ from (hW).getG 1 rfl)) ?_); clear hA ac; intro  ac hA
     refine st_p (Value.bool false) hA ?_; clear hA ac; intro ac hA
     refine st_p (Value.pointer (some ⟨m, 0, none⟩)) hA ?_; clear hA ac; intro ac hA
     refine st_p (Value.pointer (some ⟨m, 0, none⟩)) hA ?_; clear hA ac; intro ac hA
     refine st_p (Value.pointer (some ⟨m, 0, none⟩)) hA ?_; clear hA ac; intro ac hA
     refine st_q (Value.map (some b)) hA hW.cls (Rd.load (b := m) (i := 0) (by kernel_rfl) (fun _ hw => show _ = _ from (hw.1).getG 1 rfl) (by kernel_rfl)) ?_; clear hA ac; intro ac hA
     refine st_p (Value.int .u32 addr) hA ?_; clear hA ac; intro ac hA
     refine st_s hA (Runs.callN (v := Value.pointer (some ⟨bk4, 0 + (Int.toNat ((addr : Int) % 4096)) * 7, none⟩)) (fun _ => by kernel_rfl) hW ((by have h_ := e_at_some b (outs V) (addr) w2 ((hW).getG 2 rfl) (by first | omega | assumption) (by rw [hk3]; rfl); rw [hk3, Option.getD_some] at h_; exact h_)) ?_); clear hA ac hW; intro w11 hW hfw11 ac hA
     refine st_p (Value.bool false) hA ?_; clear hA ac; intro ac hA
     refine st_p (Value.bool false) hA ?_; clear hA ac; intro ac hA
     refine wpList_nil ?_
     refine thenN ?_
     refine wp_cond_false (hA.eval (by kernel_rfl)) ?_
     refine wp_skip ?_
     refine thenN ?_
     refine wp_seq ?_
     refine wp_region_lit ?_
     refine st_p (Value.pointer (some ⟨m, 0, none⟩)) hA ?_; clear hA ac; intro ac hA
     refine st_p (Value.pointer (some ⟨m, 0, none⟩)) hA ?_; clear hA ac; intro ac hA
     refine st_p (Value.pointer (some ⟨m, 0, none⟩)) hA ?_; clear hA ac; intro ac hA
     refine st_q (Value.map (some b)) hA hW.cls (Rd.load (b := m) (i := 0) (by kernel_rfl) (fun _ hw => show _ = _ from (hw.1).getG 1 rfl) (by kernel_rfl)) ?_; clear hA ac; intro ac hA
     refine st_p (Value.int .u32 addr) hA ?_; clear hA ac; intro ac hA
     refine st_s hA (Runs.callN (v := Value.pointer (some ⟨bk4, 0 + (Int.toNat ((addr : Int) % 4096)) * 7, none⟩)) (fun _ => by kernel_rfl) hW ((by have h_ := e_at_some b (outs V) (addr) w11 ((hW).getG 2 rfl) (by first | omega | assumption) (by rw [hk3]; rfl); rw [hk3, Option.getD_some] at h_; exact h_)) ?_); clear hA ac hW; intro w12 hW hfw12 ac hA
     refine st_p (Value.pointer (some ⟨bk4, 0 + (Int.toNat ((addr : Int) % 4096)) * 7, none⟩)) hA ?_; clear hA ac; intro ac hA
     refine st_q ((c8 (Int.toNat ((addr : Int) % 4096))).v) hA hW.cls (Rd.load (b := bk4) (i := 0 + (Int.toNat ((addr : Int) % 4096)) * 7) (by kernel_rfl) (fun _ hw => show _ = _ from (hw.1).getG 0 rfl) (by rw [Nat.zero_add]; exact ldv_elem (F := Try.prog.fieldsOf 31) elt_Shade.len (by kernel_rfl) (by kernel_rfl) (by first | omega | (simp; done) | (simp; omega)))) ?_; clear hA ac; intro ac hA
     refine st_s hA (Runs.store (v := (c8 (Int.toNat ((addr : Int) % 4096))).v) (b := b1) (j := 0) (n := 7) (cs' := #[Value.int .u64 (c8 (Int.toNat ((addr : Int) % 4096))).wr, Value.int .i64 (c8 (Int.toNat ((addr : Int) % 4096))).ws.f, Value.int .i64 (c8 (Int.toNat ((addr : Int) % 4096))).ws.pc, Value.int .u64 (c8 (Int.toNat ((addr : Int) % 4096))).rd, Value.int .i64 (c8 (Int.toNat ((addr : Int) % 4096))).rs.f, Value.int .i64 (c8 (Int.toNat ((addr : Int) % 4096))).rs.pc, Value.int .i64 (c8 (Int.toNat ((addr : Int) % 4096))).vec]) (H' := [Cel b1 #[Value.int .u64 (c8 (Int.toNat ((addr : Int) % 4096))).wr, Value.int .i64 (c8 (Int.toNat ((addr : Int) % 4096))).ws.f, Value.int .i64 (c8 (Int.toNat ((addr : Int) % 4096))).ws.pc, Value.int .u64 (c8 (Int.toNat ((addr : Int) % 4096))).rd, Value.int .i64 (c8 (Int.toNat ((addr : Int) % 4096))).rs.f, Value.int .i64 (c8 (Int.toNat ((addr : Int) % 4096))).rs.pc, Value.int .i64 (c8 (Int.toNat ((addr : Int) % 4096))).vec] 31]) (by kernel_rfl) (by kernel_rfl) (by kernel_rfl) (by kernel_rfl) (by kernel_rfl) hW 0 (by rfl) (Nat.le_of_ble_eq_true (by kernel_rfl)) (by kernel_rfl) (by rfl) ?_); clear hA ac hW; intro w13 hW ac hA
     refine wpList_nil ?_
     refine thenN ?_
     refine wp_ret ?_
     refine ret1 (v := Value.agg #[Value.int .u64 (c8 (Int.toNat ((addr : Int) % 4096))).wr, Value.int .i64 (c8 (Int.toNat ((addr : Int) % 4096))).ws.f, Value.int .i64 (c8 (Int.toNat ((addr : Int) % 4096))).ws.pc, Value.int .u64 (c8 (Int.toNat ((addr : Int) % 4096))).rd, Value.int .i64 (c8 (Int.toNat ((addr : Int) % 4096))).rs.f, Value.int .i64 (c8 (Int.toNat ((addr : Int) % 4096))).rs.pc, Value.int .i64 (c8 (Int.toNat ((addr : Int) % 4096))).vec]) (by rfl) hA (Got.cell (b := b1) (i := 0) hA (by kernel_rfl) (by kernel_rfl) (hW.cel 0 rfl) (by kernel_rfl)) ?_
     clear hA
     exact ⟨retv (by unfold atS; rw [hv10]; rfl), hW.fr⟩)

end Go.Proofs.Ytcgcippmbeileaa.L
