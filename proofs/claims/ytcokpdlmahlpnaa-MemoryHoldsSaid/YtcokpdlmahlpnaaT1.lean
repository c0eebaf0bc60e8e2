/- Contracts, walked by program over the engine's laws. -/
import Derived.Test.YtcokpdlmahlpnaaProg
import Derived.Test.YtcokpdlmahlpnaaE17
namespace Go.Proofs.Ytcokpdlmahlpnaa.L
open Go.RowKit

structure Cell6 where
  addr : Int
  word : Int
deriving DecidableEq
def Cell6.v (x : Cell6) : Value := .agg #[.int .u32 x.addr, .int .u32 x.word]
def enCell6 (x : Cell6) : List Value := [.int .u32 x.addr, .int .u32 x.word]
def enU4 (x : Int) : List Value := [.int .u32 x]
theorem elt_U4 : Elt Try.prog 28 1 enU4 := ⟨⟨Value.int .u32 0, 4, by kernel_rfl, rfl, by decide⟩, by decide, fun _ => rfl, fun x u hu => List.all_eq_true.1 (show (enU4 x).all (·.oneCell') = true from rfl) u hu⟩
theorem elt_Cell6 : Elt Try.prog 30 2 enCell6 := ⟨⟨Value.agg #[Value.int .u32 0, Value.int .u32 0], 8, by kernel_rfl, rfl, by decide⟩, by decide, fun _ => rfl, fun x u hu => List.all_eq_true.1 (show (enCell6 x).all (·.oneCell') = true from rfl) u hu⟩
theorem page_zero (w : World) : (Instr.build 64 #[]).run Try.prog w = .ok (.agg (pgA .u32 4096 fun _ => 0)) w := by kernel_rfl
theorem natvalK {ρ : Operand → Value} {x : Operand} {kk : IntKind} {k : Int} (h : ρ x = .int kk k) (h0 : 0 ≤ k) : ρ x = .int kk ((k.toNat : Nat) : Int) := by rw [h, Int.toNat_of_nonneg h0]
def pgN (a : Int) : Int := a / 4096
def pgI (a : Int) : Int := a % 4096
def MemR (m b : Nat) (V : List (Int × Nat × (Nat → Int))) : Res := allR [Cel m #[Value.map (some b)] 54, mapR b (fun a : Int => Value.int .u32 a) (fun x_ : Nat => Value.pointer (some ⟨x_, 0, none⟩)) (outs V), SubR (fun (c_ : Nat → Int) (b_ : Nat) => PgR .u32 4096 64 c_ b_) V]
abbrev VT6 : Type := List (Int × Nat × (Nat → Int))
/-- The pages of a memory: the map, the pages. -/
def PgsR (b : Nat) (V : VT6) : Res := allR [mapR b (fun a : Int => Value.int .u32 a) (fun x_ : Nat => Value.pointer (some ⟨x_, 0, none⟩)) (outs V), SubR (fun (c_ : Nat → Int) (b_ : Nat) => PgR .u32 4096 64 c_ b_) V]
/-- A word is put. -/
def PutR (V : VT6) (a w : Int) (V' : VT6) : Prop :=
  match look (vals V) (pgN a) with
  | none => if w = 0 then V' = V else ∃ b, V' = V ++ [(pgN a, b, pgSet (fun _ => 0) (pgI a).toNat w)]
  | some f => ∃ i b, V[i]? = some (pgN a, b, f) ∧ (if w = 0 ∧ pgEq 4096 (pgSet f (pgI a).toNat w) (fun _ => 0) = true then V' = delV (V.set i (pgN a, b, pgSet f (pgI a).toNat w)) (pgN a) else V' = V.set i (pgN a, b, pgSet f (pgI a).toNat w))
set_option maxRecDepth 100000 in
theorem e_at (a : Int) (w : World) (ha : 0 ≤ a ∧ a ≤ 4294967295) : Calls Try.prog 41 #[Value.int .u32 a] w (fun e w' => e = .returned (Value.tuple #[Value.int .u32 (pgN a), Value.int .u32 (pgI a)]) ∧ Fr No w w') := by
 have _hu := ha; clear _hu
 refine enter_E 8 Try.func41 rfl rfl (by kernel_rfl) (L := [(0, Value.int .u32 a)]) (by kernel_rfl) ?_
 intro ac hA
 have hW := Ws.start w No
 refine wp_seq ?_
 refine wp_region_lit ?_
 refine st_rd (v := Value.int .u32 0) hA (by kernel_rfl) (by kernel_rfl) (by kernel_rfl) hW.cls (Rd.pure fun _ => by kernel_rfl) ?_; clear hA ac; intro ac hA
 refine st_rd (v := Value.int .u32 0) hA (by kernel_rfl) (by kernel_rfl) (by kernel_rfl) hW.cls (Rd.pure fun _ => by kernel_rfl) ?_; clear hA ac; intro ac hA
 refine wpList_nil ?_
 refine thenN ?_
 refine wp_seq ?_
 refine wp_region_lit ?_
 refine st_rd (v := Value.int .u32 a) hA (by kernel_rfl) (by kernel_rfl) (by kernel_rfl) hW.cls (Rd.pure fun _ => by kernel_rfl) ?_; clear hA ac; intro ac hA
 refine st_rd (v := Value.int .u32 ((a : Int) / 4096)) hA (by kernel_rfl) (by kernel_rfl) (by kernel_rfl) hW.cls (Rd.pureE (v0 := Value.int .u32 (IntKind.u32.wrap (Int.tdiv (a : Int) 4096))) (fun _ => by kernel_rfl) (congrArg (Value.int .u32) ((congrArg IntKind.u32.wrap (quo_ (x := a) (by omega))).trans (w_u32 (by omega) (by omega))))) ?_; clear hA ac; intro ac hA
 refine st_rd (v := Value.int .u32 a) hA (by kernel_rfl) (by kernel_rfl) (by kernel_rfl) hW.cls (Rd.pure fun _ => by kernel_rfl) ?_; clear hA ac; intro ac hA
 refine st_rd (v := Value.int .u32 ((a : Int) % 4096)) hA (by kernel_rfl) (by kernel_rfl) (by kernel_rfl) hW.cls (Rd.pureE (v0 := Value.int .u32 (Int.tmod (a : Int) 4096)) (fun _ => by kernel_rfl) (congrArg (Value.int .u32) (rem_ (x := a) (by omega)))) ?_; clear hA ac; intro ac hA
 refine st_rd (v := Value.int .u32 ((a : Int) / 4096)) hA (by kernel_rfl) (by kernel_rfl) (by kernel_rfl) hW.cls (Rd.pure fun _ => by kernel_rfl) ?_; clear hA ac; intro ac hA
 refine st_rd (v := Value.int .u32 ((a : Int) % 4096)) hA (by kernel_rfl) (by kernel_rfl) (by kernel_rfl) hW.cls (Rd.pure fun _ => by kernel_rfl) ?_; clear hA ac; intro ac hA
 refine wpList_nil ?_
 refine thenN ?_
 refine wp_ret ?_
 refine ret2 (v1 := Value.int .u32 ((a : Int) / 4096)) (v2 := Value.int .u32 ((a : Int) % 4096)) (by rfl) hA (Got.tmp hA (by kernel_rfl) (by kernel_rfl)) (Got.tmp hA (by kernel_rfl) (by kernel_rfl)) ?_
 clear hA
 exact ⟨retv (by rfl), hW.fr⟩

set_option maxRecDepth 100000 in
theorem e_mnew  (w : World)  : Calls Try.prog 9 #[] w (fun e w' => ∃ np : Nat, ∃ nb : Nat, e = .returned (Value.pointer (some ⟨np, 0, none⟩)) ∧ Made (MemR np nb ([] : List (Int × Nat × (Nat → Int)))) w w') := by
 refine enter_E 4 Try.func9 rfl rfl (by kernel_rfl) (L := []) (by kernel_rfl) ?_
 intro ac hA
 have hW := Ws.start w No
 refine wp_seq ?_
 refine wp_region_lit ?_
 refine st_rd (v := Value.pointer none) hA (by kernel_rfl) (by kernel_rfl) (by kernel_rfl) hW.cls (Rd.pure fun _ => by kernel_rfl) ?_; clear hA ac; intro ac hA
 refine wpList_nil ?_
 refine thenN ?_
 refine wp_seq ?_
 refine wp_region_lit ?_
 refine st hA (by kernel_rfl) (by kernel_rfl) (by kernel_rfl) (Runs.makeMap (fun a : Int => Value.int .u32 a) (fun x_ : Nat => Value.pointer (some ⟨x_, 0, none⟩)) hW ?_); clear hA ac hW; intro b1 w2 hW hb1 hfw2 ac hA
 refine st_rd (v := Value.agg #[Value.map (some b1)]) hA (by kernel_rfl) (by kernel_rfl) (by kernel_rfl) hW.cls (Rd.pure fun _ => by kernel_rfl) ?_; clear hA ac; intro ac hA
 refine st hA (by kernel_rfl) (by kernel_rfl) (by kernel_rfl) (Runs.cells (fun b => Value.pointer (some ⟨b, 0, none⟩)) #[Value.map (some b1)] 54 (fun _ => by kernel_rfl) hW ?_); clear hA ac hW; intro b3 w4 hW hb3 hfw4 ac hA
 refine st_rd (v := Value.pointer (some ⟨b3, 0, none⟩)) hA (by kernel_rfl) (by kernel_rfl) (by kernel_rfl) hW.cls (Rd.pure fun _ => by kernel_rfl) ?_; clear hA ac; intro ac hA
 refine wpList_nil ?_
 refine thenN ?_
 refine wp_ret ?_
 refine ret1 (v := Value.pointer (some ⟨b3, 0, none⟩)) (by rfl) hA (Got.tmp hA (by kernel_rfl) (by kernel_rfl)) ?_
 clear hA
 have hW := SubR.nil (f := (fun (c_ : Nat → Int) (b_ : Nat) => PgR .u32 4096 64 c_ b_)) (κ := Int) hW
 replace hW : Ws w No [SubR (fun (c_ : Nat → Int) (b_ : Nat) => PgR .u32 4096 64 c_ b_) ([] : List (Int × Nat × (Nat → Int))), Cel b3 #[Value.map (some b1)] 54, mapR b1 (fun a : Int => Value.int .u32 a) (fun x_ : Nat => Value.pointer (some ⟨x_, 0, none⟩)) ([])] [] w4 := hW
 exact ⟨b3, b1, rfl, (Ws.pack (K := []) (show Ws w No ([Cel b3 #[Value.map (some b1)] 54, mapR b1 (fun a : Int => Value.int .u32 a) (fun x_ : Nat => Value.pointer (some ⟨x_, 0, none⟩)) ([]), SubR (fun (c_ : Nat → Int) (b_ : Nat) => PgR .u32 4096 64 c_ b_) ([] : List (Int × Nat × (Nat → Int)))] ++ []) [] _ from hW.pick [1, 2, 0] (by decide) rfl)).madeDone 0 rfl⟩

set_option maxRecDepth 100000 in
theorem e_pempty (p : Nat) (f : Nat → Int) (w : World) (ho_p : w.heap[p]? = some (.cells (pgA .u32 4096 f) 64 (0, 0))) : Calls Try.prog 42 #[Value.pointer (some ⟨p, 0, none⟩)] w (fun e w' => e = .returned (Value.bool (pgEq 4096 f (fun _ => 0))) ∧ Fr No w w') := by
 have _hu := ho_p; clear _hu
 refine enter_E 8 Try.func42 rfl rfl (by kernel_rfl) (L := [(0, Value.pointer (some ⟨p, 0, none⟩))]) (by kernel_rfl) ?_
 intro ac hA
 have hW := Ws.start w No
 have hW := hW.celG ho_p
 refine wp_seq ?_
 refine wp_region_lit ?_
 refine st_rd (v := Value.bool false) hA (by kernel_rfl) (by kernel_rfl) (by kernel_rfl) hW.cls (Rd.pure fun _ => by kernel_rfl) ?_; clear hA ac; intro ac hA
 refine wpList_nil ?_
 refine thenN ?_
 refine wp_seq ?_
 refine wp_region_lit ?_
 refine st_rd (v := Value.pointer (some ⟨p, 0, none⟩)) hA (by kernel_rfl) (by kernel_rfl) (by kernel_rfl) hW.cls (Rd.pure fun _ => by kernel_rfl) ?_; clear hA ac; intro ac hA
 refine st_rd (v := Value.pointer (some ⟨p, 0, none⟩)) hA (by kernel_rfl) (by kernel_rfl) (by kernel_rfl) hW.cls (Rd.pure fun _ => by kernel_rfl) ?_; clear hA ac; intro ac hA
 refine st_rd (v := Value.agg (pgA .u32 4096 f)) hA (by kernel_rfl) (by kernel_rfl) (by kernel_rfl) hW.cls (Rd.load (b := p) (i := 0) (by kernel_rfl) (fun _ hw => show _ = _ from (hw.1).getG 0 rfl) (ldv_page (e := 28) (by kernel_rfl) (by kernel_rfl))) ?_; clear hA ac; intro ac hA
 refine st_rd (v := Value.agg (pgA .u32 4096 (fun _ => 0))) hA (by kernel_rfl) (by kernel_rfl) (by kernel_rfl) hW.cls (Rd.pure fun _ => by kernel_rfl) ?_; clear hA ac; intro ac hA
 refine st_rd (v := Value.bool (pgEq 4096 f (fun _ => 0))) hA (by kernel_rfl) (by kernel_rfl) (by kernel_rfl) hW.cls (Rd.eqS (u := Value.agg (pgA .u32 4096 f)) (v := Value.agg (pgA .u32 4096 (fun _ => 0))) (by kernel_rfl) (by kernel_rfl) rfl rfl (by kernel_rfl) (fun w => run_page_eq 9998 (e := 28) (by kernel_rfl) (by kernel_rfl) (fun _ => by kernel_rfl) w)) ?_; clear hA ac; intro ac hA
 refine st_rd (v := Value.bool (pgEq 4096 f (fun _ => 0))) hA (by kernel_rfl) (by kernel_rfl) (by kernel_rfl) hW.cls (Rd.pure fun _ => by kernel_rfl) ?_; clear hA ac; intro ac hA
 refine wpList_nil ?_
 refine thenN ?_
 refine wp_ret ?_
 refine ret1 (v := Value.bool (pgEq 4096 f (fun _ => 0))) (by rfl) hA (Got.tmp hA (by kernel_rfl) (by kernel_rfl)) ?_
 clear hA
 exact ⟨retv (by rfl), hW.fr⟩

set_option maxRecDepth 100000 in
theorem e_word (b : Nat) (V : VT6) (a : Int) (w : World) (ho_p : (mapR b (fun a : Int => Value.int .u32 a) (fun x_ : Nat => Value.pointer (some ⟨x_, 0, none⟩)) (outs V)).p w) (hs_p : (SubR (fun (c_ : Nat → Int) (b_ : Nat) => PgR .u32 4096 64 c_ b_) V).p w) (hl_p : ∀ x_ ∈ (SubR (fun (c_ : Nat → Int) (b_ : Nat) => PgR .u32 4096 64 c_ b_) V).fp, x_ < w.heap.size) (ha : 0 ≤ a ∧ a ≤ 4294967295) : Calls Try.prog 28 #[Value.map (some b), Value.int .u32 a] w (fun e w' => e = .returned (Value.int .u32 (((look (vals V) (pgN a)).map fun f => f (pgI a).toNat).getD 0)) ∧ Fr No w w') := by
 have _hu := ho_p; clear _hu
 have _hu := ha; clear _hu
 refine enter_E 23 Try.func28 rfl rfl (by kernel_rfl) (L := [(0, Value.map (some b)), (1, Value.int .u32 a)]) (by kernel_rfl) ?_
 intro ac hA
 have hW := Ws.start w No
 have hW := hW.mapG ho_p
 have hW := hW.addG (SubR (fun (c_ : Nat → Int) (b_ : Nat) => PgR .u32 4096 64 c_ b_) V) hs_p hl_p (by simp)
 refine wp_seq ?_
 refine wp_region_lit ?_
 refine st_rd (v := Value.int .u32 0) hA (by kernel_rfl) (by kernel_rfl) (by kernel_rfl) hW.cls (Rd.pure fun _ => by kernel_rfl) ?_; clear hA ac; intro ac hA
 refine wpList_nil ?_
 refine thenN ?_
 refine wp_seq ?_
 have hpi : 0 ≤ pgI a ∧ pgI a < 4096 ∧ 0 ≤ pgN a ∧ pgN a ≤ 1048575 := by unfold pgI pgN; omega
 refine wp_region_lit ?_
 refine st_rd (v := Value.int .u32 a) hA (by kernel_rfl) (by kernel_rfl) (by kernel_rfl) hW.cls (Rd.pure fun _ => by kernel_rfl) ?_; clear hA ac; intro ac hA
 refine st hA (by kernel_rfl) (by kernel_rfl) (by kernel_rfl) (Runs.callN (v := Value.tuple #[Value.int .u32 (pgN (a)), Value.int .u32 (pgI (a))]) (fun _ => by kernel_rfl) hW (e_at (a) w (by first | omega | (simp; done))) ?_); clear hA ac hW; intro w1 hW hfw1 ac hA
 refine st_rd (v := Value.tuple #[Value.int .u32 (pgN (a)), Value.int .u32 (pgI (a))]) hA (by kernel_rfl) (by kernel_rfl) (by kernel_rfl) hW.cls (Rd.pure fun _ => by kernel_rfl) ?_; clear hA ac; intro ac hA
 refine st_rd (v := Value.int .u32 (pgN (a))) hA (by kernel_rfl) (by kernel_rfl) (by kernel_rfl) hW.cls (Rd.pure fun _ => by kernel_rfl) ?_; clear hA ac; intro ac hA
 refine st_rd (v := Value.int .u32 (pgI (a))) hA (by kernel_rfl) (by kernel_rfl) (by kernel_rfl) hW.cls (Rd.pure fun _ => by kernel_rfl) ?_; clear hA ac; intro ac hA
 refine st_rd (v := Value.int .u32 (pgN (a))) hA (by kernel_rfl) (by kernel_rfl) (by kernel_rfl) hW.cls (Rd.pure fun _ => by kernel_rfl) ?_; clear hA ac; intro ac hA
 refine st_rd (v := Value.int .u32 (pgI (a))) hA (by kernel_rfl) (by kernel_rfl) (by kernel_rfl) hW.cls (Rd.pure fun _ => by kernel_rfl) ?_; clear hA ac; intro ac hA
 refine wpList_nil ?_
 refine thenN ?_
 refine wp_seq ?_
 refine wp_seq ?_
 refine wp_region_lit ?_
 refine st_rd (v := Value.map (some b)) hA (by kernel_rfl) (by kernel_rfl) (by kernel_rfl) hW.cls (Rd.pure fun _ => by kernel_rfl) ?_; clear hA ac; intro ac hA
 refine st_rd (v := Value.int .u32 (pgN (a))) hA (by kernel_rfl) (by kernel_rfl) (by kernel_rfl) hW.cls (Rd.pure fun _ => by kernel_rfl) ?_; clear hA ac; intro ac hA
 rcases hk2 : look (outs V) (pgN (a) : Int) with _ | bk3
 · skip
   first
   | (exfalso; clear hA hW; omega)
   | (
     refine st_rd (v := Value.pointer none) hA (by kernel_rfl) (by kernel_rfl) (by kernel_rfl) hW.cls ((Rd.lookup (k := 28) (e := 62) (ek := (fun a : Int => Value.int .u32 a)) (ev := (fun x_ : Nat => Value.pointer (some ⟨x_, 0, none⟩))) (m := (outs V)) (z := Value.pointer none) (pgN (a) : Int) false (by kernel_rfl) (by kernel_rfl) (KeyE.int (by kernel_rfl)) (by kernel_rfl) (fun _ => by kernel_rfl) (fun _ hw => (hw.1).getG 1 rfl)).cast (by rw [hk2]; rfl)) ?_; clear hA ac; intro ac hA
     refine st_rd (v := Value.bool true) hA (by kernel_rfl) (by kernel_rfl) (by kernel_rfl) hW.cls (Rd.pure fun _ => by kernel_rfl) ?_; clear hA ac; intro ac hA
     refine wpList_nil ?_
     refine thenN ?_
     refine wp_cond_true (hA.eval (by kernel_rfl)) ?_
     refine wp_seq ?_
     refine wp_region_lit ?_
     refine st_rd (v := Value.int .u32 0) hA (by kernel_rfl) (by kernel_rfl) (by kernel_rfl) hW.cls (Rd.pure fun _ => by kernel_rfl) ?_; clear hA ac; intro ac hA
     refine wpList_nil ?_
     refine thenN ?_
     refine wp_ret ?_
     refine thenR ?_
     refine ret1 (v := Value.int .u32 0) (by rfl) hA (Got.tmp hA (by kernel_rfl) (by kernel_rfl)) ?_
     clear hA
     exact ⟨retv (by rw [outs_none.1 hk2]; rfl), hW.fr⟩)
 · skip
   first
   | (exfalso; clear hA hW; omega)
   | (
     obtain ⟨i4, c5, hi6, hv7⟩ := outs_at hk2
     have hW := hW.subG 0 rfl hi6
     replace hW : Ws w No [] [PgR .u32 4096 64 c5 bk3, SubR (fun (c_ : Nat → Int) (b_ : Nat) => PgR .u32 4096 64 c_ b_) V, mapR b (fun a : Int => Value.int .u32 a) (fun x_ : Nat => Value.pointer (some ⟨x_, 0, none⟩)) (outs V)] w1 := hW
     refine st_rd (v := Value.pointer (some ⟨bk3, 0, none⟩)) hA (by kernel_rfl) (by kernel_rfl) (by kernel_rfl) hW.cls ((Rd.lookup (k := 28) (e := 62) (ek := (fun a : Int => Value.int .u32 a)) (ev := (fun x_ : Nat => Value.pointer (some ⟨x_, 0, none⟩))) (m := (outs V)) (z := Value.pointer none) (pgN (a) : Int) false (by kernel_rfl) (by kernel_rfl) (KeyE.int (by kernel_rfl)) (by kernel_rfl) (fun _ => by kernel_rfl) (fun _ hw => (hw.1).getG 2 rfl)).cast (by rw [hk2]; rfl)) ?_; clear hA ac; intro ac hA
     refine st_rd (v := Value.bool false) hA (by kernel_rfl) (by kernel_rfl) (by kernel_rfl) hW.cls (Rd.pure fun _ => by kernel_rfl) ?_; clear hA ac; intro ac hA
     refine wpList_nil ?_
     refine thenN ?_
     refine wp_cond_false (hA.eval (by kernel_rfl)) ?_
     refine wp_skip ?_
     refine thenN ?_
     refine wp_seq ?_
     refine wp_region_lit ?_
     refine st_rd (v := Value.map (some b)) hA (by kernel_rfl) (by kernel_rfl) (by kernel_rfl) hW.cls (Rd.pure fun _ => by kernel_rfl) ?_; clear hA ac; intro ac hA
     refine st_rd (v := Value.int .u32 (pgN (a))) hA (by kernel_rfl) (by kernel_rfl) (by kernel_rfl) hW.cls (Rd.pure fun _ => by kernel_rfl) ?_; clear hA ac; intro ac hA
     refine st_rd (v := Value.pointer (some ⟨bk3, 0, none⟩)) hA (by kernel_rfl) (by kernel_rfl) (by kernel_rfl) hW.cls ((Rd.lookup (k := 28) (e := 62) (ek := (fun a : Int => Value.int .u32 a)) (ev := (fun x_ : Nat => Value.pointer (some ⟨x_, 0, none⟩))) (m := (outs V)) (z := Value.pointer none) (pgN (a) : Int) false (by kernel_rfl) (by kernel_rfl) (KeyE.int (by kernel_rfl)) (by kernel_rfl) (fun _ => by kernel_rfl) (fun _ hw => (hw.1).getG 2 rfl)).cast (by rw [hk2]; rfl)) ?_; clear hA ac; intro ac hA
     refine st_rd (v := Value.int .u32 (pgI (a))) hA (by kernel_rfl) (by kernel_rfl) (by kernel_rfl) hW.cls (Rd.pure fun _ => by kernel_rfl) ?_; clear hA ac; intro ac hA
     refine st_rd (v := Value.pointer (some ⟨bk3, 0, none⟩)) hA (by kernel_rfl) (by kernel_rfl) (by kernel_rfl) hW.cls (Rd.pure fun _ => by kernel_rfl) ?_; clear hA ac; intro ac hA
     refine st_rd (v := Value.pointer (some ⟨bk3, 0 + (Int.toNat (pgI (a))) * 1, none⟩)) hA (by kernel_rfl) (by kernel_rfl) (by kernel_rfl) hW.cls (Rd.indexArr (e := 28) (sz := 1) (m := 4096) (b := bk3) (off := 0) (i := (Int.toNat (pgI (a)))) (kk := .u32) (by kernel_rfl) (natvalK (k := pgI (a)) (by kernel_rfl) (by omega)) (by first | omega | (simp; done) | (simp; omega)) (fun _ => by kernel_rfl) (fun _ => by kernel_rfl)) ?_; clear hA ac; intro ac hA
     refine st_rd (v := Value.int .u32 (c5 (Int.toNat (pgI (a))))) hA (by kernel_rfl) (by kernel_rfl) (by kernel_rfl) hW.cls (Rd.load (b := bk3) (i := 0 + (Int.toNat (pgI (a))) * 1) (by kernel_rfl) (fun _ hw => show _ = _ from (hw.1).getG 0 rfl) (by rw [show 0 + (Int.toNat (pgI (a))) * 1 = (Int.toNat (pgI (a))) from by omega]; exact ldv_one (kk := .u32) (by kernel_rfl) (by first | omega | (simp; done) | (simp; omega)))) ?_; clear hA ac; intro ac hA
     refine st_rd (v := Value.int .u32 (c5 (Int.toNat (pgI (a))))) hA (by kernel_rfl) (by kernel_rfl) (by kernel_rfl) hW.cls (Rd.pure fun _ => by kernel_rfl) ?_; clear hA ac; intro ac hA
     refine wpList_nil ?_
     refine thenN ?_
     refine wp_ret ?_
     refine ret1 (v := Value.int .u32 (c5 (Int.toNat (pgI (a))))) (by rfl) hA (Got.tmp hA (by kernel_rfl) (by kernel_rfl)) ?_
     clear hA
     exact ⟨retv (by rw [hv7]; rfl), hW.fr⟩)

end Go.Proofs.Ytcokpdlmahlpnaa.L
