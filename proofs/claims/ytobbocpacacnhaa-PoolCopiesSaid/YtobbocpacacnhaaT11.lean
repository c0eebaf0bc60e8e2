/- Contracts, walked by program over the engine's laws. -/
import Derived.Test.YtobbocpacacnhaaProg
import Derived.Test.YtobbocpacacnhaaT10P
namespace Go.Proofs.Ytobbocpacacnhaa.L
open Go.RowKit

structure One where
  id : Int
  m : Mark
deriving DecidableEq
def One.v (x : One) : Value := .agg #[.int .i64 x.id, .int .u64 x.m.clock, .int .i64 x.m.site.f, .int .i64 x.m.site.pc]
def enOne (x : One) : List Value := [.int .i64 x.id, .int .u64 x.m.clock, .int .i64 x.m.site.f, .int .i64 x.m.site.pc]
structure VecE where
  there : Bool
  l : List One
  l_A : Option Addr
  l_c : Nat
def VecE.v (x : VecE) : Value := .agg #[.bool x.there, .slice x.l_A x.l.length x.l_c]
def enVecE (x : VecE) : List Value := [.bool x.there, .slice x.l_A x.l.length x.l_c]
theorem elt_One : Elt Try.prog 90 4 enOne := ⟨⟨Value.agg #[Value.int .i64 0, Value.int .u64 0, Value.int .i64 0, Value.int .i64 0], 32, by kernel_rfl, rfl, by decide⟩, by decide, fun _ => rfl, fun x u hu => List.all_eq_true.1 (show (enOne x).all (·.oneCell') = true from rfl) u hu⟩
theorem elt_VecE : Elt Try.prog 112 2 enVecE := ⟨⟨Value.agg #[Value.bool false, Value.slice none 0 0], 32, by kernel_rfl, rfl, by decide⟩, by decide, fun _ => rfl, fun x u hu => List.all_eq_true.1 (show (enVecE x).all (·.oneCell') = true from rfl) u hu⟩
def innerVecE (x : VecE) : Res := roR x.l_A 4 enOne x.l
def capVecE (x : VecE) : Prop := x.l.length ≤ x.l_c
theorem nest_ltVecE {V : List VecE} {w : World} (h : (nestR innerVecE V).p w) : ∀ b ∈ (nestR innerVecE V).fp, b < w.heap.size := nest_lt (A := fun x : VecE => x.l_A) (sz := fun _ => 4) (L := fun x : VecE => x.l) (en := enOne) h

abbrev PV : Type := List (Bool × List One)
def pv (V : List VecE) : PV := V.map fun x => (x.there, x.l)
def thereP (P : PV) (h : Int) : Bool := decide (1 ≤ h) && decide (h ≤ P.length) && ((P[(h - 1).toNat]?).map (·.1)).getD false
def allP (P : PV) (h : Int) : List One := if thereP P h = true then ((P[(h - 1).toNat]?).map (·.2)).getD [] else []
def withP (P : PV) (h : Int) (v : Bool × List One) : PV := (P ++ List.replicate (h.toNat - P.length) (false, [])).set (h - 1).toNat v
theorem pv_len (V : List VecE) : (pv V).length = V.length := by simp [pv]
theorem pv_at {V : List VecE} {i : Nat} {y : VecE} (h : V[i]? = some y) : (pv V)[i]? = some (y.there, y.l) := by simp [pv, h]
theorem pv_app (V W : List VecE) : pv (V ++ W) = pv V ++ pv W := by simp [pv]
theorem pv_set (V : List VecE) (i : Nat) (y : VecE) : pv (V.set i y) = (pv V).set i (y.there, y.l) := by simp [pv, List.map_set]
theorem there_at {V : List VecE} {h : Int} {y : VecE} (h1 : 1 ≤ h) (h2 : h ≤ V.length) (hy : V[(h - 1).toNat]? = some y) : thereP (pv V) h = y.there := by
  unfold thereP; rw [pv_at hy, pv_len, decide_eq_true h1, decide_eq_true h2]; rfl
theorem there_no {V : List VecE} {h : Int} (h1 : ¬ (1 ≤ h ∧ h ≤ V.length)) : thereP (pv V) h = false := by
  unfold thereP; rw [pv_len]
  by_cases q : 1 ≤ h
  · rw [decide_eq_false (p := h ≤ V.length) (fun e => h1 ⟨q, e⟩)]; simp
  · rw [decide_eq_false q]; simp
set_option maxRecDepth 100000 in
theorem e_rthere (A_V : Option Addr) (c_V : Nat) (V : List VecE) (h : Int) (w : World) (hr_V : RowAt w A_V 2 enVecE V) (hc_V : V.length ≤ c_V) (hn_V : (nestR innerVecE V).p w) (hk_V : ∀ x_ ∈ V, capVecE x_) (hl : V.length ≤ 100000) : Calls Try.prog 41 #[Value.agg #[Value.slice A_V V.length c_V], Value.int .i64 h] w (fun e w' => e = .returned (Value.bool (thereP (pv V) h)) ∧ Fr No w w') := by
 have _hu := hc_V; have _hv := hr_V; clear _hu _hv
 have _hu := hk_V; have _hv := hn_V; clear _hu _hv
 have _hu := hl; clear _hu
 refine enter_E 23 Try.func41 rfl rfl (by kernel_rfl) (L := [(0, Value.agg #[Value.slice A_V V.length c_V]), (1, Value.int .i64 h)]) (by kernel_rfl) ?_
 intro ac hA
 have hW := Ws.start w No
 have hW := hW.arg hr_V
 have hW := hW.addG _ hn_V (nest_ltVecE hn_V) (by simp)
 refine wp_seq ?_
 refine wp_region_lit ?_
 refine st hA (by kernel_rfl) (by kernel_rfl) (by kernel_rfl) (Runs.cells (fun b => Value.pointer (some ⟨b, 0, none⟩)) #[Value.slice A_V V.length c_V] 51 (fun _ => by kernel_rfl) hW ?_); clear hA ac hW; intro b1 w2 hW hb1 hfw2 ac hA
 refine st_rd (v := Value.bool false) hA (by kernel_rfl) (by kernel_rfl) (by kernel_rfl) hW.cls (Rd.pure fun _ => by kernel_rfl) ?_; clear hA ac; intro ac hA
 refine wpList_nil ?_
 refine thenN ?_
 refine wp_seq ?_
 refine wp_region_lit ?_
 refine st_rd (v := Value.int .i64 h) hA (by kernel_rfl) (by kernel_rfl) (by kernel_rfl) hW.cls (Rd.pure fun _ => by kernel_rfl) ?_; clear hA ac; intro ac hA
 refine st_rd (v := Value.bool (decide ((h : Int) ≥ (1 : Int)))) hA (by kernel_rfl) (by kernel_rfl) (by kernel_rfl) hW.cls (Rd.pure fun _ => by kernel_rfl) ?_; clear hA ac; intro ac hA
 refine st_rd (v := Value.bool (decide ((h : Int) ≥ (1 : Int)))) hA (by kernel_rfl) (by kernel_rfl) (by kernel_rfl) hW.cls (Rd.pure fun _ => by kernel_rfl) ?_; clear hA ac; intro ac hA
 rcases Bool.eq_false_or_eq_true (decide ((h : Int) ≥ (1 : Int))) with h3 | h3
 · skip
   rw [h3] at hA
   have h3 := of_decide_eq_true h3
   first
   | (exfalso; clear hA hW; omega)
   | (
     refine st_rd (v := Value.int .i64 h) hA (by kernel_rfl) (by kernel_rfl) (by kernel_rfl) hW.cls (Rd.pure fun _ => by kernel_rfl) ?_; clear hA ac; intro ac hA
     refine st_rd (v := Value.pointer (some ⟨b1, 0, none⟩)) hA (by kernel_rfl) (by kernel_rfl) (by kernel_rfl) hW.cls (Rd.pure fun _ => by kernel_rfl) ?_; clear hA ac; intro ac hA
     refine st_rd (v := Value.slice A_V V.length c_V) hA (by kernel_rfl) (by kernel_rfl) (by kernel_rfl) hW.cls (Rd.load (b := b1) (i := 0) (by kernel_rfl) (fun _ hw => (hw.1).cel 0 rfl) (by kernel_rfl)) ?_; clear hA ac; intro ac hA
     refine st_rd (v := Value.int .i64 ((V.length : Nat) : Int)) hA (by kernel_rfl) (by kernel_rfl) (by kernel_rfl) hW.cls (Rd.pure fun _ => by kernel_rfl) ?_; clear hA ac; intro ac hA
     refine st_rd (v := Value.bool (decide ((h : Int) ≤ (((V.length : Nat) : Int) : Int)))) hA (by kernel_rfl) (by kernel_rfl) (by kernel_rfl) hW.cls (Rd.pure fun _ => by kernel_rfl) ?_; clear hA ac; intro ac hA
     refine st_rd (v := Value.bool (decide ((h : Int) ≤ (((V.length : Nat) : Int) : Int)))) hA (by kernel_rfl) (by kernel_rfl) (by kernel_rfl) hW.cls (Rd.pure fun _ => by kernel_rfl) ?_; clear hA ac; intro ac hA
     refine st_rd (v := Value.bool (decide ((h : Int) ≤ (((V.length : Nat) : Int) : Int)))) hA (by kernel_rfl) (by kernel_rfl) (by kernel_rfl) hW.cls (Rd.pure fun _ => by kernel_rfl) ?_; clear hA ac; intro ac hA
     rcases Bool.eq_false_or_eq_true (decide ((h : Int) ≤ (((V.length : Nat) : Int) : Int))) with h4 | h4
     · skip
       rw [h4] at hA
       have h4 := of_decide_eq_true h4
       first
       | (exfalso; clear hA hW; omega)
       | (
         refine st_rd (v := Value.pointer (some ⟨b1, 0, none⟩)) hA (by kernel_rfl) (by kernel_rfl) (by kernel_rfl) hW.cls (Rd.pure fun _ => by kernel_rfl) ?_; clear hA ac; intro ac hA
         refine st_rd (v := Value.slice A_V V.length c_V) hA (by kernel_rfl) (by kernel_rfl) (by kernel_rfl) hW.cls (Rd.load (b := b1) (i := 0) (by kernel_rfl) (fun _ hw => (hw.1).cel 0 rfl) (by kernel_rfl)) ?_; clear hA ac; intro ac hA
         refine st_rd (v := Value.int .i64 h) hA (by kernel_rfl) (by kernel_rfl) (by kernel_rfl) hW.cls (Rd.pure fun _ => by kernel_rfl) ?_; clear hA ac; intro ac hA
         refine st_rd (v := Value.int .i64 ((h : Int) - 1)) hA (by kernel_rfl) (by kernel_rfl) (by kernel_rfl) hW.cls (Rd.pureE (v0 := Value.int .i64 (IntKind.i64.wrap ((h : Int) - 1))) (fun _ => by kernel_rfl) (congrArg (Value.int .i64) ((w_i64 (x := (h : Int) - 1) (by omega) (by omega)).trans (by omega)))) ?_; clear hA ac; intro ac hA
         obtain ⟨y5, hy5⟩ : ∃ y, V[Int.toNat ((h : Int) - 1)]? = some y := ⟨_, List.getElem?_eq_getElem (by first | omega | (simp; done) | (simp; omega))⟩
         rcases y5 with ⟨y5_there, y5_l, y5_l_A, y5_l_c⟩
         obtain ⟨b6, o7, rfl, hbb6⟩ := row_some ((hW).getG 1 rfl) hy5
         refine st_rd (v := Value.pointer (some ⟨b6, o7 + (Int.toNat ((h : Int) - 1)) * 2, none⟩)) hA (by kernel_rfl) (by kernel_rfl) (by kernel_rfl) hW.cls (Rd.indexAddrI (e := 112) (sz := 2) (b := b6) (off := o7) (n := V.length) (c := c_V) (k := (h : Int) - 1) (by kernel_rfl) (by kernel_rfl) (by omega) (by first | omega | (simp; done) | (simp; omega)) (fun _ => by kernel_rfl) (fun _ => by kernel_rfl)) ?_; clear hA ac; intro ac hA
         refine st_rd (v := Value.pointer (some ⟨b6, o7 + (Int.toNat ((h : Int) - 1)) * 2, none⟩)) hA (by kernel_rfl) (by kernel_rfl) (by kernel_rfl) hW.cls (Rd.pure fun _ => by kernel_rfl) ?_; clear hA ac; intro ac hA
         refine st_rd (v := Value.bool y5_there) hA (by kernel_rfl) (by kernel_rfl) (by kernel_rfl) hW.cls (Rd.loadRow (b := b6) (i := o7 + (Int.toNat ((h : Int) - 1)) * 2) (xs := [Value.bool y5_there]) (by kernel_rfl) (fun _ hw => row_ld ((hw.1).getG 1 rfl) hy5 (Fr.refl No _) (fun h => h) 0 1 (by kernel_rfl)) (by kernel_rfl)) ?_; clear hA ac; intro ac hA
         refine st_rd (v := Value.bool y5_there) hA (by kernel_rfl) (by kernel_rfl) (by kernel_rfl) hW.cls (Rd.pure fun _ => by kernel_rfl) ?_; clear hA ac; intro ac hA
         refine st_rd (v := Value.bool y5_there) hA (by kernel_rfl) (by kernel_rfl) (by kernel_rfl) hW.cls (Rd.pure fun _ => by kernel_rfl) ?_; clear hA ac; intro ac hA
         refine wpList_nil ?_
         refine thenN ?_
         refine wp_ret ?_
         refine ret1 (v := Value.bool y5_there) (by rfl) hA (Got.tmp hA (by kernel_rfl) (by kernel_rfl)) ?_
         clear hA
         exact ⟨retv (congrArg Value.bool (there_at (by omega) (by omega) hy5).symm), hW.fr⟩)
     · skip
       rw [h4] at hA
       have h4 := of_decide_eq_false h4
       first
       | (exfalso; clear hA hW; omega)
       | (
         refine st_skip hA (by kernel_rfl) (by kernel_rfl) ?_; clear hA ac; intro ac hA
         refine st_skip hA (by kernel_rfl) (by kernel_rfl) ?_; clear hA ac; intro ac hA
         refine st_skip hA (by kernel_rfl) (by kernel_rfl) ?_; clear hA ac; intro ac hA
         refine st_skip hA (by kernel_rfl) (by kernel_rfl) ?_; clear hA ac; intro ac hA
         refine st_skip hA (by kernel_rfl) (by kernel_rfl) ?_; clear hA ac; intro ac hA
         refine st_skip hA (by kernel_rfl) (by kernel_rfl) ?_; clear hA ac; intro ac hA
         refine st_skip hA (by kernel_rfl) (by kernel_rfl) ?_; clear hA ac; intro ac hA
         refine st_rd (v := Value.bool false) hA (by kernel_rfl) (by kernel_rfl) (by kernel_rfl) hW.cls (Rd.pure fun _ => by kernel_rfl) ?_; clear hA ac; intro ac hA
         refine st_rd (v := Value.bool false) hA (by kernel_rfl) (by kernel_rfl) (by kernel_rfl) hW.cls (Rd.pure fun _ => by kernel_rfl) ?_; clear hA ac; intro ac hA
         refine wpList_nil ?_
         refine thenN ?_
         refine wp_ret ?_
         refine ret1 (v := Value.bool false) (by rfl) hA (Got.tmp hA (by kernel_rfl) (by kernel_rfl)) ?_
         clear hA
         exact ⟨retv (congrArg Value.bool (there_no (by omega)).symm), hW.fr⟩))
 · skip
   rw [h3] at hA
   have h3 := of_decide_eq_false h3
   first
   | (exfalso; clear hA hW; omega)
   | (
     refine st_skip hA (by kernel_rfl) (by kernel_rfl) ?_; clear hA ac; intro ac hA
     refine st_skip hA (by kernel_rfl) (by kernel_rfl) ?_; clear hA ac; intro ac hA
     refine st_skip hA (by kernel_rfl) (by kernel_rfl) ?_; clear hA ac; intro ac hA
     refine st_skip hA (by kernel_rfl) (by kernel_rfl) ?_; clear hA ac; intro ac hA
     refine st_skip hA (by kernel_rfl) (by kernel_rfl) ?_; clear hA ac; intro ac hA
     refine st_rd (v := Value.bool false) hA (by kernel_rfl) (by kernel_rfl) (by kernel_rfl) hW.cls (Rd.pure fun _ => by kernel_rfl) ?_; clear hA ac; intro ac hA
     refine st_rd (v := Value.bool false) hA (by kernel_rfl) (by kernel_rfl) (by kernel_rfl) hW.cls (Rd.pure fun _ => by kernel_rfl) ?_; clear hA ac; intro ac hA
     refine st_skip hA (by kernel_rfl) (by kernel_rfl) ?_; clear hA ac; intro ac hA
     refine st_skip hA (by kernel_rfl) (by kernel_rfl) ?_; clear hA ac; intro ac hA
     refine st_skip hA (by kernel_rfl) (by kernel_rfl) ?_; clear hA ac; intro ac hA
     refine st_skip hA (by kernel_rfl) (by kernel_rfl) ?_; clear hA ac; intro ac hA
     refine st_skip hA (by kernel_rfl) (by kernel_rfl) ?_; clear hA ac; intro ac hA
     refine st_skip hA (by kernel_rfl) (by kernel_rfl) ?_; clear hA ac; intro ac hA
     refine st_skip hA (by kernel_rfl) (by kernel_rfl) ?_; clear hA ac; intro ac hA
     refine st_rd (v := Value.bool false) hA (by kernel_rfl) (by kernel_rfl) (by kernel_rfl) hW.cls (Rd.pure fun _ => by kernel_rfl) ?_; clear hA ac; intro ac hA
     refine st_rd (v := Value.bool false) hA (by kernel_rfl) (by kernel_rfl) (by kernel_rfl) hW.cls (Rd.pure fun _ => by kernel_rfl) ?_; clear hA ac; intro ac hA
     refine wpList_nil ?_
     refine thenN ?_
     refine wp_ret ?_
     refine ret1 (v := Value.bool false) (by rfl) hA (Got.tmp hA (by kernel_rfl) (by kernel_rfl)) ?_
     clear hA
     exact ⟨retv (congrArg Value.bool (there_no (by omega)).symm), hW.fr⟩)

set_option maxRecDepth 100000 in
theorem e_rwith (A_V : Option Addr) (c_V : Nat) (V : List VecE) (h : Int) (bt : Bool) (A_L : Option Addr) (c_L : Nat) (L : List One) (w : World) (hr_V : RowAt w A_V 2 enVecE V) (hc_V : V.length ≤ c_V) (hn_V : (nestR innerVecE V).p w) (hk_V : ∀ x_ ∈ V, capVecE x_) (hr_L : RowAt w A_L 4 enOne L) (hc_L : L.length ≤ c_L) (hh : 1 ≤ h ∧ h ≤ 1000) (hl : V.length ≤ 1000) (hL : L.length ≤ 100000) : Calls Try.prog 57 #[Value.agg #[Value.slice A_V V.length c_V], Value.int .i64 h, Value.agg #[Value.bool bt, Value.slice A_L L.length c_L]] w (fun e w' => ∃ V' : List VecE, ∃ (A_o : Option Addr) (c_o : Nat), e = .returned (Value.agg #[Value.slice A_o (V').length c_o]) ∧ (pv V' = withP (pv V) h (bt, L)) ∧ (V').length ≤ c_o ∧ (∀ x_ ∈ (V'), capVecE x_) ∧ (roR A_o 2 enVecE V').from_ [roR A_V 2 enVecE V, nestR innerVecE V, roR A_L 4 enOne L] w w' ∧ (nestR innerVecE V').from_ [roR A_V 2 enVecE V, nestR innerVecE V, roR A_L 4 enOne L] w w' ∧ Fr No w w') := by
 have _hu := hc_V; have _hv := hr_V; clear _hu _hv
 have _hu := hk_V; have _hv := hn_V; clear _hu _hv
 have _hu := hc_L; have _hv := hr_L; clear _hu _hv
 have _hu := hh; clear _hu
 have _hu := hl; clear _hu
 have _hu := hL; clear _hu
 refine enter_E 27 Try.func57 rfl rfl (by kernel_rfl) (L := [(0, Value.agg #[Value.slice A_V V.length c_V]), (1, Value.int .i64 h), (2, Value.agg #[Value.bool bt, Value.slice A_L L.length c_L])]) (by kernel_rfl) ?_
 intro ac hA
 have hW := Ws.start w No
 have hW := hW.arg hr_V
 have hW := hW.addG _ hn_V (nest_ltVecE hn_V) (by simp)
 have hW := hW.arg hr_L
 refine wp_seq ?_
 refine wp_region_lit ?_
 refine st hA (by kernel_rfl) (by kernel_rfl) (by kernel_rfl) (Runs.cells (fun b => Value.pointer (some ⟨b, 0, none⟩)) #[Value.slice A_V V.length c_V] 51 (fun _ => by kernel_rfl) hW ?_); clear hA ac hW; intro b1 w2 hW hb1 hfw2 ac hA
 refine st hA (by kernel_rfl) (by kernel_rfl) (by kernel_rfl) (Runs.cells (fun b => Value.pointer (some ⟨b, 0, none⟩)) #[Value.bool bt, Value.slice A_L L.length c_L] 112 (fun _ => by kernel_rfl) hW ?_); clear hA ac hW; intro b3 w4 hW hb3 hfw4 ac hA
 refine st hA (by kernel_rfl) (by kernel_rfl) (by kernel_rfl) (Runs.cells (fun b => Value.pointer (some ⟨b, 0, none⟩)) #[Value.slice none 0 0] 51 (fun _ => by kernel_rfl) hW ?_); clear hA ac hW; intro b5 w6 hW hb5 hfw6 ac hA
 refine wpList_nil ?_
 refine thenN ?_
 refine wp_seq ?_
 refine wp_region_lit ?_
 refine st hA (by kernel_rfl) (by kernel_rfl) (by kernel_rfl) (Runs.cells (fun b => Value.slice (some ⟨b, 0, none⟩) 0 0) #[] 112 (fun _ => by kernel_rfl) hW ?_); clear hA ac hW; intro b7 w8 hW hb7 hfw8 ac hA
 refine st_rd (v := Value.pointer (some ⟨b1, 0, none⟩)) hA (by kernel_rfl) (by kernel_rfl) (by kernel_rfl) hW.cls (Rd.pure fun _ => by kernel_rfl) ?_; clear hA ac; intro ac hA
 refine st_rd (v := Value.slice A_V V.length c_V) hA (by kernel_rfl) (by kernel_rfl) (by kernel_rfl) hW.cls (Rd.load (b := b1) (i := 0) (by kernel_rfl) (fun _ hw => (hw.1).cel 3 rfl) (by kernel_rfl)) ?_; clear hA ac; intro ac hA
 have hW := hW.celRow (en := enVecE) (H' := [rowR 112 2 enVecE (Value.slice (some ⟨b7, 0, none⟩) ([] : List VecE).length ([] : List VecE).length) ([] : List VecE), Cel b5 #[Value.slice none 0 0] 51, Cel b3 #[Value.bool bt, Value.slice A_L L.length c_L] 112, Cel b1 #[Value.slice A_V V.length c_V] 51]) 0 rfl ([] : List VecE) (by rfl) elt_VecE.len (by decide) rfl
 have hW := hW.nestNil innerVecE
 have hknq10 : ∀ x_ ∈ ([] : List VecE), capVecE x_ := all_nil
 have hsnq10 : Res.src (nestR innerVecE ([] : List VecE)) [roR A_V 2 enVecE V, nestR innerVecE V, roR A_L 4 enOne L] w := nsrc_nil
 have hW := hW.nestApp 0 2 rfl rfl
 have hknq11 : ∀ x_ ∈ (([] : List VecE) ++ V), capVecE x_ := all_app hknq10 hk_V
 have hsnq11 : Res.src (nestR innerVecE (([] : List VecE) ++ V)) [roR A_V 2 enVecE V, nestR innerVecE V, roR A_L 4 enOne L] w := nsrc_app hsnq10 (src_arg (.tail _ (.head _)))
 refine st hA (by kernel_rfl) (by kernel_rfl) (by kernel_rfl) (Runs.appOwn (B := A_V) (k := c_V) (E := 112) (sz := 2) (en := enVecE) (l := ([] : List VecE)) (m := V) (i := 0) (by kernel_rfl) (by kernel_rfl) elt_VecE (by kernel_rfl) hW rfl ((hW).getG 4 rfl) (by first | omega | (simp; done) | (simp; omega)) (by first | omega | (simp; done) | (simp; omega)) ?_); clear hA ac hW; intro A12 c13 w14 hW hcc13 ac hA
 refine st_rd (v := Value.slice A12 (([] : List VecE) ++ V).length c13) hA (by kernel_rfl) (by kernel_rfl) (by kernel_rfl) hW.cls (Rd.pure fun _ => by kernel_rfl) ?_; clear hA ac; intro ac hA
 refine wpList_nil ?_
 refine thenN ?_
 refine wp_seq ?_
 refine wp_block ?_
 refine wp_loop_m (fun m_ ac_ wl_ => ∃ O : List VecE, ∃ A : Option Addr, ∃ c : Nat, m_ = Int.toNat h - O.length ∧ (pv O = pv V ++ List.replicate (O.length - V.length) (false, [])) ∧ (V.length ≤ O.length ∧ O.length ≤ 2000 ∧ (O.length ≤ V.length ∨ (O.length : Int) ≤ h)) ∧ (O.length ≤ c) ∧ (∀ x_ ∈ O, capVecE x_) ∧ (Res.src (nestR innerVecE O) [roR A_V 2 enVecE V, nestR innerVecE V, roR A_L 4 enOne L] w) ∧ Fm 27 [] [(1, Value.int .i64 h), (3, Value.pointer (some ⟨b1, 0, none⟩)), (5, Value.pointer (some ⟨b3, 0, none⟩)), (6, Value.pointer (some ⟨b5, 0, none⟩)), (7, Value.slice A O.length c)] ac_ ∧ Ws w No [rowR 112 2 enVecE (Value.slice A O.length c) O, Cel b5 #[Value.slice none 0 0] 51, Cel b3 #[Value.bool bt, Value.slice A_L L.length c_L] 112, Cel b1 #[Value.slice A_V V.length c_V] 51] [nestR innerVecE O, roR A_L 4 enOne L, nestR innerVecE V, roR A_V 2 enVecE V] wl_) _ ⟨([] : List VecE) ++ V, A12, c13, rfl, by simp, by simp; omega, by exact hcc13, by exact hknq11, by exact hsnq11, hA.sub ⟨⟨by kernel_rfl, by kernel_rfl⟩, ⟨by kernel_rfl, by kernel_rfl⟩, ⟨by kernel_rfl, by kernel_rfl⟩, ⟨by kernel_rfl, by kernel_rfl⟩, ⟨by kernel_rfl, by kernel_rfl⟩, trivial⟩, (hW.pick [0, 1, 2, 3] (by decide) rfl).pickG [0, 2, 3, 4] rfl⟩ ?_
 clear hA ac hW; rintro m_ ac w15 ⟨O, A, c, rfl, hO, hOl, hcO, hkO, hsO, hA, hW⟩
 refine wp_seq ?_
 refine wp_seq ?_
 refine wp_region_lit ?_
 refine st_rd (v := Value.slice A O.length c) hA (by kernel_rfl) (by kernel_rfl) (by kernel_rfl) hW.cls (Rd.pure fun _ => by kernel_rfl) ?_; clear hA ac; intro ac hA
 refine st_rd (v := Value.int .i64 ((O.length : Nat) : Int)) hA (by kernel_rfl) (by kernel_rfl) (by kernel_rfl) hW.cls (Rd.pure fun _ => by kernel_rfl) ?_; clear hA ac; intro ac hA
 refine st_rd (v := Value.int .i64 h) hA (by kernel_rfl) (by kernel_rfl) (by kernel_rfl) hW.cls (Rd.pure fun _ => by kernel_rfl) ?_; clear hA ac; intro ac hA
 refine st_rd (v := Value.bool (decide ((((O.length : Nat) : Int) : Int) < (h : Int)))) hA (by kernel_rfl) (by kernel_rfl) (by kernel_rfl) hW.cls (Rd.pure fun _ => by kernel_rfl) ?_; clear hA ac; intro ac hA
 refine wpList_nil ?_
 refine thenN ?_
 refine wp_cond_split (t := decide ((((O.length : Nat) : Int) : Int) < (h : Int))) (hA.eval (by kernel_rfl)) (fun h16 => ?_) (fun h16 => ?_)
 · skip
   have h16 := of_decide_eq_true h16
   first
   | (exfalso; clear hA hW; omega)
   | (
     refine wp_skip ?_
     refine thenN ?_
     refine wp_block ?_
     refine wp_region_lit ?_
     refine st_rd (v := Value.slice A O.length c) hA (by kernel_rfl) (by kernel_rfl) (by kernel_rfl) hW.cls (Rd.pure fun _ => by kernel_rfl) ?_; clear hA ac; intro ac hA
     refine st_rd (v := Value.agg #[Value.bool false, Value.slice none 0 0]) hA (by kernel_rfl) (by kernel_rfl) (by kernel_rfl) hW.cls (Rd.pure fun _ => by kernel_rfl) ?_; clear hA ac; intro ac hA
     refine st hA (by kernel_rfl) (by kernel_rfl) (by kernel_rfl) (Runs.cells (fun b => Value.slice (some ⟨b, 0, none⟩) 1 1) #[Value.bool false, Value.slice none 0 0] 112 (fun _ => by kernel_rfl) hW ?_); clear hA ac hW; intro b17 w18 hW hb17 hfw18 ac hA
     have hW := hW.nestNil innerVecE
     have hknq19 : ∀ x_ ∈ ([] : List VecE), capVecE x_ := all_nil
     have hsnq19 : Res.src (nestR innerVecE ([] : List VecE)) [roR A_V 2 enVecE V, nestR innerVecE V, roR A_L 4 enOne L] w := nsrc_nil
     have hW := Ws.nestCons (inner := innerVecE) hW 0 rfl (⟨false, ([] : List One), none, 0⟩ : VecE) (show (innerVecE (⟨false, ([] : List One), none, 0⟩ : VecE)).p _ from .inl rfl) (by intro b_ hb_; simp [innerVecE, roR] at hb_)
     have hknq20 : ∀ x_ ∈ ([(⟨false, ([] : List One), none, 0⟩ : VecE)] : List VecE), capVecE x_ := all_cons (by simp [capVecE]) hknq19
     have hsnq20 : Res.src (nestR innerVecE ([(⟨false, ([] : List One), none, 0⟩ : VecE)] : List VecE)) [roR A_V 2 enVecE V, nestR innerVecE V, roR A_L 4 enOne L] w := nsrc_cons (by intro b_ hb_; simp [innerVecE, roR] at hb_) hsnq19
     have hW := hW.nestApp 2 0 rfl rfl
     have hknq21 : ∀ x_ ∈ (O ++ ([(⟨false, ([] : List One), none, 0⟩ : VecE)] : List VecE)), capVecE x_ := all_app hkO hknq20
     have hsnq21 : Res.src (nestR innerVecE (O ++ ([(⟨false, ([] : List One), none, 0⟩ : VecE)] : List VecE))) [roR A_V 2 enVecE V, nestR innerVecE V, roR A_L 4 enOne L] w := nsrc_app hsO hsnq20
     refine st hA (by kernel_rfl) (by kernel_rfl) (by kernel_rfl) (Runs.appOwn (B := (some ⟨b17, 0, none⟩)) (k := 1) (E := 112) (sz := 2) (en := enVecE) (l := O) (m := ([(⟨false, ([] : List One), none, 0⟩ : VecE)] : List VecE)) (i := 1) (by kernel_rfl) (by kernel_rfl) elt_VecE (by kernel_rfl) hW rfl (rowAt_cel ((hW).cel 0 rfl) ([(⟨false, ([] : List One), none, 0⟩ : VecE)] : List VecE) (by rfl) elt_VecE.len) (by first | omega | (simp; done) | (simp; omega)) (by first | omega | (simp; done) | (simp; omega)) ?_); clear hA ac hW; intro A22 c23 w24 hW hcc23 ac hA
     refine st_rd (v := Value.slice A22 (O ++ ([(⟨false, ([] : List One), none, 0⟩ : VecE)] : List VecE)).length c23) hA (by kernel_rfl) (by kernel_rfl) (by kernel_rfl) hW.cls (Rd.pure fun _ => by kernel_rfl) ?_; clear hA ac; intro ac hA
     refine wpList_nil ?_
     refine blkN ?_
     refine thenN ?_
     have hla_ : (O ++ ([(⟨false, ([] : List One), none, 0⟩ : VecE)] : List VecE)).length = O.length + 1 := by simp
     exact ⟨Int.toNat h - (O ++ ([(⟨false, ([] : List One), none, 0⟩ : VecE)] : List VecE)).length, by omega, O ++ ([(⟨false, ([] : List One), none, 0⟩ : VecE)] : List VecE), A22, c23, rfl, by rw [pv_app, hO, List.append_assoc]; congr 1; rw [show (pv [(⟨false, ([] : List One), none, 0⟩ : VecE)]) = List.replicate 1 (false, []) from rfl, List.replicate_append_replicate]; congr 1; simp; omega, by simp; omega, by exact hcc23, by exact hknq21, by exact hsnq21, hA.sub ⟨⟨by kernel_rfl, by kernel_rfl⟩, ⟨by kernel_rfl, by kernel_rfl⟩, ⟨by kernel_rfl, by kernel_rfl⟩, ⟨by kernel_rfl, by kernel_rfl⟩, ⟨by kernel_rfl, by kernel_rfl⟩, trivial⟩, (hW.pick [1, 2, 3, 4] (by decide) rfl).pickG [0, 4, 5, 6] rfl⟩)
 · skip
   have h16 := of_decide_eq_false h16
   first
   | (exfalso; clear hA hW; omega)
   | (
     refine wp_exit ?_
     refine thenX ?_
     refine thenX ?_
     refine blkX ?_
     refine thenN ?_
     refine wp_seq ?_
     refine wp_region_lit ?_
     refine st_rd (v := Value.slice A O.length c) hA (by kernel_rfl) (by kernel_rfl) (by kernel_rfl) hW.cls (Rd.pure fun _ => by kernel_rfl) ?_; clear hA ac; intro ac hA
     refine st_rd (v := Value.int .i64 h) hA (by kernel_rfl) (by kernel_rfl) (by kernel_rfl) hW.cls (Rd.pure fun _ => by kernel_rfl) ?_; clear hA ac; intro ac hA
     refine st_rd (v := Value.int .i64 ((h : Int) - 1)) hA (by kernel_rfl) (by kernel_rfl) (by kernel_rfl) hW.cls (Rd.pureE (v0 := Value.int .i64 (IntKind.i64.wrap ((h : Int) - 1))) (fun _ => by kernel_rfl) (congrArg (Value.int .i64) ((w_i64 (x := (h : Int) - 1) (by omega) (by omega)).trans (by omega)))) ?_; clear hA ac; intro ac hA
     refine st_rd (v := Value.agg #[Value.bool bt, Value.slice A_L L.length c_L]) hA (by kernel_rfl) (by kernel_rfl) (by kernel_rfl) hW.cls (Rd.load (b := b3) (i := 0) (by kernel_rfl) (fun _ hw => (hw.1).cel 2 rfl) (by kernel_rfl)) ?_; clear hA ac; intro ac hA
     obtain ⟨y25, hy25⟩ : ∃ y, O[Int.toNat ((h : Int) - 1)]? = some y := ⟨_, List.getElem?_eq_getElem (by first | omega | (simp; done) | (simp; omega))⟩
     rcases y25 with ⟨y25_there, y25_l, y25_l_A, y25_l_c⟩
     obtain ⟨b26, o27, rfl, hbb26⟩ := row_some (rowR_at ((hW).get 0 rfl) elt_VecE.len) hy25
     refine st_rd (v := Value.pointer (some ⟨b26, o27 + (Int.toNat ((h : Int) - 1)) * 2, none⟩)) hA (by kernel_rfl) (by kernel_rfl) (by kernel_rfl) hW.cls (Rd.indexAddrI (e := 112) (sz := 2) (b := b26) (off := o27) (n := O.length) (c := c) (k := (h : Int) - 1) (by kernel_rfl) (by kernel_rfl) (by omega) (by first | omega | (simp; done) | (simp; omega)) (fun _ => by kernel_rfl) (fun _ => by kernel_rfl)) ?_; clear hA ac; intro ac hA
     have hW := hW.nestNil innerVecE
     have hknq28 : ∀ x_ ∈ ([] : List VecE), capVecE x_ := all_nil
     have hsnq28 : Res.src (nestR innerVecE ([] : List VecE)) [roR A_V 2 enVecE V, nestR innerVecE V, roR A_L 4 enOne L] w := nsrc_nil
     have hW := Ws.nestCons (inner := innerVecE) hW 0 rfl (⟨bt, L, A_L, c_L⟩ : VecE) (hW.getG 2 rfl) (fun _ hb_ => ⟨_, List.mem_of_getElem? (i := 2) rfl, hb_⟩)
     have hknq29 : ∀ x_ ∈ ([(⟨bt, L, A_L, c_L⟩ : VecE)] : List VecE), capVecE x_ := all_cons (show L.length ≤ c_L from (by first | assumption | omega | (simp; omega) | simp)) hknq28
     have hsnq29 : Res.src (nestR innerVecE ([(⟨bt, L, A_L, c_L⟩ : VecE)] : List VecE)) [roR A_V 2 enVecE V, nestR innerVecE V, roR A_L 4 enOne L] w := nsrc_cons (src_arg (.tail _ (.tail _ (.head _)))) hsnq28
     have hW := Ws.nestSet (inner := innerVecE) hW 2 rfl (Int.toNat ((h : Int) - 1)) (⟨bt, L, A_L, c_L⟩ : VecE) (nest_at (hW.getG 0 rfl) (List.mem_singleton.2 rfl)) (fun b_ hb_ => ⟨_, List.mem_of_getElem? (i := 0) rfl, nest_fp.2 ⟨_, (List.mem_singleton.2 rfl), hb_⟩⟩)
     have hknq30 : ∀ x_ ∈ (List.set O (Int.toNat ((h : Int) - 1)) (⟨bt, L, A_L, c_L⟩ : VecE)), capVecE x_ := all_set hkO (hknq29 _ (List.mem_singleton.2 rfl))
     have hsnq30 : Res.src (nestR innerVecE (List.set O (Int.toNat ((h : Int) - 1)) (⟨bt, L, A_L, c_L⟩ : VecE))) [roR A_V 2 enVecE V, nestR innerVecE V, roR A_L 4 enOne L] w := nsrc_set hsO (nsrc_at hsnq29 (List.mem_singleton.2 rfl))
     refine st hA (by kernel_rfl) (by kernel_rfl) (by kernel_rfl) (Runs.storeRow (E := 112) (sz := 2) (en := enVecE) (b := b26) (off := o27) (k := Int.toNat ((h : Int) - 1)) (n := O.length) (c := c) (v := Value.agg #[Value.bool bt, Value.slice A_L L.length c_L]) (⟨bt, L, A_L, c_L⟩ : VecE) elt_VecE (by kernel_rfl) (by kernel_rfl) (by kernel_rfl) (by kernel_rfl) hW (i := 0) rfl (by first | omega | (simp; done) | (simp; omega)) (by first | rfl | (simp; done) | (simp; omega)) ?_); clear hA ac hW; intro w31 hW ac hA
     refine wpList_nil ?_
     refine thenN ?_
     refine wp_seq ?_
     refine wp_region_lit ?_
     refine st_rd (v := Value.slice (some ⟨b26, o27, none⟩) O.length c) hA (by kernel_rfl) (by kernel_rfl) (by kernel_rfl) hW.cls (Rd.pure fun _ => by kernel_rfl) ?_; clear hA ac; intro ac hA
     refine st_rd (v := Value.agg #[Value.slice (some ⟨b26, o27, none⟩) O.length c]) hA (by kernel_rfl) (by kernel_rfl) (by kernel_rfl) hW.cls (Rd.pure fun _ => by kernel_rfl) ?_; clear hA ac; intro ac hA
     refine st hA (by kernel_rfl) (by kernel_rfl) (by kernel_rfl) (Runs.store (v := Value.agg #[Value.slice (some ⟨b26, o27, none⟩) O.length c]) (b := b5) (j := 0) (n := 1) (cs' := #[Value.slice (some ⟨b26, o27, none⟩) O.length c]) (H' := [rowR 112 2 enVecE (Value.slice (some ⟨b26, o27, none⟩) O.length c) (List.set O (Int.toNat ((h : Int) - 1)) (⟨bt, L, A_L, c_L⟩ : VecE)), Cel b5 #[Value.slice (some ⟨b26, o27, none⟩) O.length c] 51, Cel b3 #[Value.bool bt, Value.slice A_L L.length c_L] 112, Cel b1 #[Value.slice A_V V.length c_V] 51]) (by kernel_rfl) (by kernel_rfl) (by kernel_rfl) (by kernel_rfl) (by kernel_rfl) hW 1 (by rfl) (Nat.le_of_ble_eq_true (by kernel_rfl)) (by kernel_rfl) (by rfl) ?_); clear hA ac hW; intro w32 hW ac hA
     refine wpList_nil ?_
     refine thenN ?_
     refine wp_ret ?_
     refine ret1 (v := Value.agg #[Value.slice (some ⟨b26, o27, none⟩) O.length c]) (by rfl) hA (Got.cell (b := b5) (i := 0) hA (by kernel_rfl) (by kernel_rfl) (hW.cel 1 rfl) (by kernel_rfl)) ?_
     clear hA
     exact ⟨List.set O (Int.toNat ((h : Int) - 1)) (⟨bt, L, A_L, c_L⟩ : VecE), (some ⟨b26, o27, none⟩), c, by first | rfl | (simp; done), by rw [pv_set, hO]; unfold withP; rw [pv_len]; congr 2; congr 1; omega, (own_cap ((hW).get 0 rfl)), hknq30, (hW.outRow 0 rfl elt_VecE.len (fun _ h => h)), (hW.outSrc 0 rfl hsnq30), hW.fr⟩)

end Go.Proofs.Ytobbocpacacnhaa.L
