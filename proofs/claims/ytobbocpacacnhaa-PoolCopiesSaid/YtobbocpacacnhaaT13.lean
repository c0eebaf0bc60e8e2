/- Contracts, walked by program over the engine's laws. -/
import Derived.Test.YtobbocpacacnhaaProg
import Derived.Test.YtobbocpacacnhaaT12
namespace Go.Proofs.Ytobbocpacacnhaa.L
open Go.RowKit

set_option maxRecDepth 100000 in
theorem eqIn_Site (d : Nat) (a b : Site) (w : World) : (Op.equalIn (d + 2) 30 a.v b.v).run Try.prog w = .ok (decide (a = b)) w := by
  have h := eq_struct (P := Try.prog) (d := d + 1) (t := 30) (u := a.v) (v := b.v) rfl rfl (by kernel_rfl) (by kernel_rfl) (eqF_cons { name := "Func", type := 3, offset := 0, embedded := false, tag := "", pkgPath := "", byteOffset := 0 } (fs := [{ name := "Pc", type := 3, offset := 1, embedded := false, tag := "", pkgPath := "", byteOffset := 8 }]) (u := Value.int .i64 a.f) (v := Value.int .i64 b.f) (r := (a.f == b.f)) (by kernel_rfl) (by decide) (fun _ => by kernel_rfl) (fun _ => by kernel_rfl) (fun _ => by kernel_rfl) (eqF_cons { name := "Pc", type := 3, offset := 1, embedded := false, tag := "", pkgPath := "", byteOffset := 8 } (fs := []) (u := Value.int .i64 a.pc) (v := Value.int .i64 b.pc) (r := (a.pc == b.pc)) (by kernel_rfl) (by decide) (fun _ => by kernel_rfl) (fun _ => by kernel_rfl) (fun _ => by kernel_rfl) (eqF_nil (by kernel_rfl)))) w
  rw [h]; congr 1
  obtain ⟨x0, x1⟩ := a; obtain ⟨y0, y1⟩ := b; rw [Bool.eq_iff_iff]; simp
theorem eq_Site (w : World) (a b : Site) : (Op.equal 30 a.v b.v).run Try.prog w = .ok (decide (a = b)) w := eqIn_Site 9998 a b w
theorem Site.eqi (a b : Site) : a = b ↔ a.f = b.f ∧ a.pc = b.pc := by
  obtain ⟨x0, x1⟩ := a; obtain ⟨y0, y1⟩ := b; simp
set_option maxRecDepth 100000 in
theorem eqIn_Mark (d : Nat) (a b : Mark) (w : World) : (Op.equalIn (d + 3) 32 a.v b.v).run Try.prog w = .ok (decide (a = b)) w := by
  have h := eq_struct (P := Try.prog) (d := d + 2) (t := 32) (u := a.v) (v := b.v) rfl rfl (by kernel_rfl) (by kernel_rfl) (eqF_cons { name := "Clock", type := 28, offset := 0, embedded := false, tag := "", pkgPath := "", byteOffset := 0 } (fs := [{ name := "Site", type := 30, offset := 1, embedded := false, tag := "", pkgPath := "", byteOffset := 8 }]) (u := Value.int .u64 a.clock) (v := Value.int .u64 b.clock) (r := (a.clock == b.clock)) (by kernel_rfl) (by decide) (fun _ => by kernel_rfl) (fun _ => by kernel_rfl) (fun _ => by kernel_rfl) (eqF_cons { name := "Site", type := 30, offset := 1, embedded := false, tag := "", pkgPath := "", byteOffset := 8 } (fs := []) (u := a.site.v) (v := b.site.v) (r := decide (a.site = b.site)) (by kernel_rfl) (by decide) (fun _ => by kernel_rfl) (fun _ => by kernel_rfl) (eqIn_Site (d + 0) a.site b.site) (eqF_nil (by kernel_rfl)))) w
  rw [h]; congr 1
  obtain ⟨x0, x1⟩ := a; obtain ⟨y0, y1⟩ := b; rw [Bool.eq_iff_iff]; simp
theorem eq_Mark (w : World) (a b : Mark) : (Op.equal 32 a.v b.v).run Try.prog w = .ok (decide (a = b)) w := eqIn_Mark 9997 a b w
theorem Mark.eqi (a b : Mark) : a = b ↔ a.clock = b.clock ∧ a.site.f = b.site.f ∧ a.site.pc = b.site.pc := by
  obtain ⟨x0, x1⟩ := a; obtain ⟨y0, y1⟩ := b; first | (simp [Site.eqi]; done) | (simp [Site.eqi, and_assoc]; done)
set_option maxRecDepth 100000 in
theorem eqIn_One (d : Nat) (a b : One) (w : World) : (Op.equalIn (d + 4) 90 a.v b.v).run Try.prog w = .ok (decide (a = b)) w := by
  have h := eq_struct (P := Try.prog) (d := d + 3) (t := 90) (u := a.v) (v := b.v) rfl rfl (by kernel_rfl) (by kernel_rfl) (eqF_cons { name := "Id", type := 3, offset := 0, embedded := false, tag := "", pkgPath := "", byteOffset := 0 } (fs := [{ name := "M", type := 32, offset := 1, embedded := false, tag := "", pkgPath := "", byteOffset := 8 }]) (u := Value.int .i64 a.id) (v := Value.int .i64 b.id) (r := (a.id == b.id)) (by kernel_rfl) (by decide) (fun _ => by kernel_rfl) (fun _ => by kernel_rfl) (fun _ => by kernel_rfl) (eqF_cons { name := "M", type := 32, offset := 1, embedded := false, tag := "", pkgPath := "", byteOffset := 8 } (fs := []) (u := a.m.v) (v := b.m.v) (r := decide (a.m = b.m)) (by kernel_rfl) (by decide) (fun _ => by kernel_rfl) (fun _ => by kernel_rfl) (eqIn_Mark (d + 0) a.m b.m) (eqF_nil (by kernel_rfl)))) w
  rw [h]; congr 1
  obtain ⟨x0, x1⟩ := a; obtain ⟨y0, y1⟩ := b; rw [Bool.eq_iff_iff]; simp
theorem eq_One (w : World) (a b : One) : (Op.equal 90 a.v b.v).run Try.prog w = .ok (decide (a = b)) w := eqIn_One 9996 a b w
theorem One.eqi (a b : One) : a = b ↔ a.id = b.id ∧ a.m.clock = b.m.clock ∧ a.m.site.f = b.m.site.f ∧ a.m.site.pc = b.m.site.pc := by
  obtain ⟨x0, x1⟩ := a; obtain ⟨y0, y1⟩ := b; first | (simp [Mark.eqi]; done) | (simp [Mark.eqi, and_assoc]; done)

def getP2 (P : PV) (h id : Int) : Option Mark := ((allP P h).find? fun x => decide (x.id = id)).map (·.m)
def beyP2 (P : PV) (h : Int) (c : List Int) : Option One := (allP P h).find? fun x => decide (x.m.clock > getC c x.id)
def liveN (P : PV) (n : Nat) : List Int := ((List.range n).map fun i : Nat => (i : Int) + 1).filter (thereP P)
theorem liveN_yes {P : PV} {n : Nat} (h : thereP P ((n : Int) + 1) = true) : liveN P (n + 1) = liveN P n ++ [(n : Int) + 1] := by unfold liveN; rw [List.range_succ, List.map_append, List.filter_append]; simp [h]
theorem liveN_no {P : PV} {n : Nat} (h : thereP P ((n : Int) + 1) = false) : liveN P (n + 1) = liveN P n := by unfold liveN; rw [List.range_succ, List.map_append, List.filter_append]; simp [h]
set_option maxRecDepth 100000 in
theorem e_rmark (A_V : Option Addr) (c_V : Nat) (V : List VecE) (h : Int) (id : Int) (m : Mark) (w : World) (hr_V : RowAt w A_V 2 enVecE V) (hc_V : V.length ≤ c_V) (hn_V : (nestR innerVecE V).p w) (hk_V : ∀ x_ ∈ V, capVecE x_) (hl : V.length ≤ 900) (hL : ∀ y ∈ V, y.l.length ≤ 1000) : Calls Try.prog 35 #[Value.agg #[Value.slice A_V V.length c_V], Value.int .i64 h, Value.int .i64 id, m.v] w (fun e w' => ∃ V' : List VecE, ∃ bad : Int, ∃ (A_o : Option Addr) (c_o : Nat), e = .returned (Value.tuple #[Value.agg #[Value.slice A_o (V').length c_o], Value.int .i64 bad]) ∧ (MarkPR (pv V) h id m (pv V') bad) ∧ (V').length ≤ c_o ∧ (∀ x_ ∈ (V'), capVecE x_) ∧ (roR A_o 2 enVecE V').from_ [roR A_V 2 enVecE V, nestR innerVecE V] w w' ∧ (nestR innerVecE V').from_ [roR A_V 2 enVecE V, nestR innerVecE V] w w' ∧ Fr No w w') := by
 have _hu := hc_V; have _hv := hr_V; clear _hu _hv
 have _hu := hk_V; have _hv := hn_V; clear _hu _hv
 have _hu := hl; clear _hu
 have _hu := hL; clear _hu
 refine enter_E 99 Try.func35 rfl rfl (by kernel_rfl) (L := [(0, Value.agg #[Value.slice A_V V.length c_V]), (1, Value.int .i64 h), (2, Value.int .i64 id), (3, m.v)]) (by kernel_rfl) ?_
 intro ac hA
 have hW := Ws.start w No
 have hW := hW.arg hr_V
 have hW := hW.addG _ hn_V (nest_ltVecE hn_V) (by simp)
 refine wp_seq ?_
 refine wp_region_lit ?_
 refine st hA (by kernel_rfl) (by kernel_rfl) (by kernel_rfl) (Runs.cells (fun b => Value.pointer (some ⟨b, 0, none⟩)) #[Value.slice A_V V.length c_V] 51 (fun _ => by kernel_rfl) hW ?_); clear hA ac hW; intro b1 w2 hW hb1 hfw2 ac hA
 refine st hA (by kernel_rfl) (by kernel_rfl) (by kernel_rfl) (Runs.cells (fun b => Value.pointer (some ⟨b, 0, none⟩)) #[Value.int .u64 m.clock, Value.int .i64 m.site.f, Value.int .i64 m.site.pc] 32 (fun _ => by kernel_rfl) hW ?_); clear hA ac hW; intro b3 w4 hW hb3 hfw4 ac hA
 refine st hA (by kernel_rfl) (by kernel_rfl) (by kernel_rfl) (Runs.cells (fun b => Value.pointer (some ⟨b, 0, none⟩)) #[Value.slice none 0 0] 51 (fun _ => by kernel_rfl) hW ?_); clear hA ac hW; intro b5 w6 hW hb5 hfw6 ac hA
 refine st_rd (v := Value.int .i64 0) hA (by kernel_rfl) (by kernel_rfl) (by kernel_rfl) hW.cls (Rd.pure fun _ => by kernel_rfl) ?_; clear hA ac; intro ac hA
 refine wpList_nil ?_
 refine thenN ?_
 refine wp_seq ?_
 refine wp_seq ?_
 rcases Bool.eq_false_or_eq_true (fineM id m) with h7 | h7
 · skip
   first
   | (exfalso; clear hA hW; omega)
   | (exfalso; clear hA hW; have q_ := h7; unfold fineM at q_; simp only [Bool.and_eq_true, decide_eq_true_eq] at q_; omega; done)
   | (exfalso; clear hA hW; have q_ := h7; unfold fineM at q_; simp only [Bool.and_eq_true, decide_eq_true_eq] at q_; rw [q_.2] at h7; cases h7; done)
   | (
     refine wp_region_lit ?_
     refine st_rd (v := Value.int .i64 id) hA (by kernel_rfl) (by kernel_rfl) (by kernel_rfl) hW.cls (Rd.pure fun _ => by kernel_rfl) ?_; clear hA ac; intro ac hA
     refine st_rd (v := Value.bool (decide ((id : Int) < (0 : Int)))) hA (by kernel_rfl) (by kernel_rfl) (by kernel_rfl) hW.cls (Rd.pure fun _ => by kernel_rfl) ?_; clear hA ac; intro ac hA
     refine st_rd (v := Value.bool (decide ((id : Int) < (0 : Int)))) hA (by kernel_rfl) (by kernel_rfl) (by kernel_rfl) hW.cls (Rd.pure fun _ => by kernel_rfl) ?_; clear hA ac; intro ac hA
     rcases Bool.eq_false_or_eq_true (decide ((id : Int) < (0 : Int))) with h8 | h8
     · skip
       rw [h8] at hA
       have h8 := of_decide_eq_true h8
       first
       | (exfalso; clear hA hW; omega)
       | (exfalso; clear hA hW; have q_ := h7; unfold fineM at q_; simp only [Bool.and_eq_true, decide_eq_true_eq] at q_; omega; done)
       | (exfalso; clear hA hW; have q_ := h7; unfold fineM at q_; simp only [Bool.and_eq_true, decide_eq_true_eq] at q_; rw [q_.2] at h8; cases h8; done)
       | (
         refine st_skip hA (by kernel_rfl) (by kernel_rfl) ?_; clear hA ac; intro ac hA
         refine st_skip hA (by kernel_rfl) (by kernel_rfl) ?_; clear hA ac; intro ac hA
         refine st_rd (v := Value.bool true) hA (by kernel_rfl) (by kernel_rfl) (by kernel_rfl) hW.cls (Rd.pure fun _ => by kernel_rfl) ?_; clear hA ac; intro ac hA
         refine st_rd (v := Value.bool true) hA (by kernel_rfl) (by kernel_rfl) (by kernel_rfl) hW.cls (Rd.pure fun _ => by kernel_rfl) ?_; clear hA ac; intro ac hA
         refine st_skip hA (by kernel_rfl) (by kernel_rfl) ?_; clear hA ac; intro ac hA
         refine st_skip hA (by kernel_rfl) (by kernel_rfl) ?_; clear hA ac; intro ac hA
         refine st_skip hA (by kernel_rfl) (by kernel_rfl) ?_; clear hA ac; intro ac hA
         refine st_rd (v := Value.bool true) hA (by kernel_rfl) (by kernel_rfl) (by kernel_rfl) hW.cls (Rd.pure fun _ => by kernel_rfl) ?_; clear hA ac; intro ac hA
         refine st_rd (v := Value.bool true) hA (by kernel_rfl) (by kernel_rfl) (by kernel_rfl) hW.cls (Rd.pure fun _ => by kernel_rfl) ?_; clear hA ac; intro ac hA
         refine st_skip hA (by kernel_rfl) (by kernel_rfl) ?_; clear hA ac; intro ac hA
         refine st_skip hA (by kernel_rfl) (by kernel_rfl) ?_; clear hA ac; intro ac hA
         refine st_skip hA (by kernel_rfl) (by kernel_rfl) ?_; clear hA ac; intro ac hA
         refine st_rd (v := Value.bool true) hA (by kernel_rfl) (by kernel_rfl) (by kernel_rfl) hW.cls (Rd.pure fun _ => by kernel_rfl) ?_; clear hA ac; intro ac hA
         refine st_rd (v := Value.bool true) hA (by kernel_rfl) (by kernel_rfl) (by kernel_rfl) hW.cls (Rd.pure fun _ => by kernel_rfl) ?_; clear hA ac; intro ac hA
         refine st_skip hA (by kernel_rfl) (by kernel_rfl) ?_; clear hA ac; intro ac hA
         refine st_skip hA (by kernel_rfl) (by kernel_rfl) ?_; clear hA ac; intro ac hA
         refine st_skip hA (by kernel_rfl) (by kernel_rfl) ?_; clear hA ac; intro ac hA
         refine st_skip hA (by kernel_rfl) (by kernel_rfl) ?_; clear hA ac; intro ac hA
         refine st_rd (v := Value.bool true) hA (by kernel_rfl) (by kernel_rfl) (by kernel_rfl) hW.cls (Rd.pure fun _ => by kernel_rfl) ?_; clear hA ac; intro ac hA
         refine wpList_nil ?_
         refine thenN ?_
         refine wp_cond_true (hA.eval (by kernel_rfl)) ?_
         refine wp_seq ?_
         refine wp_region_lit ?_
         refine st_rd (v := Value.agg #[Value.slice A_V V.length c_V]) hA (by kernel_rfl) (by kernel_rfl) (by kernel_rfl) hW.cls (Rd.load (b := b1) (i := 0) (by kernel_rfl) (fun _ hw => (hw.1).cel 2 rfl) (by kernel_rfl)) ?_; clear hA ac; intro ac hA
         refine st hA (by kernel_rfl) (by kernel_rfl) (by kernel_rfl) (Runs.store (v := Value.agg #[Value.slice A_V V.length c_V]) (b := b5) (j := 0) (n := 1) (cs' := #[Value.slice A_V V.length c_V]) (H' := [Cel b5 #[Value.slice A_V V.length c_V] 51, Cel b3 #[Value.int .u64 m.clock, Value.int .i64 m.site.f, Value.int .i64 m.site.pc] 32, Cel b1 #[Value.slice A_V V.length c_V] 51]) (by kernel_rfl) (by kernel_rfl) (by kernel_rfl) (by kernel_rfl) (by kernel_rfl) hW 0 (by rfl) (Nat.le_of_ble_eq_true (by kernel_rfl)) (by kernel_rfl) (by rfl) ?_); clear hA ac hW; intro w9 hW ac hA
         refine st_rd (v := Value.int .i64 2) hA (by kernel_rfl) (by kernel_rfl) (by kernel_rfl) hW.cls (Rd.pure fun _ => by kernel_rfl) ?_; clear hA ac; intro ac hA
         refine wpList_nil ?_
         refine thenN ?_
         refine wp_ret ?_
         refine thenR ?_
         refine ret2 (v1 := Value.agg #[Value.slice A_V V.length c_V]) (v2 := Value.int .i64 2) (by rfl) hA (Got.cell (b := b5) (i := 0) hA (by kernel_rfl) (by kernel_rfl) (hW.cel 0 rfl) (by kernel_rfl)) (Got.tmp hA (by kernel_rfl) (by kernel_rfl)) ?_
         clear hA
         exact ⟨V, 2, A_V, c_V, by first | rfl | (simp; done), by unfold MarkPR; rw [if_pos h7]; exact ⟨rfl, rfl⟩, (by first | assumption | omega | (simp; omega) | simp), hk_V, (hW.outSrc 1 rfl (src_arg (.head _))), (hW.outSrc 0 rfl (src_arg (.tail _ (.head _)))), hW.fr⟩)
     · skip
       rw [h8] at hA
       have h8 := of_decide_eq_false h8
       first
       | (exfalso; clear hA hW; omega)
       | (exfalso; clear hA hW; have q_ := h7; unfold fineM at q_; simp only [Bool.and_eq_true, decide_eq_true_eq] at q_; omega; done)
       | (exfalso; clear hA hW; have q_ := h7; unfold fineM at q_; simp only [Bool.and_eq_true, decide_eq_true_eq] at q_; rw [q_.2] at h8; cases h8; done)
       | (
         refine st_rd (v := Value.int .i64 id) hA (by kernel_rfl) (by kernel_rfl) (by kernel_rfl) hW.cls (Rd.pure fun _ => by kernel_rfl) ?_; clear hA ac; intro ac hA
         refine st_rd (v := Value.bool (decide ((id : Int) > (65535 : Int)))) hA (by kernel_rfl) (by kernel_rfl) (by kernel_rfl) hW.cls (Rd.pure fun _ => by kernel_rfl) ?_; clear hA ac; intro ac hA
         refine st_rd (v := Value.bool (decide ((id : Int) > (65535 : Int)))) hA (by kernel_rfl) (by kernel_rfl) (by kernel_rfl) hW.cls (Rd.pure fun _ => by kernel_rfl) ?_; clear hA ac; intro ac hA
         refine st_rd (v := Value.bool (decide ((id : Int) > (65535 : Int)))) hA (by kernel_rfl) (by kernel_rfl) (by kernel_rfl) hW.cls (Rd.pure fun _ => by kernel_rfl) ?_; clear hA ac; intro ac hA
         rcases Bool.eq_false_or_eq_true (decide ((id : Int) > (65535 : Int))) with h10 | h10
         · skip
           rw [h10] at hA
           have h10 := of_decide_eq_true h10
           first
           | (exfalso; clear hA hW; omega)
           | (exfalso; clear hA hW; have q_ := h7; unfold fineM at q_; simp only [Bool.and_eq_true, decide_eq_true_eq] at q_; omega; done)
           | (exfalso; clear hA hW; have q_ := h7; unfold fineM at q_; simp only [Bool.and_eq_true, decide_eq_true_eq] at q_; rw [q_.2] at h10; cases h10; done)
           | (
             refine st_skip hA (by kernel_rfl) (by kernel_rfl) ?_; clear hA ac; intro ac hA
             refine st_skip hA (by kernel_rfl) (by kernel_rfl) ?_; clear hA ac; intro ac hA
             refine st_skip hA (by kernel_rfl) (by kernel_rfl) ?_; clear hA ac; intro ac hA
             refine st_rd (v := Value.bool true) hA (by kernel_rfl) (by kernel_rfl) (by kernel_rfl) hW.cls (Rd.pure fun _ => by kernel_rfl) ?_; clear hA ac; intro ac hA
             refine st_rd (v := Value.bool true) hA (by kernel_rfl) (by kernel_rfl) (by kernel_rfl) hW.cls (Rd.pure fun _ => by kernel_rfl) ?_; clear hA ac; intro ac hA
             refine st_skip hA (by kernel_rfl) (by kernel_rfl) ?_; clear hA ac; intro ac hA
             refine st_skip hA (by kernel_rfl) (by kernel_rfl) ?_; clear hA ac; intro ac hA
             refine st_skip hA (by kernel_rfl) (by kernel_rfl) ?_; clear hA ac; intro ac hA
             refine st_rd (v := Value.bool true) hA (by kernel_rfl) (by kernel_rfl) (by kernel_rfl) hW.cls (Rd.pure fun _ => by kernel_rfl) ?_; clear hA ac; intro ac hA
             refine st_rd (v := Value.bool true) hA (by kernel_rfl) (by kernel_rfl) (by kernel_rfl) hW.cls (Rd.pure fun _ => by kernel_rfl) ?_; clear hA ac; intro ac hA
             refine st_skip hA (by kernel_rfl) (by kernel_rfl) ?_; clear hA ac; intro ac hA
             refine st_skip hA (by kernel_rfl) (by kernel_rfl) ?_; clear hA ac; intro ac hA
             refine st_skip hA (by kernel_rfl) (by kernel_rfl) ?_; clear hA ac; intro ac hA
             refine st_skip hA (by kernel_rfl) (by kernel_rfl) ?_; clear hA ac; intro ac hA
             refine st_rd (v := Value.bool true) hA (by kernel_rfl) (by kernel_rfl) (by kernel_rfl) hW.cls (Rd.pure fun _ => by kernel_rfl) ?_; clear hA ac; intro ac hA
             refine wpList_nil ?_
             refine thenN ?_
             refine wp_cond_true (hA.eval (by kernel_rfl)) ?_
             refine wp_seq ?_
             refine wp_region_lit ?_
             refine st_rd (v := Value.agg #[Value.slice A_V V.length c_V]) hA (by kernel_rfl) (by kernel_rfl) (by kernel_rfl) hW.cls (Rd.load (b := b1) (i := 0) (by kernel_rfl) (fun _ hw => (hw.1).cel 2 rfl) (by kernel_rfl)) ?_; clear hA ac; intro ac hA
             refine st hA (by kernel_rfl) (by kernel_rfl) (by kernel_rfl) (Runs.store (v := Value.agg #[Value.slice A_V V.length c_V]) (b := b5) (j := 0) (n := 1) (cs' := #[Value.slice A_V V.length c_V]) (H' := [Cel b5 #[Value.slice A_V V.length c_V] 51, Cel b3 #[Value.int .u64 m.clock, Value.int .i64 m.site.f, Value.int .i64 m.site.pc] 32, Cel b1 #[Value.slice A_V V.length c_V] 51]) (by kernel_rfl) (by kernel_rfl) (by kernel_rfl) (by kernel_rfl) (by kernel_rfl) hW 0 (by rfl) (Nat.le_of_ble_eq_true (by kernel_rfl)) (by kernel_rfl) (by rfl) ?_); clear hA ac hW; intro w11 hW ac hA
             refine st_rd (v := Value.int .i64 2) hA (by kernel_rfl) (by kernel_rfl) (by kernel_rfl) hW.cls (Rd.pure fun _ => by kernel_rfl) ?_; clear hA ac; intro ac hA
             refine wpList_nil ?_
             refine thenN ?_
             refine wp_ret ?_
             refine thenR ?_
             refine ret2 (v1 := Value.agg #[Value.slice A_V V.length c_V]) (v2 := Value.int .i64 2) (by rfl) hA (Got.cell (b := b5) (i := 0) hA (by kernel_rfl) (by kernel_rfl) (hW.cel 0 rfl) (by kernel_rfl)) (Got.tmp hA (by kernel_rfl) (by kernel_rfl)) ?_
             clear hA
             exact ⟨V, 2, A_V, c_V, by first | rfl | (simp; done), by unfold MarkPR; rw [if_pos h7]; exact ⟨rfl, rfl⟩, (by first | assumption | omega | (simp; omega) | simp), hk_V, (hW.outSrc 1 rfl (src_arg (.head _))), (hW.outSrc 0 rfl (src_arg (.tail _ (.head _)))), hW.fr⟩)
         · skip
           rw [h10] at hA
           have h10 := of_decide_eq_false h10
           first
           | (exfalso; clear hA hW; omega)
           | (exfalso; clear hA hW; have q_ := h7; unfold fineM at q_; simp only [Bool.and_eq_true, decide_eq_true_eq] at q_; omega; done)
           | (exfalso; clear hA hW; have q_ := h7; unfold fineM at q_; simp only [Bool.and_eq_true, decide_eq_true_eq] at q_; rw [q_.2] at h10; cases h10; done)
           | (
             refine st_rd (v := Value.pointer (some ⟨b3, 0, none⟩)) hA (by kernel_rfl) (by kernel_rfl) (by kernel_rfl) hW.cls (Rd.pure fun _ => by kernel_rfl) ?_; clear hA ac; intro ac hA
             refine st_rd (v := Value.int .u64 m.clock) hA (by kernel_rfl) (by kernel_rfl) (by kernel_rfl) hW.cls (Rd.load (b := b3) (i := 0) (by kernel_rfl) (fun _ hw => (hw.1).cel 1 rfl) (by kernel_rfl)) ?_; clear hA ac; intro ac hA
             refine st_rd (v := Value.bool (decide ((m.clock : Int) < (1 : Int)))) hA (by kernel_rfl) (by kernel_rfl) (by kernel_rfl) hW.cls (Rd.pure fun _ => by kernel_rfl) ?_; clear hA ac; intro ac hA
             refine st_rd (v := Value.bool (decide ((m.clock : Int) < (1 : Int)))) hA (by kernel_rfl) (by kernel_rfl) (by kernel_rfl) hW.cls (Rd.pure fun _ => by kernel_rfl) ?_; clear hA ac; intro ac hA
             refine st_rd (v := Value.bool (decide ((m.clock : Int) < (1 : Int)))) hA (by kernel_rfl) (by kernel_rfl) (by kernel_rfl) hW.cls (Rd.pure fun _ => by kernel_rfl) ?_; clear hA ac; intro ac hA
             rcases Bool.eq_false_or_eq_true (decide ((m.clock : Int) < (1 : Int))) with h12 | h12
             · skip
               rw [h12] at hA
               have h12 := of_decide_eq_true h12
               first
               | (exfalso; clear hA hW; omega)
               | (exfalso; clear hA hW; have q_ := h7; unfold fineM at q_; simp only [Bool.and_eq_true, decide_eq_true_eq] at q_; omega; done)
               | (exfalso; clear hA hW; have q_ := h7; unfold fineM at q_; simp only [Bool.and_eq_true, decide_eq_true_eq] at q_; rw [q_.2] at h12; cases h12; done)
               | (
                 refine st_skip hA (by kernel_rfl) (by kernel_rfl) ?_; clear hA ac; intro ac hA
                 refine st_skip hA (by kernel_rfl) (by kernel_rfl) ?_; clear hA ac; intro ac hA
                 refine st_skip hA (by kernel_rfl) (by kernel_rfl) ?_; clear hA ac; intro ac hA
                 refine st_rd (v := Value.bool true) hA (by kernel_rfl) (by kernel_rfl) (by kernel_rfl) hW.cls (Rd.pure fun _ => by kernel_rfl) ?_; clear hA ac; intro ac hA
                 refine st_rd (v := Value.bool true) hA (by kernel_rfl) (by kernel_rfl) (by kernel_rfl) hW.cls (Rd.pure fun _ => by kernel_rfl) ?_; clear hA ac; intro ac hA
                 refine st_skip hA (by kernel_rfl) (by kernel_rfl) ?_; clear hA ac; intro ac hA
                 refine st_skip hA (by kernel_rfl) (by kernel_rfl) ?_; clear hA ac; intro ac hA
                 refine st_skip hA (by kernel_rfl) (by kernel_rfl) ?_; clear hA ac; intro ac hA
                 refine st_skip hA (by kernel_rfl) (by kernel_rfl) ?_; clear hA ac; intro ac hA
                 refine st_rd (v := Value.bool true) hA (by kernel_rfl) (by kernel_rfl) (by kernel_rfl) hW.cls (Rd.pure fun _ => by kernel_rfl) ?_; clear hA ac; intro ac hA
                 refine wpList_nil ?_
                 refine thenN ?_
                 refine wp_cond_true (hA.eval (by kernel_rfl)) ?_
                 refine wp_seq ?_
                 refine wp_region_lit ?_
                 refine st_rd (v := Value.agg #[Value.slice A_V V.length c_V]) hA (by kernel_rfl) (by kernel_rfl) (by kernel_rfl) hW.cls (Rd.load (b := b1) (i := 0) (by kernel_rfl) (fun _ hw => (hw.1).cel 2 rfl) (by kernel_rfl)) ?_; clear hA ac; intro ac hA
                 refine st hA (by kernel_rfl) (by kernel_rfl) (by kernel_rfl) (Runs.store (v := Value.agg #[Value.slice A_V V.length c_V]) (b := b5) (j := 0) (n := 1) (cs' := #[Value.slice A_V V.length c_V]) (H' := [Cel b5 #[Value.slice A_V V.length c_V] 51, Cel b3 #[Value.int .u64 m.clock, Value.int .i64 m.site.f, Value.int .i64 m.site.pc] 32, Cel b1 #[Value.slice A_V V.length c_V] 51]) (by kernel_rfl) (by kernel_rfl) (by kernel_rfl) (by kernel_rfl) (by kernel_rfl) hW 0 (by rfl) (Nat.le_of_ble_eq_true (by kernel_rfl)) (by kernel_rfl) (by rfl) ?_); clear hA ac hW; intro w13 hW ac hA
                 refine st_rd (v := Value.int .i64 2) hA (by kernel_rfl) (by kernel_rfl) (by kernel_rfl) hW.cls (Rd.pure fun _ => by kernel_rfl) ?_; clear hA ac; intro ac hA
                 refine wpList_nil ?_
                 refine thenN ?_
                 refine wp_ret ?_
                 refine thenR ?_
                 refine ret2 (v1 := Value.agg #[Value.slice A_V V.length c_V]) (v2 := Value.int .i64 2) (by rfl) hA (Got.cell (b := b5) (i := 0) hA (by kernel_rfl) (by kernel_rfl) (hW.cel 0 rfl) (by kernel_rfl)) (Got.tmp hA (by kernel_rfl) (by kernel_rfl)) ?_
                 clear hA
                 exact ⟨V, 2, A_V, c_V, by first | rfl | (simp; done), by unfold MarkPR; rw [if_pos h7]; exact ⟨rfl, rfl⟩, (by first | assumption | omega | (simp; omega) | simp), hk_V, (hW.outSrc 1 rfl (src_arg (.head _))), (hW.outSrc 0 rfl (src_arg (.tail _ (.head _)))), hW.fr⟩)
             · skip
               rw [h12] at hA
               have h12 := of_decide_eq_false h12
               first
               | (exfalso; clear hA hW; omega)
               | (exfalso; clear hA hW; have q_ := h7; unfold fineM at q_; simp only [Bool.and_eq_true, decide_eq_true_eq] at q_; omega; done)
               | (exfalso; clear hA hW; have q_ := h7; unfold fineM at q_; simp only [Bool.and_eq_true, decide_eq_true_eq] at q_; rw [q_.2] at h12; cases h12; done)
               | (
                 refine st_rd (v := Value.pointer (some ⟨b3, 0, none⟩)) hA (by kernel_rfl) (by kernel_rfl) (by kernel_rfl) hW.cls (Rd.pure fun _ => by kernel_rfl) ?_; clear hA ac; intro ac hA
                 refine st_rd (v := Value.int .u64 m.clock) hA (by kernel_rfl) (by kernel_rfl) (by kernel_rfl) hW.cls (Rd.load (b := b3) (i := 0) (by kernel_rfl) (fun _ hw => (hw.1).cel 1 rfl) (by kernel_rfl)) ?_; clear hA ac; intro ac hA
                 refine st_rd (v := Value.bool (decide ((m.clock : Int) > (281474976710655 : Int)))) hA (by kernel_rfl) (by kernel_rfl) (by kernel_rfl) hW.cls (Rd.pure fun _ => by kernel_rfl) ?_; clear hA ac; intro ac hA
                 refine st_rd (v := Value.bool (decide ((m.clock : Int) > (281474976710655 : Int)))) hA (by kernel_rfl) (by kernel_rfl) (by kernel_rfl) hW.cls (Rd.pure fun _ => by kernel_rfl) ?_; clear hA ac; intro ac hA
                 refine st_rd (v := Value.bool (decide ((m.clock : Int) > (281474976710655 : Int)))) hA (by kernel_rfl) (by kernel_rfl) (by kernel_rfl) hW.cls (Rd.pure fun _ => by kernel_rfl) ?_; clear hA ac; intro ac hA
                 rcases Bool.eq_false_or_eq_true (decide ((m.clock : Int) > (281474976710655 : Int))) with h14 | h14
                 · skip
                   rw [h14] at hA
                   have h14 := of_decide_eq_true h14
                   first
                   | (exfalso; clear hA hW; omega)
                   | (exfalso; clear hA hW; have q_ := h7; unfold fineM at q_; simp only [Bool.and_eq_true, decide_eq_true_eq] at q_; omega; done)
                   | (exfalso; clear hA hW; have q_ := h7; unfold fineM at q_; simp only [Bool.and_eq_true, decide_eq_true_eq] at q_; rw [q_.2] at h14; cases h14; done)
                   | (
                     refine st_skip hA (by kernel_rfl) (by kernel_rfl) ?_; clear hA ac; intro ac hA
                     refine st_skip hA (by kernel_rfl) (by kernel_rfl) ?_; clear hA ac; intro ac hA
                     refine st_skip hA (by kernel_rfl) (by kernel_rfl) ?_; clear hA ac; intro ac hA
                     refine st_skip hA (by kernel_rfl) (by kernel_rfl) ?_; clear hA ac; intro ac hA
                     refine st_rd (v := Value.bool true) hA (by kernel_rfl) (by kernel_rfl) (by kernel_rfl) hW.cls (Rd.pure fun _ => by kernel_rfl) ?_; clear hA ac; intro ac hA
                     refine wpList_nil ?_
                     refine thenN ?_
                     refine wp_cond_true (hA.eval (by kernel_rfl)) ?_
                     refine wp_seq ?_
                     refine wp_region_lit ?_
                     refine st_rd (v := Value.agg #[Value.slice A_V V.length c_V]) hA (by kernel_rfl) (by kernel_rfl) (by kernel_rfl) hW.cls (Rd.load (b := b1) (i := 0) (by kernel_rfl) (fun _ hw => (hw.1).cel 2 rfl) (by kernel_rfl)) ?_; clear hA ac; intro ac hA
                     refine st hA (by kernel_rfl) (by kernel_rfl) (by kernel_rfl) (Runs.store (v := Value.agg #[Value.slice A_V V.length c_V]) (b := b5) (j := 0) (n := 1) (cs' := #[Value.slice A_V V.length c_V]) (H' := [Cel b5 #[Value.slice A_V V.length c_V] 51, Cel b3 #[Value.int .u64 m.clock, Value.int .i64 m.site.f, Value.int .i64 m.site.pc] 32, Cel b1 #[Value.slice A_V V.length c_V] 51]) (by kernel_rfl) (by kernel_rfl) (by kernel_rfl) (by kernel_rfl) (by kernel_rfl) hW 0 (by rfl) (Nat.le_of_ble_eq_true (by kernel_rfl)) (by kernel_rfl) (by rfl) ?_); clear hA ac hW; intro w15 hW ac hA
                     refine st_rd (v := Value.int .i64 2) hA (by kernel_rfl) (by kernel_rfl) (by kernel_rfl) hW.cls (Rd.pure fun _ => by kernel_rfl) ?_; clear hA ac; intro ac hA
                     refine wpList_nil ?_
                     refine thenN ?_
                     refine wp_ret ?_
                     refine thenR ?_
                     refine ret2 (v1 := Value.agg #[Value.slice A_V V.length c_V]) (v2 := Value.int .i64 2) (by rfl) hA (Got.cell (b := b5) (i := 0) hA (by kernel_rfl) (by kernel_rfl) (hW.cel 0 rfl) (by kernel_rfl)) (Got.tmp hA (by kernel_rfl) (by kernel_rfl)) ?_
                     clear hA
                     exact ⟨V, 2, A_V, c_V, by first | rfl | (simp; done), by unfold MarkPR; rw [if_pos h7]; exact ⟨rfl, rfl⟩, (by first | assumption | omega | (simp; omega) | simp), hk_V, (hW.outSrc 1 rfl (src_arg (.head _))), (hW.outSrc 0 rfl (src_arg (.tail _ (.head _)))), hW.fr⟩)
                 · skip
                   rw [h14] at hA
                   have h14 := of_decide_eq_false h14
                   first
                   | (exfalso; clear hA hW; omega)
                   | (exfalso; clear hA hW; have q_ := h7; unfold fineM at q_; simp only [Bool.and_eq_true, decide_eq_true_eq] at q_; omega; done)
                   | (exfalso; clear hA hW; have q_ := h7; unfold fineM at q_; simp only [Bool.and_eq_true, decide_eq_true_eq] at q_; rw [q_.2] at h14; cases h14; done)
                   | (
                     refine st_rd (v := Value.pointer (some ⟨b3, 1, none⟩)) hA (by kernel_rfl) (by kernel_rfl) (by kernel_rfl) hW.cls (Rd.pure fun _ => by kernel_rfl) ?_; clear hA ac; intro ac hA
                     refine st_rd (v := Value.agg #[Value.int .i64 m.site.f, Value.int .i64 m.site.pc]) hA (by kernel_rfl) (by kernel_rfl) (by kernel_rfl) hW.cls (Rd.load (b := b3) (i := 1) (by kernel_rfl) (fun _ hw => (hw.1).cel 1 rfl) (by kernel_rfl)) ?_; clear hA ac; intro ac hA
                     refine st hA (by kernel_rfl) (by kernel_rfl) (by kernel_rfl) (Runs.callN (v := Value.bool (Site.ok m.site)) (fun _ => by kernel_rfl) hW (e_siRight m.site w6) ?_); clear hA ac hW; intro w16 hW hfw16 ac hA
                     refine st_rd (v := Value.bool (!(Site.ok m.site))) hA (by kernel_rfl) (by kernel_rfl) (by kernel_rfl) hW.cls (Rd.pure fun _ => by kernel_rfl) ?_; clear hA ac; intro ac hA
                     refine st_rd (v := Value.bool (!(Site.ok m.site))) hA (by kernel_rfl) (by kernel_rfl) (by kernel_rfl) hW.cls (Rd.pure fun _ => by kernel_rfl) ?_; clear hA ac; intro ac hA
                     refine wpList_nil ?_
                     refine thenN ?_
                     refine wp_cond_split (t := !(Site.ok m.site)) (hA.eval (by kernel_rfl)) (fun h17 => ?_) (fun h17 => ?_)
                     · skip
                       have h17 := not_t h17
                       first
                       | (exfalso; clear hA hW; omega)
                       | (exfalso; clear hA hW; have q_ := h7; unfold fineM at q_; simp only [Bool.and_eq_true, decide_eq_true_eq] at q_; omega; done)
                       | (exfalso; clear hA hW; have q_ := h7; unfold fineM at q_; simp only [Bool.and_eq_true, decide_eq_true_eq] at q_; rw [q_.2] at h17; cases h17; done)
                       | (
                         refine wp_seq ?_
                         refine wp_region_lit ?_
                         refine st_rd (v := Value.agg #[Value.slice A_V V.length c_V]) hA (by kernel_rfl) (by kernel_rfl) (by kernel_rfl) hW.cls (Rd.load (b := b1) (i := 0) (by kernel_rfl) (fun _ hw => (hw.1).cel 2 rfl) (by kernel_rfl)) ?_; clear hA ac; intro ac hA
                         refine st hA (by kernel_rfl) (by kernel_rfl) (by kernel_rfl) (Runs.store (v := Value.agg #[Value.slice A_V V.length c_V]) (b := b5) (j := 0) (n := 1) (cs' := #[Value.slice A_V V.length c_V]) (H' := [Cel b5 #[Value.slice A_V V.length c_V] 51, Cel b3 #[Value.int .u64 m.clock, Value.int .i64 m.site.f, Value.int .i64 m.site.pc] 32, Cel b1 #[Value.slice A_V V.length c_V] 51]) (by kernel_rfl) (by kernel_rfl) (by kernel_rfl) (by kernel_rfl) (by kernel_rfl) hW 0 (by rfl) (Nat.le_of_ble_eq_true (by kernel_rfl)) (by kernel_rfl) (by rfl) ?_); clear hA ac hW; intro w18 hW ac hA
                         refine st_rd (v := Value.int .i64 2) hA (by kernel_rfl) (by kernel_rfl) (by kernel_rfl) hW.cls (Rd.pure fun _ => by kernel_rfl) ?_; clear hA ac; intro ac hA
                         refine wpList_nil ?_
                         refine thenN ?_
                         refine wp_ret ?_
                         refine thenR ?_
                         refine ret2 (v1 := Value.agg #[Value.slice A_V V.length c_V]) (v2 := Value.int .i64 2) (by rfl) hA (Got.cell (b := b5) (i := 0) hA (by kernel_rfl) (by kernel_rfl) (hW.cel 0 rfl) (by kernel_rfl)) (Got.tmp hA (by kernel_rfl) (by kernel_rfl)) ?_
                         clear hA
                         exact ⟨V, 2, A_V, c_V, by first | rfl | (simp; done), by unfold MarkPR; rw [if_pos h7]; exact ⟨rfl, rfl⟩, (by first | assumption | omega | (simp; omega) | simp), hk_V, (hW.outSrc 1 rfl (src_arg (.head _))), (hW.outSrc 0 rfl (src_arg (.tail _ (.head _)))), hW.fr⟩)
                     · skip
                       have h17 := not_f h17
                       first
                       | (exfalso; clear hA hW; omega)
                       | (exfalso; clear hA hW; have q_ := h7; unfold fineM at q_; simp only [Bool.and_eq_true, decide_eq_true_eq] at q_; omega; done)
                       | (exfalso; clear hA hW; have q_ := h7; unfold fineM at q_; simp only [Bool.and_eq_true, decide_eq_true_eq] at q_; rw [q_.2] at h17; cases h17; done)
                       | (
                         refine wp_skip ?_
                         refine thenN ?_
                         refine wp_seq ?_
                         refine wp_seq ?_
                         refine wp_region_lit ?_
                         refine st_rd (v := Value.agg #[Value.slice A_V V.length c_V]) hA (by kernel_rfl) (by kernel_rfl) (by kernel_rfl) hW.cls (Rd.load (b := b1) (i := 0) (by kernel_rfl) (fun _ hw => (hw.1).cel 2 rfl) (by kernel_rfl)) ?_; clear hA ac; intro ac hA
                         refine st_rd (v := Value.int .i64 h) hA (by kernel_rfl) (by kernel_rfl) (by kernel_rfl) hW.cls (Rd.pure fun _ => by kernel_rfl) ?_; clear hA ac; intro ac hA
                         refine st hA (by kernel_rfl) (by kernel_rfl) (by kernel_rfl) (Runs.callN (v := Value.bool (thereP (pv V) (h))) (fun _ => by kernel_rfl) hW (e_rthere A_V c_V V (h) w16 ((hW).getG 1 rfl) (by first | assumption | omega | (simp; omega) | simp) ((hW).getG 0 rfl) hk_V (by first | omega | (have := hL _ (List.mem_of_getElem? ‹_›); simp; omega) | (simp; omega) | simp)) ?_); clear hA ac hW; intro w19 hW hfw19 ac hA
                         refine st_rd (v := Value.bool (!(thereP (pv V) (h)))) hA (by kernel_rfl) (by kernel_rfl) (by kernel_rfl) hW.cls (Rd.pure fun _ => by kernel_rfl) ?_; clear hA ac; intro ac hA
                         refine wpList_nil ?_
                         refine thenN ?_
                         refine wp_cond_split (t := !(thereP (pv V) (h))) (hA.eval (by kernel_rfl)) (fun h20 => ?_) (fun h20 => ?_)
                         · skip
                           have h20 := not_t h20
                           first
                           | (exfalso; clear hA hW; omega)
                           | (exfalso; clear hA hW; have q_ := h7; unfold fineM at q_; simp only [Bool.and_eq_true, decide_eq_true_eq] at q_; omega; done)
                           | (exfalso; clear hA hW; have q_ := h7; unfold fineM at q_; simp only [Bool.and_eq_true, decide_eq_true_eq] at q_; rw [q_.2] at h20; cases h20; done)
                           | (
                             refine wp_seq ?_
                             refine wp_region_lit ?_
                             refine st_rd (v := Value.agg #[Value.slice A_V V.length c_V]) hA (by kernel_rfl) (by kernel_rfl) (by kernel_rfl) hW.cls (Rd.load (b := b1) (i := 0) (by kernel_rfl) (fun _ hw => (hw.1).cel 2 rfl) (by kernel_rfl)) ?_; clear hA ac; intro ac hA
                             refine st hA (by kernel_rfl) (by kernel_rfl) (by kernel_rfl) (Runs.store (v := Value.agg #[Value.slice A_V V.length c_V]) (b := b5) (j := 0) (n := 1) (cs' := #[Value.slice A_V V.length c_V]) (H' := [Cel b5 #[Value.slice A_V V.length c_V] 51, Cel b3 #[Value.int .u64 m.clock, Value.int .i64 m.site.f, Value.int .i64 m.site.pc] 32, Cel b1 #[Value.slice A_V V.length c_V] 51]) (by kernel_rfl) (by kernel_rfl) (by kernel_rfl) (by kernel_rfl) (by kernel_rfl) hW 0 (by rfl) (Nat.le_of_ble_eq_true (by kernel_rfl)) (by kernel_rfl) (by rfl) ?_); clear hA ac hW; intro w21 hW ac hA
                             refine st_rd (v := Value.int .i64 5) hA (by kernel_rfl) (by kernel_rfl) (by kernel_rfl) hW.cls (Rd.pure fun _ => by kernel_rfl) ?_; clear hA ac; intro ac hA
                             refine wpList_nil ?_
                             refine thenN ?_
                             refine wp_ret ?_
                             refine thenR ?_
                             refine ret2 (v1 := Value.agg #[Value.slice A_V V.length c_V]) (v2 := Value.int .i64 5) (by rfl) hA (Got.cell (b := b5) (i := 0) hA (by kernel_rfl) (by kernel_rfl) (hW.cel 0 rfl) (by kernel_rfl)) (Got.tmp hA (by kernel_rfl) (by kernel_rfl)) ?_
                             clear hA
                             exact ⟨V, 5, A_V, c_V, by first | rfl | (simp; done), by unfold MarkPR; rw [if_neg (by rw [h7]; simp), if_pos h20]; exact ⟨rfl, rfl⟩, (by first | assumption | omega | (simp; omega) | simp), hk_V, (hW.outSrc 1 rfl (src_arg (.head _))), (hW.outSrc 0 rfl (src_arg (.tail _ (.head _)))), hW.fr⟩)
                         · skip
                           have h20 := not_f h20
                           first
                           | (exfalso; clear hA hW; omega)
                           | (exfalso; clear hA hW; have q_ := h7; unfold fineM at q_; simp only [Bool.and_eq_true, decide_eq_true_eq] at q_; omega; done)
                           | (exfalso; clear hA hW; have q_ := h7; unfold fineM at q_; simp only [Bool.and_eq_true, decide_eq_true_eq] at q_; rw [q_.2] at h20; cases h20; done)
                           | (
                             refine wp_skip ?_
                             refine thenN ?_
                             refine wp_seq ?_
                             refine wp_region_lit ?_
                             refine st_rd (v := Value.slice none 0 0) hA (by kernel_rfl) (by kernel_rfl) (by kernel_rfl) hW.cls (Rd.pure fun _ => by kernel_rfl) ?_; clear hA ac; intro ac hA
                             refine wpList_nil ?_
                             refine thenN ?_
                             refine wp_seq ?_
                             refine wp_region_lit ?_
                             refine st_rd (v := Value.bool false) hA (by kernel_rfl) (by kernel_rfl) (by kernel_rfl) hW.cls (Rd.pure fun _ => by kernel_rfl) ?_; clear hA ac; intro ac hA
                             refine wpList_nil ?_
                             refine thenN ?_
                             refine wp_seq ?_
                             have hle_ := there_le h20; rw [pv_len] at hle_
                             refine wp_region_lit ?_
                             refine st_rd (v := Value.pointer (some ⟨b1, 0, none⟩)) hA (by kernel_rfl) (by kernel_rfl) (by kernel_rfl) hW.cls (Rd.pure fun _ => by kernel_rfl) ?_; clear hA ac; intro ac hA
                             refine st_rd (v := Value.slice A_V V.length c_V) hA (by kernel_rfl) (by kernel_rfl) (by kernel_rfl) hW.cls (Rd.load (b := b1) (i := 0) (by kernel_rfl) (fun _ hw => (hw.1).cel 2 rfl) (by kernel_rfl)) ?_; clear hA ac; intro ac hA
                             refine st_rd (v := Value.int .i64 h) hA (by kernel_rfl) (by kernel_rfl) (by kernel_rfl) hW.cls (Rd.pure fun _ => by kernel_rfl) ?_; clear hA ac; intro ac hA
                             refine st_rd (v := Value.int .i64 ((h : Int) - 1)) hA (by kernel_rfl) (by kernel_rfl) (by kernel_rfl) hW.cls (Rd.pureE (v0 := Value.int .i64 (IntKind.i64.wrap ((h : Int) - 1))) (fun _ => by kernel_rfl) (congrArg (Value.int .i64) ((w_i64 (x := (h : Int) - 1) (by omega) (by omega)).trans (by omega)))) ?_; clear hA ac; intro ac hA
                             obtain ⟨y22, hy22⟩ : ∃ y, V[Int.toNat ((h : Int) - 1)]? = some y := ⟨_, List.getElem?_eq_getElem (by first | omega | (simp; done) | (simp; omega))⟩
                             rcases y22 with ⟨y22_there, y22_l, y22_l_A, y22_l_c⟩
                             obtain ⟨b23, o24, rfl, hbb23⟩ := row_some ((hW).getG 1 rfl) hy22
                             refine st_rd (v := Value.pointer (some ⟨b23, o24 + (Int.toNat ((h : Int) - 1)) * 2, none⟩)) hA (by kernel_rfl) (by kernel_rfl) (by kernel_rfl) hW.cls (Rd.indexAddrI (e := 112) (sz := 2) (b := b23) (off := o24) (n := V.length) (c := c_V) (k := (h : Int) - 1) (by kernel_rfl) (by kernel_rfl) (by omega) (by first | omega | (simp; done) | (simp; omega)) (fun _ => by kernel_rfl) (fun _ => by kernel_rfl)) ?_; clear hA ac; intro ac hA
                             refine st_rd (v := Value.pointer (some ⟨b23, o24 + (Int.toNat ((h : Int) - 1)) * 2 + 1, none⟩)) hA (by kernel_rfl) (by kernel_rfl) (by kernel_rfl) hW.cls (Rd.pure fun _ => by kernel_rfl) ?_; clear hA ac; intro ac hA
                             have hW := hW.nestAt 0 rfl (List.mem_of_getElem? hy22)
                             have hc_y22_l : y22_l.length ≤ y22_l_c := hk_V _ (List.mem_of_getElem? hy22)
                             have hsy22_l : Res.src (roR y22_l_A 4 enOne y22_l) [roR (some ⟨b23, o24, none⟩) 2 enVecE V, nestR innerVecE V] w := nsrc_at (inner := innerVecE) (x := (⟨y22_there, y22_l, y22_l_A, y22_l_c⟩ : VecE)) (src_arg (.tail _ (.head _))) (List.mem_of_getElem? hy22)
                             replace hW : Ws w No [Cel b5 #[Value.slice none 0 0] 51, Cel b3 #[Value.int .u64 m.clock, Value.int .i64 m.site.f, Value.int .i64 m.site.pc] 32, Cel b1 #[Value.slice (some ⟨b23, o24, none⟩) V.length c_V] 51] [roR y22_l_A 4 enOne y22_l, nestR innerVecE V, roR (some ⟨b23, o24, none⟩) 2 enVecE V] w19 := hW
                             refine st_rd (v := Value.slice y22_l_A y22_l.length y22_l_c) hA (by kernel_rfl) (by kernel_rfl) (by kernel_rfl) hW.cls (Rd.loadRow (b := b23) (i := o24 + (Int.toNat ((h : Int) - 1)) * 2 + 1) (xs := [Value.slice y22_l_A y22_l.length y22_l_c]) (by kernel_rfl) (fun _ hw => row_ld ((hw.1).getG 2 rfl) hy22 (Fr.refl No _) (fun h => h) 1 1 (by kernel_rfl)) (by kernel_rfl)) ?_; clear hA ac; intro ac hA
                             refine st_rd (v := Value.slice y22_l_A y22_l.length y22_l_c) hA (by kernel_rfl) (by kernel_rfl) (by kernel_rfl) hW.cls (Rd.pure fun _ => by kernel_rfl) ?_; clear hA ac; intro ac hA
                             refine wpList_nil ?_
                             refine thenN ?_
                             refine wp_seq ?_
                             refine wp_seq ?_
                             have hyl_ : y22_l.length ≤ 1000 := hL _ (List.mem_of_getElem? hy22)
                             refine wp_region_lit ?_
                             refine st_rd (v := Value.int .i64 0) hA (by kernel_rfl) (by kernel_rfl) (by kernel_rfl) hW.cls (Rd.pure fun _ => by kernel_rfl) ?_; clear hA ac; intro ac hA
                             refine wpList_nil ?_
                             refine thenN ?_
                             refine wp_block ?_
                             have hW := hW.addNil 90 4 enOne
                             refine wp_loop_m (fun m_ ac_ wl_ => ∃ k : Nat, ∃ O : List One, ∃ th : Bool, ∃ A : Option Addr, ∃ c : Nat, m_ = y22_l.length - k ∧ (k ≤ y22_l.length) ∧ ((O, th) = (y22_l.take k).foldl (insStep id m) ([], false)) ∧ (O.length ≤ 2 * k) ∧ (O.length ≤ c) ∧ Fm 99 [] [(1, Value.int .i64 h), (2, Value.int .i64 id), (4, Value.pointer (some ⟨b1, 0, none⟩)), (7, Value.pointer (some ⟨b3, 0, none⟩)), (8, Value.pointer (some ⟨b5, 0, none⟩)), (10, Value.slice A O.length c), (11, Value.bool th), (12, Value.slice y22_l_A y22_l.length y22_l_c), (13, Value.int .i64 ((k : Nat) : Int))] ac_ ∧ Ws w No [rowR 90 4 enOne (Value.slice A O.length c) O, Cel b5 #[Value.slice none 0 0] 51, Cel b3 #[Value.int .u64 m.clock, Value.int .i64 m.site.f, Value.int .i64 m.site.pc] 32, Cel b1 #[Value.slice (some ⟨b23, o24, none⟩) V.length c_V] 51] [roR y22_l_A 4 enOne y22_l, nestR innerVecE V, roR (some ⟨b23, o24, none⟩) 2 enVecE V] wl_) _ ⟨0, [], false, none, 0, rfl, by omega, by rfl, by simp, by simp, hA.sub ⟨⟨by kernel_rfl, by kernel_rfl⟩, ⟨by kernel_rfl, by kernel_rfl⟩, ⟨by kernel_rfl, by kernel_rfl⟩, ⟨by kernel_rfl, by kernel_rfl⟩, ⟨by kernel_rfl, by kernel_rfl⟩, ⟨by kernel_rfl, by kernel_rfl⟩, ⟨by kernel_rfl, by kernel_rfl⟩, ⟨by kernel_rfl, by kernel_rfl⟩, ⟨by kernel_rfl, by kernel_rfl⟩, trivial⟩, (hW.pick [0, 1, 2, 3] (by decide) rfl).pickG [0, 1, 2] rfl⟩ ?_
                             clear hA ac hW; rintro m_ ac w25 ⟨k, O, th, A, c, rfl, hk, hO, hOl, hcO, hA, hW⟩
                             refine wp_seq ?_
                             refine wp_seq ?_
                             refine wp_region_lit ?_
                             refine st_rd (v := Value.int .i64 ((k : Nat) : Int)) hA (by kernel_rfl) (by kernel_rfl) (by kernel_rfl) hW.cls (Rd.pure fun _ => by kernel_rfl) ?_; clear hA ac; intro ac hA
                             refine st_rd (v := Value.slice y22_l_A y22_l.length y22_l_c) hA (by kernel_rfl) (by kernel_rfl) (by kernel_rfl) hW.cls (Rd.pure fun _ => by kernel_rfl) ?_; clear hA ac; intro ac hA
                             refine st_rd (v := Value.int .i64 ((y22_l.length : Nat) : Int)) hA (by kernel_rfl) (by kernel_rfl) (by kernel_rfl) hW.cls (Rd.pure fun _ => by kernel_rfl) ?_; clear hA ac; intro ac hA
                             refine st_rd (v := Value.bool (decide ((((k : Nat) : Int) : Int) < (((y22_l.length : Nat) : Int) : Int)))) hA (by kernel_rfl) (by kernel_rfl) (by kernel_rfl) hW.cls (Rd.pure fun _ => by kernel_rfl) ?_; clear hA ac; intro ac hA
                             refine wpList_nil ?_
                             refine thenN ?_
                             refine wp_cond_split (t := decide ((((k : Nat) : Int) : Int) < (((y22_l.length : Nat) : Int) : Int))) (hA.eval (by kernel_rfl)) (fun h26 => ?_) (fun h26 => ?_)
                             · skip
                               have h26 := of_decide_eq_true h26
                               first
                               | (exfalso; clear hA hW; omega)
                               | (exfalso; clear hA hW; have q_ := h7; unfold fineM at q_; simp only [Bool.and_eq_true, decide_eq_true_eq] at q_; omega; done)
                               | (exfalso; clear hA hW; have q_ := h7; unfold fineM at q_; simp only [Bool.and_eq_true, decide_eq_true_eq] at q_; rw [q_.2] at h26; cases h26; done)
                               | (
                                 refine wp_skip ?_
                                 refine thenN ?_
                                 refine wp_seq ?_
                                 refine wp_block ?_
                                 refine wp_seq ?_
                                 refine wp_seq ?_
                                 refine wp_region_lit ?_
                                 refine st_rd (v := Value.bool th) hA (by kernel_rfl) (by kernel_rfl) (by kernel_rfl) hW.cls (Rd.pure fun _ => by kernel_rfl) ?_; clear hA ac; intro ac hA
                                 refine st_rd (v := Value.bool (!th)) hA (by kernel_rfl) (by kernel_rfl) (by kernel_rfl) hW.cls (Rd.pure fun _ => by kernel_rfl) ?_; clear hA ac; intro ac hA
                                 refine st_rd (v := Value.bool (!th)) hA (by kernel_rfl) (by kernel_rfl) (by kernel_rfl) hW.cls (Rd.pure fun _ => by kernel_rfl) ?_; clear hA ac; intro ac hA
                                 rcases Bool.eq_false_or_eq_true (!th) with h27 | h27
                                 · skip
                                   rw [h27] at hA
                                   have h27 := not_t h27
                                   first
                                   | (exfalso; clear hA hW; omega)
                                   | (exfalso; clear hA hW; have q_ := h7; unfold fineM at q_; simp only [Bool.and_eq_true, decide_eq_true_eq] at q_; omega; done)
                                   | (exfalso; clear hA hW; have q_ := h7; unfold fineM at q_; simp only [Bool.and_eq_true, decide_eq_true_eq] at q_; rw [q_.2] at h27; cases h27; done)
                                   | (
                                     refine st_rd (v := Value.slice y22_l_A y22_l.length y22_l_c) hA (by kernel_rfl) (by kernel_rfl) (by kernel_rfl) hW.cls (Rd.pure fun _ => by kernel_rfl) ?_; clear hA ac; intro ac hA
                                     refine st_rd (v := Value.int .i64 ((k : Nat) : Int)) hA (by kernel_rfl) (by kernel_rfl) (by kernel_rfl) hW.cls (Rd.pure fun _ => by kernel_rfl) ?_; clear hA ac; intro ac hA
                                     obtain ⟨y28, hy28⟩ : ∃ y, y22_l[k]? = some y := ⟨_, List.getElem?_eq_getElem (by first | omega | (simp; done) | (simp; omega))⟩
                                     obtain ⟨b29, o30, rfl, hbb29⟩ := row_some ((hW).getG 0 rfl) hy28
                                     refine st_rd (v := Value.pointer (some ⟨b29, o30 + k * 4, none⟩)) hA (by kernel_rfl) (by kernel_rfl) (by kernel_rfl) hW.cls (Rd.indexAddr (e := 90) (sz := 4) (b := b29) (off := o30) (n := y22_l.length) (c := y22_l_c) (k := k) (by kernel_rfl) (by kernel_rfl) (by first | omega | (simp; done) | (simp; omega)) (fun _ => by kernel_rfl) (fun _ => by kernel_rfl)) ?_; clear hA ac; intro ac hA
                                     refine st_rd (v := Value.pointer (some ⟨b29, o30 + k * 4, none⟩)) hA (by kernel_rfl) (by kernel_rfl) (by kernel_rfl) hW.cls (Rd.pure fun _ => by kernel_rfl) ?_; clear hA ac; intro ac hA
                                     refine st_rd (v := Value.int .i64 y28.id) hA (by kernel_rfl) (by kernel_rfl) (by kernel_rfl) hW.cls (Rd.loadRow (b := b29) (i := o30 + k * 4) (xs := [Value.int .i64 y28.id]) (by kernel_rfl) (fun _ hw => row_ld ((hw.1).getG 0 rfl) hy28 (Fr.refl No _) (fun h => h) 0 1 (by kernel_rfl)) (by kernel_rfl)) ?_; clear hA ac; intro ac hA
                                     refine st_rd (v := Value.int .i64 id) hA (by kernel_rfl) (by kernel_rfl) (by kernel_rfl) hW.cls (Rd.pure fun _ => by kernel_rfl) ?_; clear hA ac; intro ac hA
                                     refine st_rd (v := Value.bool (decide ((y28.id : Int) ≥ (id : Int)))) hA (by kernel_rfl) (by kernel_rfl) (by kernel_rfl) hW.cls (Rd.pure fun _ => by kernel_rfl) ?_; clear hA ac; intro ac hA
                                     refine st_rd (v := Value.bool (decide ((y28.id : Int) ≥ (id : Int)))) hA (by kernel_rfl) (by kernel_rfl) (by kernel_rfl) hW.cls (Rd.pure fun _ => by kernel_rfl) ?_; clear hA ac; intro ac hA
                                     refine wpList_nil ?_
                                     refine thenN ?_
                                     refine wp_cond_split (t := decide ((y28.id : Int) ≥ (id : Int))) (hA.eval (by kernel_rfl)) (fun h31 => ?_) (fun h31 => ?_)
                                     · skip
                                       have h31 := of_decide_eq_true h31
                                       first
                                       | (exfalso; clear hA hW; omega)
                                       | (exfalso; clear hA hW; have q_ := h7; unfold fineM at q_; simp only [Bool.and_eq_true, decide_eq_true_eq] at q_; omega; done)
                                       | (exfalso; clear hA hW; have q_ := h7; unfold fineM at q_; simp only [Bool.and_eq_true, decide_eq_true_eq] at q_; rw [q_.2] at h31; cases h31; done)
                                       | (
                                         refine wp_seq ?_
                                         refine wp_region_lit ?_
                                         refine st_rd (v := Value.slice A O.length c) hA (by kernel_rfl) (by kernel_rfl) (by kernel_rfl) hW.cls (Rd.pure fun _ => by kernel_rfl) ?_; clear hA ac; intro ac hA
                                         refine st_rd (v := Value.int .i64 id) hA (by kernel_rfl) (by kernel_rfl) (by kernel_rfl) hW.cls (Rd.pure fun _ => by kernel_rfl) ?_; clear hA ac; intro ac hA
                                         refine st_rd (v := Value.agg #[Value.int .u64 m.clock, Value.int .i64 m.site.f, Value.int .i64 m.site.pc]) hA (by kernel_rfl) (by kernel_rfl) (by kernel_rfl) hW.cls (Rd.load (b := b3) (i := 0) (by kernel_rfl) (fun _ hw => (hw.1).cel 2 rfl) (by kernel_rfl)) ?_; clear hA ac; intro ac hA
                                         refine st_rd (v := Value.agg #[Value.int .i64 id, Value.int .u64 m.clock, Value.int .i64 m.site.f, Value.int .i64 m.site.pc]) hA (by kernel_rfl) (by kernel_rfl) (by kernel_rfl) hW.cls (Rd.pure fun _ => by kernel_rfl) ?_; clear hA ac; intro ac hA
                                         refine st hA (by kernel_rfl) (by kernel_rfl) (by kernel_rfl) (Runs.cells (fun b => Value.slice (some ⟨b, 0, none⟩) 1 1) #[Value.int .i64 id, Value.int .u64 m.clock, Value.int .i64 m.site.f, Value.int .i64 m.site.pc] 90 (fun _ => by kernel_rfl) hW ?_); clear hA ac hW; intro b32 w33 hW hb32 hfw33 ac hA
                                         refine st hA (by kernel_rfl) (by kernel_rfl) (by kernel_rfl) (Runs.appOwn (B := (some ⟨b32, 0, none⟩)) (k := 1) (E := 90) (sz := 4) (en := enOne) (l := O) (m := ([(⟨id, m⟩ : One)] : List One)) (i := 1) (by kernel_rfl) (by kernel_rfl) elt_One (by kernel_rfl) hW rfl (rowAt_cel ((hW).cel 0 rfl) ([(⟨id, m⟩ : One)] : List One) (by rfl) elt_One.len) (by first | omega | (simp; done) | (simp; omega)) (by first | omega | (simp; done) | (simp; omega)) ?_); clear hA ac hW; intro A34 c35 w36 hW hcc35 ac hA
                                         refine st_rd (v := Value.slice A34 (O ++ ([(⟨id, m⟩ : One)] : List One)).length c35) hA (by kernel_rfl) (by kernel_rfl) (by kernel_rfl) hW.cls (Rd.pure fun _ => by kernel_rfl) ?_; clear hA ac; intro ac hA
                                         refine wpList_nil ?_
                                         refine thenN ?_
                                         refine wp_region_lit ?_
                                         refine st_rd (v := Value.bool true) hA (by kernel_rfl) (by kernel_rfl) (by kernel_rfl) hW.cls (Rd.pure fun _ => by kernel_rfl) ?_; clear hA ac; intro ac hA
                                         refine wpList_nil ?_
                                         refine thenN ?_
                                         refine wp_seq ?_
                                         refine wp_region_lit ?_
                                         refine st_rd (v := Value.slice (some ⟨b29, o30, none⟩) y22_l.length y22_l_c) hA (by kernel_rfl) (by kernel_rfl) (by kernel_rfl) hW.cls (Rd.pure fun _ => by kernel_rfl) ?_; clear hA ac; intro ac hA
                                         refine st_rd (v := Value.int .i64 ((k : Nat) : Int)) hA (by kernel_rfl) (by kernel_rfl) (by kernel_rfl) hW.cls (Rd.pure fun _ => by kernel_rfl) ?_; clear hA ac; intro ac hA
                                         refine st_rd (v := Value.pointer (some ⟨b29, o30 + k * 4, none⟩)) hA (by kernel_rfl) (by kernel_rfl) (by kernel_rfl) hW.cls (Rd.indexAddr (e := 90) (sz := 4) (b := b29) (off := o30) (n := y22_l.length) (c := y22_l_c) (k := k) (by kernel_rfl) (by kernel_rfl) (by first | omega | (simp; done) | (simp; omega)) (fun _ => by kernel_rfl) (fun _ => by kernel_rfl)) ?_; clear hA ac; intro ac hA
                                         refine st_rd (v := Value.pointer (some ⟨b29, o30 + k * 4, none⟩)) hA (by kernel_rfl) (by kernel_rfl) (by kernel_rfl) hW.cls (Rd.pure fun _ => by kernel_rfl) ?_; clear hA ac; intro ac hA
                                         refine st_rd (v := Value.int .i64 y28.id) hA (by kernel_rfl) (by kernel_rfl) (by kernel_rfl) hW.cls (Rd.loadRow (b := b29) (i := o30 + k * 4) (xs := [Value.int .i64 y28.id]) (by kernel_rfl) (fun _ hw => row_ld ((hw.1).getG 0 rfl) hy28 (Fr.refl No _) (fun h => h) 0 1 (by kernel_rfl)) (by kernel_rfl)) ?_; clear hA ac; intro ac hA
                                         refine st_rd (v := Value.int .i64 id) hA (by kernel_rfl) (by kernel_rfl) (by kernel_rfl) hW.cls (Rd.pure fun _ => by kernel_rfl) ?_; clear hA ac; intro ac hA
                                         refine st_rd (v := Value.bool ((y28.id : Int) != (id : Int))) hA (by kernel_rfl) (by kernel_rfl) (by kernel_rfl) hW.cls (Rd.pure fun _ => by kernel_rfl) ?_; clear hA ac; intro ac hA
                                         refine wpList_nil ?_
                                         refine thenN ?_
                                         refine wp_cond_split (t := (y28.id : Int) != (id : Int)) (hA.eval (by kernel_rfl)) (fun h37 => ?_) (fun h37 => ?_)
                                         · skip
                                           have h37 := bne_iff_ne.1 h37
                                           first
                                           | (exfalso; clear hA hW; omega)
                                           | (exfalso; clear hA hW; have q_ := h7; unfold fineM at q_; simp only [Bool.and_eq_true, decide_eq_true_eq] at q_; omega; done)
                                           | (exfalso; clear hA hW; have q_ := h7; unfold fineM at q_; simp only [Bool.and_eq_true, decide_eq_true_eq] at q_; rw [q_.2] at h37; cases h37; done)
                                           | (
                                             refine wp_region_lit ?_
                                             refine st_rd (v := Value.slice A34 (O ++ ([(⟨id, m⟩ : One)] : List One)).length c35) hA (by kernel_rfl) (by kernel_rfl) (by kernel_rfl) hW.cls (Rd.pure fun _ => by kernel_rfl) ?_; clear hA ac; intro ac hA
                                             refine st_rd (v := Value.slice (some ⟨b29, o30, none⟩) y22_l.length y22_l_c) hA (by kernel_rfl) (by kernel_rfl) (by kernel_rfl) hW.cls (Rd.pure fun _ => by kernel_rfl) ?_; clear hA ac; intro ac hA
                                             refine st_rd (v := Value.int .i64 ((k : Nat) : Int)) hA (by kernel_rfl) (by kernel_rfl) (by kernel_rfl) hW.cls (Rd.pure fun _ => by kernel_rfl) ?_; clear hA ac; intro ac hA
                                             refine st_rd (v := Value.pointer (some ⟨b29, o30 + k * 4, none⟩)) hA (by kernel_rfl) (by kernel_rfl) (by kernel_rfl) hW.cls (Rd.indexAddr (e := 90) (sz := 4) (b := b29) (off := o30) (n := y22_l.length) (c := y22_l_c) (k := k) (by kernel_rfl) (by kernel_rfl) (by first | omega | (simp; done) | (simp; omega)) (fun _ => by kernel_rfl) (fun _ => by kernel_rfl)) ?_; clear hA ac; intro ac hA
                                             refine st_rd (v := Value.agg #[Value.int .i64 y28.id, Value.int .u64 y28.m.clock, Value.int .i64 y28.m.site.f, Value.int .i64 y28.m.site.pc]) hA (by kernel_rfl) (by kernel_rfl) (by kernel_rfl) hW.cls (Rd.loadRow (b := b29) (i := o30 + k * 4) (xs := [Value.int .i64 y28.id, Value.int .u64 y28.m.clock, Value.int .i64 y28.m.site.f, Value.int .i64 y28.m.site.pc]) (by kernel_rfl) (fun _ hw => row_ld ((hw.1).getG 0 rfl) hy28 (Fr.refl No _) (fun h => h) 0 4 (by kernel_rfl)) (by kernel_rfl)) ?_; clear hA ac; intro ac hA
                                             refine st hA (by kernel_rfl) (by kernel_rfl) (by kernel_rfl) (Runs.cells (fun b => Value.slice (some ⟨b, 0, none⟩) 1 1) #[Value.int .i64 y28.id, Value.int .u64 y28.m.clock, Value.int .i64 y28.m.site.f, Value.int .i64 y28.m.site.pc] 90 (fun _ => by kernel_rfl) hW ?_); clear hA ac hW; intro b38 w39 hW hb38 hfw39 ac hA
                                             refine st hA (by kernel_rfl) (by kernel_rfl) (by kernel_rfl) (Runs.appOwn (B := (some ⟨b38, 0, none⟩)) (k := 1) (E := 90) (sz := 4) (en := enOne) (l := (O ++ ([(⟨id, m⟩ : One)] : List One))) (m := ([y28] : List One)) (i := 2) (by kernel_rfl) (by kernel_rfl) elt_One (by kernel_rfl) hW rfl (rowAt_cel ((hW).cel 0 rfl) ([y28] : List One) (by rfl) elt_One.len) (by first | omega | (simp; done) | (simp; omega)) (by first | omega | (simp; done) | (simp; omega)) ?_); clear hA ac hW; intro A40 c41 w42 hW hcc41 ac hA
                                             refine st_rd (v := Value.slice A40 ((O ++ ([(⟨id, m⟩ : One)] : List One)) ++ ([y28] : List One)).length c41) hA (by kernel_rfl) (by kernel_rfl) (by kernel_rfl) hW.cls (Rd.pure fun _ => by kernel_rfl) ?_; clear hA ac; intro ac hA
                                             refine wpList_nil ?_
                                             refine blkN ?_
                                             refine thenN ?_
                                             refine wp_region_lit ?_
                                             refine st_rd (v := Value.int .i64 ((k : Nat) : Int)) hA (by kernel_rfl) (by kernel_rfl) (by kernel_rfl) hW.cls (Rd.pure fun _ => by kernel_rfl) ?_; clear hA ac; intro ac hA
                                             refine st_rd (v := Value.int .i64 ((k + 1 : Nat) : Int)) hA (by kernel_rfl) (by kernel_rfl) (by kernel_rfl) hW.cls (Rd.pureE (v0 := Value.int .i64 (IntKind.i64.wrap ((((k : Nat) : Int) : Int) + 1))) (fun _ => by kernel_rfl) (congrArg (Value.int .i64) ((w_i64 (x := (((k : Nat) : Int) : Int) + 1) (by omega) (by omega)).trans (by omega)))) ?_; clear hA ac; intro ac hA
                                             refine st_rd (v := Value.int .i64 ((k + 1 : Nat) : Int)) hA (by kernel_rfl) (by kernel_rfl) (by kernel_rfl) hW.cls (Rd.pure fun _ => by kernel_rfl) ?_; clear hA ac; intro ac hA
                                             refine wpList_nil ?_
                                             refine thenN ?_
                                             exact ⟨y22_l.length - (k + 1), by omega, k + 1, (O ++ ([(⟨id, m⟩ : One)] : List One)) ++ ([y28] : List One), true, A40, c41, rfl, by omega, by rw [foldl_snoc hy28, ← hO]; simp only [insStep]; (repeat' split) <;> first | rfl | (exfalso; simp_all; done) | (exfalso; omega) | (exfalso; simp_all; omega), by first | omega | (simp; omega), by exact hcc41, hA.sub ⟨⟨by kernel_rfl, by kernel_rfl⟩, ⟨by kernel_rfl, by kernel_rfl⟩, ⟨by kernel_rfl, by kernel_rfl⟩, ⟨by kernel_rfl, by kernel_rfl⟩, ⟨by kernel_rfl, by kernel_rfl⟩, ⟨by kernel_rfl, by kernel_rfl⟩, ⟨by kernel_rfl, by kernel_rfl⟩, ⟨by kernel_rfl, by kernel_rfl⟩, ⟨by kernel_rfl, by kernel_rfl⟩, trivial⟩, (hW.pick [2, 3, 4, 5] (by decide) rfl).pickG [0, 1, 2] rfl⟩)
                                         · skip
                                           have h37 := of_bne_f h37
                                           first
                                           | (exfalso; clear hA hW; omega)
                                           | (exfalso; clear hA hW; have q_ := h7; unfold fineM at q_; simp only [Bool.and_eq_true, decide_eq_true_eq] at q_; omega; done)
                                           | (exfalso; clear hA hW; have q_ := h7; unfold fineM at q_; simp only [Bool.and_eq_true, decide_eq_true_eq] at q_; rw [q_.2] at h37; cases h37; done)
                                           | (
                                             refine wp_skip ?_
                                             refine blkN ?_
                                             refine thenN ?_
                                             refine wp_region_lit ?_
                                             refine st_rd (v := Value.int .i64 ((k : Nat) : Int)) hA (by kernel_rfl) (by kernel_rfl) (by kernel_rfl) hW.cls (Rd.pure fun _ => by kernel_rfl) ?_; clear hA ac; intro ac hA
                                             refine st_rd (v := Value.int .i64 ((k + 1 : Nat) : Int)) hA (by kernel_rfl) (by kernel_rfl) (by kernel_rfl) hW.cls (Rd.pureE (v0 := Value.int .i64 (IntKind.i64.wrap ((((k : Nat) : Int) : Int) + 1))) (fun _ => by kernel_rfl) (congrArg (Value.int .i64) ((w_i64 (x := (((k : Nat) : Int) : Int) + 1) (by omega) (by omega)).trans (by omega)))) ?_; clear hA ac; intro ac hA
                                             refine st_rd (v := Value.int .i64 ((k + 1 : Nat) : Int)) hA (by kernel_rfl) (by kernel_rfl) (by kernel_rfl) hW.cls (Rd.pure fun _ => by kernel_rfl) ?_; clear hA ac; intro ac hA
                                             refine wpList_nil ?_
                                             refine thenN ?_
                                             exact ⟨y22_l.length - (k + 1), by omega, k + 1, O ++ ([(⟨id, m⟩ : One)] : List One), true, A34, c35, rfl, by omega, by rw [foldl_snoc hy28, ← hO]; simp only [insStep]; (repeat' split) <;> first | rfl | (exfalso; simp_all; done) | (exfalso; omega) | (exfalso; simp_all; omega), by first | omega | (simp; omega), by exact hcc35, hA.sub ⟨⟨by kernel_rfl, by kernel_rfl⟩, ⟨by kernel_rfl, by kernel_rfl⟩, ⟨by kernel_rfl, by kernel_rfl⟩, ⟨by kernel_rfl, by kernel_rfl⟩, ⟨by kernel_rfl, by kernel_rfl⟩, ⟨by kernel_rfl, by kernel_rfl⟩, ⟨by kernel_rfl, by kernel_rfl⟩, ⟨by kernel_rfl, by kernel_rfl⟩, ⟨by kernel_rfl, by kernel_rfl⟩, trivial⟩, (hW.pick [1, 2, 3, 4] (by decide) rfl).pickG [0, 1, 2] rfl⟩))
                                     · skip
                                       have h31 := of_decide_eq_false h31
                                       first
                                       | (exfalso; clear hA hW; omega)
                                       | (exfalso; clear hA hW; have q_ := h7; unfold fineM at q_; simp only [Bool.and_eq_true, decide_eq_true_eq] at q_; omega; done)
                                       | (exfalso; clear hA hW; have q_ := h7; unfold fineM at q_; simp only [Bool.and_eq_true, decide_eq_true_eq] at q_; rw [q_.2] at h31; cases h31; done)
                                       | (
                                         refine wp_skip ?_
                                         refine thenN ?_
                                         refine wp_seq ?_
                                         refine wp_region_lit ?_
                                         refine st_rd (v := Value.slice (some ⟨b29, o30, none⟩) y22_l.length y22_l_c) hA (by kernel_rfl) (by kernel_rfl) (by kernel_rfl) hW.cls (Rd.pure fun _ => by kernel_rfl) ?_; clear hA ac; intro ac hA
                                         refine st_rd (v := Value.int .i64 ((k : Nat) : Int)) hA (by kernel_rfl) (by kernel_rfl) (by kernel_rfl) hW.cls (Rd.pure fun _ => by kernel_rfl) ?_; clear hA ac; intro ac hA
                                         refine st_rd (v := Value.pointer (some ⟨b29, o30 + k * 4, none⟩)) hA (by kernel_rfl) (by kernel_rfl) (by kernel_rfl) hW.cls (Rd.indexAddr (e := 90) (sz := 4) (b := b29) (off := o30) (n := y22_l.length) (c := y22_l_c) (k := k) (by kernel_rfl) (by kernel_rfl) (by first | omega | (simp; done) | (simp; omega)) (fun _ => by kernel_rfl) (fun _ => by kernel_rfl)) ?_; clear hA ac; intro ac hA
                                         refine st_rd (v := Value.pointer (some ⟨b29, o30 + k * 4, none⟩)) hA (by kernel_rfl) (by kernel_rfl) (by kernel_rfl) hW.cls (Rd.pure fun _ => by kernel_rfl) ?_; clear hA ac; intro ac hA
                                         refine st_rd (v := Value.int .i64 y28.id) hA (by kernel_rfl) (by kernel_rfl) (by kernel_rfl) hW.cls (Rd.loadRow (b := b29) (i := o30 + k * 4) (xs := [Value.int .i64 y28.id]) (by kernel_rfl) (fun _ hw => row_ld ((hw.1).getG 0 rfl) hy28 (Fr.refl No _) (fun h => h) 0 1 (by kernel_rfl)) (by kernel_rfl)) ?_; clear hA ac; intro ac hA
                                         refine st_rd (v := Value.int .i64 id) hA (by kernel_rfl) (by kernel_rfl) (by kernel_rfl) hW.cls (Rd.pure fun _ => by kernel_rfl) ?_; clear hA ac; intro ac hA
                                         refine st_rd (v := Value.bool ((y28.id : Int) != (id : Int))) hA (by kernel_rfl) (by kernel_rfl) (by kernel_rfl) hW.cls (Rd.pure fun _ => by kernel_rfl) ?_; clear hA ac; intro ac hA
                                         refine wpList_nil ?_
                                         refine thenN ?_
                                         refine wp_cond_split (t := (y28.id : Int) != (id : Int)) (hA.eval (by kernel_rfl)) (fun h43 => ?_) (fun h43 => ?_)
                                         · skip
                                           have h43 := bne_iff_ne.1 h43
                                           first
                                           | (exfalso; clear hA hW; omega)
                                           | (exfalso; clear hA hW; have q_ := h7; unfold fineM at q_; simp only [Bool.and_eq_true, decide_eq_true_eq] at q_; omega; done)
                                           | (exfalso; clear hA hW; have q_ := h7; unfold fineM at q_; simp only [Bool.and_eq_true, decide_eq_true_eq] at q_; rw [q_.2] at h43; cases h43; done)
                                           | (
                                             refine wp_region_lit ?_
                                             refine st_rd (v := Value.slice A O.length c) hA (by kernel_rfl) (by kernel_rfl) (by kernel_rfl) hW.cls (Rd.pure fun _ => by kernel_rfl) ?_; clear hA ac; intro ac hA
                                             refine st_rd (v := Value.slice (some ⟨b29, o30, none⟩) y22_l.length y22_l_c) hA (by kernel_rfl) (by kernel_rfl) (by kernel_rfl) hW.cls (Rd.pure fun _ => by kernel_rfl) ?_; clear hA ac; intro ac hA
                                             refine st_rd (v := Value.int .i64 ((k : Nat) : Int)) hA (by kernel_rfl) (by kernel_rfl) (by kernel_rfl) hW.cls (Rd.pure fun _ => by kernel_rfl) ?_; clear hA ac; intro ac hA
                                             refine st_rd (v := Value.pointer (some ⟨b29, o30 + k * 4, none⟩)) hA (by kernel_rfl) (by kernel_rfl) (by kernel_rfl) hW.cls (Rd.indexAddr (e := 90) (sz := 4) (b := b29) (off := o30) (n := y22_l.length) (c := y22_l_c) (k := k) (by kernel_rfl) (by kernel_rfl) (by first | omega | (simp; done) | (simp; omega)) (fun _ => by kernel_rfl) (fun _ => by kernel_rfl)) ?_; clear hA ac; intro ac hA
                                             refine st_rd (v := Value.agg #[Value.int .i64 y28.id, Value.int .u64 y28.m.clock, Value.int .i64 y28.m.site.f, Value.int .i64 y28.m.site.pc]) hA (by kernel_rfl) (by kernel_rfl) (by kernel_rfl) hW.cls (Rd.loadRow (b := b29) (i := o30 + k * 4) (xs := [Value.int .i64 y28.id, Value.int .u64 y28.m.clock, Value.int .i64 y28.m.site.f, Value.int .i64 y28.m.site.pc]) (by kernel_rfl) (fun _ hw => row_ld ((hw.1).getG 0 rfl) hy28 (Fr.refl No _) (fun h => h) 0 4 (by kernel_rfl)) (by kernel_rfl)) ?_; clear hA ac; intro ac hA
                                             refine st hA (by kernel_rfl) (by kernel_rfl) (by kernel_rfl) (Runs.cells (fun b => Value.slice (some ⟨b, 0, none⟩) 1 1) #[Value.int .i64 y28.id, Value.int .u64 y28.m.clock, Value.int .i64 y28.m.site.f, Value.int .i64 y28.m.site.pc] 90 (fun _ => by kernel_rfl) hW ?_); clear hA ac hW; intro b44 w45 hW hb44 hfw45 ac hA
                                             refine st hA (by kernel_rfl) (by kernel_rfl) (by kernel_rfl) (Runs.appOwn (B := (some ⟨b44, 0, none⟩)) (k := 1) (E := 90) (sz := 4) (en := enOne) (l := O) (m := ([y28] : List One)) (i := 1) (by kernel_rfl) (by kernel_rfl) elt_One (by kernel_rfl) hW rfl (rowAt_cel ((hW).cel 0 rfl) ([y28] : List One) (by rfl) elt_One.len) (by first | omega | (simp; done) | (simp; omega)) (by first | omega | (simp; done) | (simp; omega)) ?_); clear hA ac hW; intro A46 c47 w48 hW hcc47 ac hA
                                             refine st_rd (v := Value.slice A46 (O ++ ([y28] : List One)).length c47) hA (by kernel_rfl) (by kernel_rfl) (by kernel_rfl) hW.cls (Rd.pure fun _ => by kernel_rfl) ?_; clear hA ac; intro ac hA
                                             refine wpList_nil ?_
                                             refine blkN ?_
                                             refine thenN ?_
                                             refine wp_region_lit ?_
                                             refine st_rd (v := Value.int .i64 ((k : Nat) : Int)) hA (by kernel_rfl) (by kernel_rfl) (by kernel_rfl) hW.cls (Rd.pure fun _ => by kernel_rfl) ?_; clear hA ac; intro ac hA
                                             refine st_rd (v := Value.int .i64 ((k + 1 : Nat) : Int)) hA (by kernel_rfl) (by kernel_rfl) (by kernel_rfl) hW.cls (Rd.pureE (v0 := Value.int .i64 (IntKind.i64.wrap ((((k : Nat) : Int) : Int) + 1))) (fun _ => by kernel_rfl) (congrArg (Value.int .i64) ((w_i64 (x := (((k : Nat) : Int) : Int) + 1) (by omega) (by omega)).trans (by omega)))) ?_; clear hA ac; intro ac hA
                                             refine st_rd (v := Value.int .i64 ((k + 1 : Nat) : Int)) hA (by kernel_rfl) (by kernel_rfl) (by kernel_rfl) hW.cls (Rd.pure fun _ => by kernel_rfl) ?_; clear hA ac; intro ac hA
                                             refine wpList_nil ?_
                                             refine thenN ?_
                                             exact ⟨y22_l.length - (k + 1), by omega, k + 1, O ++ ([y28] : List One), th, A46, c47, rfl, by omega, by rw [foldl_snoc hy28, ← hO]; simp only [insStep]; (repeat' split) <;> first | rfl | (exfalso; simp_all; done) | (exfalso; omega) | (exfalso; simp_all; omega), by first | omega | (simp; omega), by exact hcc47, hA.sub ⟨⟨by kernel_rfl, by kernel_rfl⟩, ⟨by kernel_rfl, by kernel_rfl⟩, ⟨by kernel_rfl, by kernel_rfl⟩, ⟨by kernel_rfl, by kernel_rfl⟩, ⟨by kernel_rfl, by kernel_rfl⟩, ⟨by kernel_rfl, by kernel_rfl⟩, ⟨by kernel_rfl, by kernel_rfl⟩, ⟨by kernel_rfl, by kernel_rfl⟩, ⟨by kernel_rfl, by kernel_rfl⟩, trivial⟩, (hW.pick [1, 2, 3, 4] (by decide) rfl).pickG [0, 1, 2] rfl⟩)
                                         · skip
                                           have h43 := of_bne_f h43
                                           first
                                           | (exfalso; clear hA hW; omega)
                                           | (exfalso; clear hA hW; have q_ := h7; unfold fineM at q_; simp only [Bool.and_eq_true, decide_eq_true_eq] at q_; omega; done)
                                           | (exfalso; clear hA hW; have q_ := h7; unfold fineM at q_; simp only [Bool.and_eq_true, decide_eq_true_eq] at q_; rw [q_.2] at h43; cases h43; done)
                                           | (
                                             refine wp_skip ?_
                                             refine blkN ?_
                                             refine thenN ?_
                                             refine wp_region_lit ?_
                                             refine st_rd (v := Value.int .i64 ((k : Nat) : Int)) hA (by kernel_rfl) (by kernel_rfl) (by kernel_rfl) hW.cls (Rd.pure fun _ => by kernel_rfl) ?_; clear hA ac; intro ac hA
                                             refine st_rd (v := Value.int .i64 ((k + 1 : Nat) : Int)) hA (by kernel_rfl) (by kernel_rfl) (by kernel_rfl) hW.cls (Rd.pureE (v0 := Value.int .i64 (IntKind.i64.wrap ((((k : Nat) : Int) : Int) + 1))) (fun _ => by kernel_rfl) (congrArg (Value.int .i64) ((w_i64 (x := (((k : Nat) : Int) : Int) + 1) (by omega) (by omega)).trans (by omega)))) ?_; clear hA ac; intro ac hA
                                             refine st_rd (v := Value.int .i64 ((k + 1 : Nat) : Int)) hA (by kernel_rfl) (by kernel_rfl) (by kernel_rfl) hW.cls (Rd.pure fun _ => by kernel_rfl) ?_; clear hA ac; intro ac hA
                                             refine wpList_nil ?_
                                             refine thenN ?_
                                             exact ⟨y22_l.length - (k + 1), by omega, k + 1, O, th, A, c, rfl, by omega, by rw [foldl_snoc hy28, ← hO]; simp only [insStep]; (repeat' split) <;> first | rfl | (exfalso; simp_all; done) | (exfalso; omega) | (exfalso; simp_all; omega), by first | omega | (simp; omega), by exact hcO, hA.sub ⟨⟨by kernel_rfl, by kernel_rfl⟩, ⟨by kernel_rfl, by kernel_rfl⟩, ⟨by kernel_rfl, by kernel_rfl⟩, ⟨by kernel_rfl, by kernel_rfl⟩, ⟨by kernel_rfl, by kernel_rfl⟩, ⟨by kernel_rfl, by kernel_rfl⟩, ⟨by kernel_rfl, by kernel_rfl⟩, ⟨by kernel_rfl, by kernel_rfl⟩, ⟨by kernel_rfl, by kernel_rfl⟩, trivial⟩, (hW.pick [0, 1, 2, 3] (by decide) rfl).pickG [0, 1, 2] rfl⟩)))
                                 · skip
                                   rw [h27] at hA
                                   have h27 := not_f h27
                                   first
                                   | (exfalso; clear hA hW; omega)
                                   | (exfalso; clear hA hW; have q_ := h7; unfold fineM at q_; simp only [Bool.and_eq_true, decide_eq_true_eq] at q_; omega; done)
                                   | (exfalso; clear hA hW; have q_ := h7; unfold fineM at q_; simp only [Bool.and_eq_true, decide_eq_true_eq] at q_; rw [q_.2] at h27; cases h27; done)
                                   | (
                                     refine st_skip hA (by kernel_rfl) (by kernel_rfl) ?_; clear hA ac; intro ac hA
                                     refine st_skip hA (by kernel_rfl) (by kernel_rfl) ?_; clear hA ac; intro ac hA
                                     refine st_skip hA (by kernel_rfl) (by kernel_rfl) ?_; clear hA ac; intro ac hA
                                     refine st_skip hA (by kernel_rfl) (by kernel_rfl) ?_; clear hA ac; intro ac hA
                                     refine st_skip hA (by kernel_rfl) (by kernel_rfl) ?_; clear hA ac; intro ac hA
                                     refine st_skip hA (by kernel_rfl) (by kernel_rfl) ?_; clear hA ac; intro ac hA
                                     refine st_skip hA (by kernel_rfl) (by kernel_rfl) ?_; clear hA ac; intro ac hA
                                     refine st_rd (v := Value.bool false) hA (by kernel_rfl) (by kernel_rfl) (by kernel_rfl) hW.cls (Rd.pure fun _ => by kernel_rfl) ?_; clear hA ac; intro ac hA
                                     refine wpList_nil ?_
                                     refine thenN ?_
                                     refine wp_cond_false (hA.eval (by kernel_rfl)) ?_
                                     refine wp_skip ?_
                                     refine thenN ?_
                                     refine wp_seq ?_
                                     refine wp_region_lit ?_
                                     refine st_rd (v := Value.slice y22_l_A y22_l.length y22_l_c) hA (by kernel_rfl) (by kernel_rfl) (by kernel_rfl) hW.cls (Rd.pure fun _ => by kernel_rfl) ?_; clear hA ac; intro ac hA
                                     refine st_rd (v := Value.int .i64 ((k : Nat) : Int)) hA (by kernel_rfl) (by kernel_rfl) (by kernel_rfl) hW.cls (Rd.pure fun _ => by kernel_rfl) ?_; clear hA ac; intro ac hA
                                     obtain ⟨y49, hy49⟩ : ∃ y, y22_l[k]? = some y := ⟨_, List.getElem?_eq_getElem (by first | omega | (simp; done) | (simp; omega))⟩
                                     obtain ⟨b50, o51, rfl, hbb50⟩ := row_some ((hW).getG 0 rfl) hy49
                                     refine st_rd (v := Value.pointer (some ⟨b50, o51 + k * 4, none⟩)) hA (by kernel_rfl) (by kernel_rfl) (by kernel_rfl) hW.cls (Rd.indexAddr (e := 90) (sz := 4) (b := b50) (off := o51) (n := y22_l.length) (c := y22_l_c) (k := k) (by kernel_rfl) (by kernel_rfl) (by first | omega | (simp; done) | (simp; omega)) (fun _ => by kernel_rfl) (fun _ => by kernel_rfl)) ?_; clear hA ac; intro ac hA
                                     refine st_rd (v := Value.pointer (some ⟨b50, o51 + k * 4, none⟩)) hA (by kernel_rfl) (by kernel_rfl) (by kernel_rfl) hW.cls (Rd.pure fun _ => by kernel_rfl) ?_; clear hA ac; intro ac hA
                                     refine st_rd (v := Value.int .i64 y49.id) hA (by kernel_rfl) (by kernel_rfl) (by kernel_rfl) hW.cls (Rd.loadRow (b := b50) (i := o51 + k * 4) (xs := [Value.int .i64 y49.id]) (by kernel_rfl) (fun _ hw => row_ld ((hw.1).getG 0 rfl) hy49 (Fr.refl No _) (fun h => h) 0 1 (by kernel_rfl)) (by kernel_rfl)) ?_; clear hA ac; intro ac hA
                                     refine st_rd (v := Value.int .i64 id) hA (by kernel_rfl) (by kernel_rfl) (by kernel_rfl) hW.cls (Rd.pure fun _ => by kernel_rfl) ?_; clear hA ac; intro ac hA
                                     refine st_rd (v := Value.bool ((y49.id : Int) != (id : Int))) hA (by kernel_rfl) (by kernel_rfl) (by kernel_rfl) hW.cls (Rd.pure fun _ => by kernel_rfl) ?_; clear hA ac; intro ac hA
                                     refine wpList_nil ?_
                                     refine thenN ?_
                                     refine wp_cond_split (t := (y49.id : Int) != (id : Int)) (hA.eval (by kernel_rfl)) (fun h52 => ?_) (fun h52 => ?_)
                                     · skip
                                       have h52 := bne_iff_ne.1 h52
                                       first
                                       | (exfalso; clear hA hW; omega)
                                       | (exfalso; clear hA hW; have q_ := h7; unfold fineM at q_; simp only [Bool.and_eq_true, decide_eq_true_eq] at q_; omega; done)
                                       | (exfalso; clear hA hW; have q_ := h7; unfold fineM at q_; simp only [Bool.and_eq_true, decide_eq_true_eq] at q_; rw [q_.2] at h52; cases h52; done)
                                       | (
                                         refine wp_region_lit ?_
                                         refine st_rd (v := Value.slice A O.length c) hA (by kernel_rfl) (by kernel_rfl) (by kernel_rfl) hW.cls (Rd.pure fun _ => by kernel_rfl) ?_; clear hA ac; intro ac hA
                                         refine st_rd (v := Value.slice (some ⟨b50, o51, none⟩) y22_l.length y22_l_c) hA (by kernel_rfl) (by kernel_rfl) (by kernel_rfl) hW.cls (Rd.pure fun _ => by kernel_rfl) ?_; clear hA ac; intro ac hA
                                         refine st_rd (v := Value.int .i64 ((k : Nat) : Int)) hA (by kernel_rfl) (by kernel_rfl) (by kernel_rfl) hW.cls (Rd.pure fun _ => by kernel_rfl) ?_; clear hA ac; intro ac hA
                                         refine st_rd (v := Value.pointer (some ⟨b50, o51 + k * 4, none⟩)) hA (by kernel_rfl) (by kernel_rfl) (by kernel_rfl) hW.cls (Rd.indexAddr (e := 90) (sz := 4) (b := b50) (off := o51) (n := y22_l.length) (c := y22_l_c) (k := k) (by kernel_rfl) (by kernel_rfl) (by first | omega | (simp; done) | (simp; omega)) (fun _ => by kernel_rfl) (fun _ => by kernel_rfl)) ?_; clear hA ac; intro ac hA
                                         refine st_rd (v := Value.agg #[Value.int .i64 y49.id, Value.int .u64 y49.m.clock, Value.int .i64 y49.m.site.f, Value.int .i64 y49.m.site.pc]) hA (by kernel_rfl) (by kernel_rfl) (by kernel_rfl) hW.cls (Rd.loadRow (b := b50) (i := o51 + k * 4) (xs := [Value.int .i64 y49.id, Value.int .u64 y49.m.clock, Value.int .i64 y49.m.site.f, Value.int .i64 y49.m.site.pc]) (by kernel_rfl) (fun _ hw => row_ld ((hw.1).getG 0 rfl) hy49 (Fr.refl No _) (fun h => h) 0 4 (by kernel_rfl)) (by kernel_rfl)) ?_; clear hA ac; intro ac hA
                                         refine st hA (by kernel_rfl) (by kernel_rfl) (by kernel_rfl) (Runs.cells (fun b => Value.slice (some ⟨b, 0, none⟩) 1 1) #[Value.int .i64 y49.id, Value.int .u64 y49.m.clock, Value.int .i64 y49.m.site.f, Value.int .i64 y49.m.site.pc] 90 (fun _ => by kernel_rfl) hW ?_); clear hA ac hW; intro b53 w54 hW hb53 hfw54 ac hA
                                         refine st hA (by kernel_rfl) (by kernel_rfl) (by kernel_rfl) (Runs.appOwn (B := (some ⟨b53, 0, none⟩)) (k := 1) (E := 90) (sz := 4) (en := enOne) (l := O) (m := ([y49] : List One)) (i := 1) (by kernel_rfl) (by kernel_rfl) elt_One (by kernel_rfl) hW rfl (rowAt_cel ((hW).cel 0 rfl) ([y49] : List One) (by rfl) elt_One.len) (by first | omega | (simp; done) | (simp; omega)) (by first | omega | (simp; done) | (simp; omega)) ?_); clear hA ac hW; intro A55 c56 w57 hW hcc56 ac hA
                                         refine st_rd (v := Value.slice A55 (O ++ ([y49] : List One)).length c56) hA (by kernel_rfl) (by kernel_rfl) (by kernel_rfl) hW.cls (Rd.pure fun _ => by kernel_rfl) ?_; clear hA ac; intro ac hA
                                         refine wpList_nil ?_
                                         refine blkN ?_
                                         refine thenN ?_
                                         refine wp_region_lit ?_
                                         refine st_rd (v := Value.int .i64 ((k : Nat) : Int)) hA (by kernel_rfl) (by kernel_rfl) (by kernel_rfl) hW.cls (Rd.pure fun _ => by kernel_rfl) ?_; clear hA ac; intro ac hA
                                         refine st_rd (v := Value.int .i64 ((k + 1 : Nat) : Int)) hA (by kernel_rfl) (by kernel_rfl) (by kernel_rfl) hW.cls (Rd.pureE (v0 := Value.int .i64 (IntKind.i64.wrap ((((k : Nat) : Int) : Int) + 1))) (fun _ => by kernel_rfl) (congrArg (Value.int .i64) ((w_i64 (x := (((k : Nat) : Int) : Int) + 1) (by omega) (by omega)).trans (by omega)))) ?_; clear hA ac; intro ac hA
                                         refine st_rd (v := Value.int .i64 ((k + 1 : Nat) : Int)) hA (by kernel_rfl) (by kernel_rfl) (by kernel_rfl) hW.cls (Rd.pure fun _ => by kernel_rfl) ?_; clear hA ac; intro ac hA
                                         refine wpList_nil ?_
                                         refine thenN ?_
                                         exact ⟨y22_l.length - (k + 1), by omega, k + 1, O ++ ([y49] : List One), th, A55, c56, rfl, by omega, by rw [foldl_snoc hy49, ← hO]; simp only [insStep]; (repeat' split) <;> first | rfl | (exfalso; simp_all; done) | (exfalso; omega) | (exfalso; simp_all; omega), by first | omega | (simp; omega), by exact hcc56, hA.sub ⟨⟨by kernel_rfl, by kernel_rfl⟩, ⟨by kernel_rfl, by kernel_rfl⟩, ⟨by kernel_rfl, by kernel_rfl⟩, ⟨by kernel_rfl, by kernel_rfl⟩, ⟨by kernel_rfl, by kernel_rfl⟩, ⟨by kernel_rfl, by kernel_rfl⟩, ⟨by kernel_rfl, by kernel_rfl⟩, ⟨by kernel_rfl, by kernel_rfl⟩, ⟨by kernel_rfl, by kernel_rfl⟩, trivial⟩, (hW.pick [1, 2, 3, 4] (by decide) rfl).pickG [0, 1, 2] rfl⟩)
                                     · skip
                                       have h52 := of_bne_f h52
                                       first
                                       | (exfalso; clear hA hW; omega)
                                       | (exfalso; clear hA hW; have q_ := h7; unfold fineM at q_; simp only [Bool.and_eq_true, decide_eq_true_eq] at q_; omega; done)
                                       | (exfalso; clear hA hW; have q_ := h7; unfold fineM at q_; simp only [Bool.and_eq_true, decide_eq_true_eq] at q_; rw [q_.2] at h52; cases h52; done)
                                       | (
                                         refine wp_skip ?_
                                         refine blkN ?_
                                         refine thenN ?_
                                         refine wp_region_lit ?_
                                         refine st_rd (v := Value.int .i64 ((k : Nat) : Int)) hA (by kernel_rfl) (by kernel_rfl) (by kernel_rfl) hW.cls (Rd.pure fun _ => by kernel_rfl) ?_; clear hA ac; intro ac hA
                                         refine st_rd (v := Value.int .i64 ((k + 1 : Nat) : Int)) hA (by kernel_rfl) (by kernel_rfl) (by kernel_rfl) hW.cls (Rd.pureE (v0 := Value.int .i64 (IntKind.i64.wrap ((((k : Nat) : Int) : Int) + 1))) (fun _ => by kernel_rfl) (congrArg (Value.int .i64) ((w_i64 (x := (((k : Nat) : Int) : Int) + 1) (by omega) (by omega)).trans (by omega)))) ?_; clear hA ac; intro ac hA
                                         refine st_rd (v := Value.int .i64 ((k + 1 : Nat) : Int)) hA (by kernel_rfl) (by kernel_rfl) (by kernel_rfl) hW.cls (Rd.pure fun _ => by kernel_rfl) ?_; clear hA ac; intro ac hA
                                         refine wpList_nil ?_
                                         refine thenN ?_
                                         exact ⟨y22_l.length - (k + 1), by omega, k + 1, O, th, A, c, rfl, by omega, by rw [foldl_snoc hy49, ← hO]; simp only [insStep]; (repeat' split) <;> first | rfl | (exfalso; simp_all; done) | (exfalso; omega) | (exfalso; simp_all; omega), by first | omega | (simp; omega), by exact hcO, hA.sub ⟨⟨by kernel_rfl, by kernel_rfl⟩, ⟨by kernel_rfl, by kernel_rfl⟩, ⟨by kernel_rfl, by kernel_rfl⟩, ⟨by kernel_rfl, by kernel_rfl⟩, ⟨by kernel_rfl, by kernel_rfl⟩, ⟨by kernel_rfl, by kernel_rfl⟩, ⟨by kernel_rfl, by kernel_rfl⟩, ⟨by kernel_rfl, by kernel_rfl⟩, ⟨by kernel_rfl, by kernel_rfl⟩, trivial⟩, (hW.pick [0, 1, 2, 3] (by decide) rfl).pickG [0, 1, 2] rfl⟩)))
                             · skip
                               have h26 := of_decide_eq_false h26
                               first
                               | (exfalso; clear hA hW; omega)
                               | (exfalso; clear hA hW; have q_ := h7; unfold fineM at q_; simp only [Bool.and_eq_true, decide_eq_true_eq] at q_; omega; done)
                               | (exfalso; clear hA hW; have q_ := h7; unfold fineM at q_; simp only [Bool.and_eq_true, decide_eq_true_eq] at q_; rw [q_.2] at h26; cases h26; done)
                               | (
                                 refine wp_exit ?_
                                 refine thenX ?_
                                 refine thenX ?_
                                 refine blkX ?_
                                 refine thenN ?_
                                 refine wp_seq ?_
                                 refine wp_seq ?_
                                 refine wp_region_lit ?_
                                 refine st_rd (v := Value.bool th) hA (by kernel_rfl) (by kernel_rfl) (by kernel_rfl) hW.cls (Rd.pure fun _ => by kernel_rfl) ?_; clear hA ac; intro ac hA
                                 refine st_rd (v := Value.bool (!th)) hA (by kernel_rfl) (by kernel_rfl) (by kernel_rfl) hW.cls (Rd.pure fun _ => by kernel_rfl) ?_; clear hA ac; intro ac hA
                                 refine wpList_nil ?_
                                 refine thenN ?_
                                 refine wp_cond_split (t := !th) (hA.eval (by kernel_rfl)) (fun h58 => ?_) (fun h58 => ?_)
                                 · skip
                                   have h58 := not_t h58
                                   first
                                   | (exfalso; clear hA hW; omega)
                                   | (exfalso; clear hA hW; have q_ := h7; unfold fineM at q_; simp only [Bool.and_eq_true, decide_eq_true_eq] at q_; omega; done)
                                   | (exfalso; clear hA hW; have q_ := h7; unfold fineM at q_; simp only [Bool.and_eq_true, decide_eq_true_eq] at q_; rw [q_.2] at h58; cases h58; done)
                                   | (
                                     refine wp_region_lit ?_
                                     refine st_rd (v := Value.slice A O.length c) hA (by kernel_rfl) (by kernel_rfl) (by kernel_rfl) hW.cls (Rd.pure fun _ => by kernel_rfl) ?_; clear hA ac; intro ac hA
                                     refine st_rd (v := Value.int .i64 id) hA (by kernel_rfl) (by kernel_rfl) (by kernel_rfl) hW.cls (Rd.pure fun _ => by kernel_rfl) ?_; clear hA ac; intro ac hA
                                     refine st_rd (v := Value.agg #[Value.int .u64 m.clock, Value.int .i64 m.site.f, Value.int .i64 m.site.pc]) hA (by kernel_rfl) (by kernel_rfl) (by kernel_rfl) hW.cls (Rd.load (b := b3) (i := 0) (by kernel_rfl) (fun _ hw => (hw.1).cel 2 rfl) (by kernel_rfl)) ?_; clear hA ac; intro ac hA
                                     refine st_rd (v := Value.agg #[Value.int .i64 id, Value.int .u64 m.clock, Value.int .i64 m.site.f, Value.int .i64 m.site.pc]) hA (by kernel_rfl) (by kernel_rfl) (by kernel_rfl) hW.cls (Rd.pure fun _ => by kernel_rfl) ?_; clear hA ac; intro ac hA
                                     refine st hA (by kernel_rfl) (by kernel_rfl) (by kernel_rfl) (Runs.cells (fun b => Value.slice (some ⟨b, 0, none⟩) 1 1) #[Value.int .i64 id, Value.int .u64 m.clock, Value.int .i64 m.site.f, Value.int .i64 m.site.pc] 90 (fun _ => by kernel_rfl) hW ?_); clear hA ac hW; intro b59 w60 hW hb59 hfw60 ac hA
                                     refine st hA (by kernel_rfl) (by kernel_rfl) (by kernel_rfl) (Runs.appOwn (B := (some ⟨b59, 0, none⟩)) (k := 1) (E := 90) (sz := 4) (en := enOne) (l := O) (m := ([(⟨id, m⟩ : One)] : List One)) (i := 1) (by kernel_rfl) (by kernel_rfl) elt_One (by kernel_rfl) hW rfl (rowAt_cel ((hW).cel 0 rfl) ([(⟨id, m⟩ : One)] : List One) (by rfl) elt_One.len) (by first | omega | (simp; done) | (simp; omega)) (by first | omega | (simp; done) | (simp; omega)) ?_); clear hA ac hW; intro A61 c62 w63 hW hcc62 ac hA
                                     refine st_rd (v := Value.slice A61 (O ++ ([(⟨id, m⟩ : One)] : List One)).length c62) hA (by kernel_rfl) (by kernel_rfl) (by kernel_rfl) hW.cls (Rd.pure fun _ => by kernel_rfl) ?_; clear hA ac; intro ac hA
                                     refine wpList_nil ?_
                                     refine thenN ?_
                                     refine wp_seq ?_
                                     have hkl_ : k = y22_l.length := by omega
                                     refine wp_region_lit ?_
                                     refine st_rd (v := Value.agg #[Value.slice (some ⟨b23, o24, none⟩) V.length c_V]) hA (by kernel_rfl) (by kernel_rfl) (by kernel_rfl) hW.cls (Rd.load (b := b1) (i := 0) (by kernel_rfl) (fun _ hw => (hw.1).cel 4 rfl) (by kernel_rfl)) ?_; clear hA ac; intro ac hA
                                     refine st_rd (v := Value.int .i64 h) hA (by kernel_rfl) (by kernel_rfl) (by kernel_rfl) hW.cls (Rd.pure fun _ => by kernel_rfl) ?_; clear hA ac; intro ac hA
                                     refine st_rd (v := Value.slice A61 (O ++ ([(⟨id, m⟩ : One)] : List One)).length c62) hA (by kernel_rfl) (by kernel_rfl) (by kernel_rfl) hW.cls (Rd.pure fun _ => by kernel_rfl) ?_; clear hA ac; intro ac hA
                                     refine st_rd (v := Value.agg #[Value.bool true, Value.slice A61 (O ++ ([(⟨id, m⟩ : One)] : List One)).length c62]) hA (by kernel_rfl) (by kernel_rfl) (by kernel_rfl) hW.cls (Rd.pure fun _ => by kernel_rfl) ?_; clear hA ac; intro ac hA
                                     have hsro_acc : Res.src (roR A61 4 enOne (O ++ ([(⟨id, m⟩ : One)] : List One))) [roR (some ⟨b23, o24, none⟩) 2 enVecE V, nestR innerVecE V] w := fun b_ hb_ => .inr ((hW.may _ (List.mem_of_getElem? (i := 1) rfl) b_ (rowR_fp b_ hb_)).resolve_left (fun h_ => h_))
                                     have hW := hW.share 1 rfl (H' := [Cel b59 #[Value.int .i64 id, Value.int .u64 m.clock, Value.int .i64 m.site.f, Value.int .i64 m.site.pc] 90, Cel b5 #[Value.slice none 0 0] 51, Cel b3 #[Value.int .u64 m.clock, Value.int .i64 m.site.f, Value.int .i64 m.site.pc] 32, Cel b1 #[Value.slice (some ⟨b23, o24, none⟩) V.length c_V] 51]) rfl
                                     have hW := hW.nestG (roR A61 4 enOne (O ++ ([(⟨id, m⟩ : One)] : List One))) (rowR_at (E := 90) (hW.getG 0 rfl) elt_One.len) (fun _ hb_ => ⟨_, List.mem_of_getElem? (i := 0) rfl, rowR_fp _ hb_⟩)
                                     refine st hA (by kernel_rfl) (by kernel_rfl) (by kernel_rfl) (Runs.call (fun _ => by kernel_rfl) (e_rwith (some ⟨b23, o24, none⟩) c_V V (h) true A61 c62 (O ++ ([(⟨id, m⟩ : One)] : List One)) w63 ((hW).getG 4 rfl) (by first | assumption | omega | (simp; omega) | simp) ((hW).getG 3 rfl) hk_V ((hW).getG 0 rfl) (by first | assumption | omega | (simp; omega) | simp) (by first | omega | (have := hL _ (List.mem_of_getElem? ‹_›); simp; omega) | (simp; omega) | simp) (by first | omega | (have := hL _ (List.mem_of_getElem? ‹_›); simp; omega) | (simp; omega) | simp) (by first | omega | (have := hL _ (List.mem_of_getElem? ‹_›); simp; omega) | (simp; omega) | simp)) ?_)
                                     rintro _ w64 ⟨g65, Ao66, co67, rfl, hw64_hW, hcco67, hkco67, hfco67, hnfco67, hfw64⟩; refine ⟨_, rfl, ?_⟩; have hW0 := hW; have hW := hW0.call hfw64
                                     have hW := hW0.addFromAt hW hfco67 (in_cons (in_at 4 rfl) (in_cons (in_at 3 rfl) (in_cons (in_at 0 rfl) in_nil)))
                                     have hsco67 : Res.src (roR Ao66 2 enVecE g65) [roR (some ⟨b23, o24, none⟩) 2 enVecE V, nestR innerVecE V] w := src_call hfco67 (srcs_cons (src_arg (.head _)) (srcs_cons (src_arg (.tail _ (.head _))) (srcs_cons hsro_acc srcs_nil))) hW0.fr.size
                                     have hW := hW0.addFromAt hW hnfco67 (in_cons (in_at 4 rfl) (in_cons (in_at 3 rfl) (in_cons (in_at 0 rfl) in_nil)))
                                     have hsnco67 : Res.src (nestR innerVecE g65) [roR (some ⟨b23, o24, none⟩) 2 enVecE V, nestR innerVecE V] w := src_call hnfco67 (srcs_cons (src_arg (.head _)) (srcs_cons (src_arg (.tail _ (.head _))) (srcs_cons hsro_acc srcs_nil))) hW0.fr.size
                                     clear hW0 hA ac; intro ac hA
                                     refine st hA (by kernel_rfl) (by kernel_rfl) (by kernel_rfl) (Runs.store (v := Value.agg #[Value.slice Ao66 (g65).length co67]) (b := b5) (j := 0) (n := 1) (cs' := #[Value.slice Ao66 (g65).length co67]) (H' := [Cel b59 #[Value.int .i64 id, Value.int .u64 m.clock, Value.int .i64 m.site.f, Value.int .i64 m.site.pc] 90, Cel b5 #[Value.slice Ao66 (g65).length co67] 51, Cel b3 #[Value.int .u64 m.clock, Value.int .i64 m.site.f, Value.int .i64 m.site.pc] 32, Cel b1 #[Value.slice (some ⟨b23, o24, none⟩) V.length c_V] 51]) (by kernel_rfl) (by kernel_rfl) (by kernel_rfl) (by kernel_rfl) (by kernel_rfl) hW 1 (by rfl) (Nat.le_of_ble_eq_true (by kernel_rfl)) (by kernel_rfl) (by rfl) ?_); clear hA ac hW; intro w68 hW ac hA
                                     refine st_rd (v := Value.int .i64 0) hA (by kernel_rfl) (by kernel_rfl) (by kernel_rfl) hW.cls (Rd.pure fun _ => by kernel_rfl) ?_; clear hA ac; intro ac hA
                                     refine wpList_nil ?_
                                     refine thenN ?_
                                     refine wp_ret ?_
                                     refine ret2 (v1 := Value.agg #[Value.slice Ao66 (g65).length co67]) (v2 := Value.int .i64 0) (by rfl) hA (Got.cell (b := b5) (i := 0) hA (by kernel_rfl) (by kernel_rfl) (hW.cel 1 rfl) (by kernel_rfl)) (Got.tmp hA (by kernel_rfl) (by kernel_rfl)) ?_
                                     clear hA
                                     exact ⟨g65, 0, Ao66, co67, by first | rfl | (simp; done), by unfold MarkPR; rw [if_neg (by rw [h7]; simp), if_neg (by rw [h20]; simp), all_at h20 hy22]; rw [List.take_of_length_le (by omega)] at hO; rw [hw64_hW, insP_no (o := O) (by rw [← hO]; simp [*])] ; exact ⟨rfl, rfl⟩, (by first | assumption | omega | (simp; omega) | simp), hkco67, (hW.outSrc 1 rfl hsco67), (hW.outSrc 0 rfl hsnco67), hW.fr⟩)
                                 · skip
                                   have h58 := not_f h58
                                   first
                                   | (exfalso; clear hA hW; omega)
                                   | (exfalso; clear hA hW; have q_ := h7; unfold fineM at q_; simp only [Bool.and_eq_true, decide_eq_true_eq] at q_; omega; done)
                                   | (exfalso; clear hA hW; have q_ := h7; unfold fineM at q_; simp only [Bool.and_eq_true, decide_eq_true_eq] at q_; rw [q_.2] at h58; cases h58; done)
                                   | (
                                     refine wp_skip ?_
                                     refine thenN ?_
                                     refine wp_seq ?_
                                     have hkl_ : k = y22_l.length := by omega
                                     refine wp_region_lit ?_
                                     refine st_rd (v := Value.agg #[Value.slice (some ⟨b23, o24, none⟩) V.length c_V]) hA (by kernel_rfl) (by kernel_rfl) (by kernel_rfl) hW.cls (Rd.load (b := b1) (i := 0) (by kernel_rfl) (fun _ hw => (hw.1).cel 3 rfl) (by kernel_rfl)) ?_; clear hA ac; intro ac hA
                                     refine st_rd (v := Value.int .i64 h) hA (by kernel_rfl) (by kernel_rfl) (by kernel_rfl) hW.cls (Rd.pure fun _ => by kernel_rfl) ?_; clear hA ac; intro ac hA
                                     refine st_rd (v := Value.slice A O.length c) hA (by kernel_rfl) (by kernel_rfl) (by kernel_rfl) hW.cls (Rd.pure fun _ => by kernel_rfl) ?_; clear hA ac; intro ac hA
                                     refine st_rd (v := Value.agg #[Value.bool true, Value.slice A O.length c]) hA (by kernel_rfl) (by kernel_rfl) (by kernel_rfl) hW.cls (Rd.pure fun _ => by kernel_rfl) ?_; clear hA ac; intro ac hA
                                     have hsro_acc : Res.src (roR A 4 enOne O) [roR (some ⟨b23, o24, none⟩) 2 enVecE V, nestR innerVecE V] w := fun b_ hb_ => .inr ((hW.may _ (List.mem_of_getElem? (i := 0) rfl) b_ (rowR_fp b_ hb_)).resolve_left (fun h_ => h_))
                                     have hW := hW.share 0 rfl (H' := [Cel b5 #[Value.slice none 0 0] 51, Cel b3 #[Value.int .u64 m.clock, Value.int .i64 m.site.f, Value.int .i64 m.site.pc] 32, Cel b1 #[Value.slice (some ⟨b23, o24, none⟩) V.length c_V] 51]) rfl
                                     have hW := hW.nestG (roR A 4 enOne O) (rowR_at (E := 90) (hW.getG 0 rfl) elt_One.len) (fun _ hb_ => ⟨_, List.mem_of_getElem? (i := 0) rfl, rowR_fp _ hb_⟩)
                                     refine st hA (by kernel_rfl) (by kernel_rfl) (by kernel_rfl) (Runs.call (fun _ => by kernel_rfl) (e_rwith (some ⟨b23, o24, none⟩) c_V V (h) true A c O w25 ((hW).getG 4 rfl) (by first | assumption | omega | (simp; omega) | simp) ((hW).getG 3 rfl) hk_V ((hW).getG 0 rfl) (by first | assumption | omega | (simp; omega) | simp) (by first | omega | (have := hL _ (List.mem_of_getElem? ‹_›); simp; omega) | (simp; omega) | simp) (by first | omega | (have := hL _ (List.mem_of_getElem? ‹_›); simp; omega) | (simp; omega) | simp) (by first | omega | (have := hL _ (List.mem_of_getElem? ‹_›); simp; omega) | (simp; omega) | simp)) ?_)
                                     rintro _ w69 ⟨g70, Ao71, co72, rfl, hw69_hW, hcco72, hkco72, hfco72, hnfco72, hfw69⟩; refine ⟨_, rfl, ?_⟩; have hW0 := hW; have hW := hW0.call hfw69
                                     have hW := hW0.addFromAt hW hfco72 (in_cons (in_at 4 rfl) (in_cons (in_at 3 rfl) (in_cons (in_at 0 rfl) in_nil)))
                                     have hsco72 : Res.src (roR Ao71 2 enVecE g70) [roR (some ⟨b23, o24, none⟩) 2 enVecE V, nestR innerVecE V] w := src_call hfco72 (srcs_cons (src_arg (.head _)) (srcs_cons (src_arg (.tail _ (.head _))) (srcs_cons hsro_acc srcs_nil))) hW0.fr.size
                                     have hW := hW0.addFromAt hW hnfco72 (in_cons (in_at 4 rfl) (in_cons (in_at 3 rfl) (in_cons (in_at 0 rfl) in_nil)))
                                     have hsnco72 : Res.src (nestR innerVecE g70) [roR (some ⟨b23, o24, none⟩) 2 enVecE V, nestR innerVecE V] w := src_call hnfco72 (srcs_cons (src_arg (.head _)) (srcs_cons (src_arg (.tail _ (.head _))) (srcs_cons hsro_acc srcs_nil))) hW0.fr.size
                                     clear hW0 hA ac; intro ac hA
                                     refine st hA (by kernel_rfl) (by kernel_rfl) (by kernel_rfl) (Runs.store (v := Value.agg #[Value.slice Ao71 (g70).length co72]) (b := b5) (j := 0) (n := 1) (cs' := #[Value.slice Ao71 (g70).length co72]) (H' := [Cel b5 #[Value.slice Ao71 (g70).length co72] 51, Cel b3 #[Value.int .u64 m.clock, Value.int .i64 m.site.f, Value.int .i64 m.site.pc] 32, Cel b1 #[Value.slice (some ⟨b23, o24, none⟩) V.length c_V] 51]) (by kernel_rfl) (by kernel_rfl) (by kernel_rfl) (by kernel_rfl) (by kernel_rfl) hW 0 (by rfl) (Nat.le_of_ble_eq_true (by kernel_rfl)) (by kernel_rfl) (by rfl) ?_); clear hA ac hW; intro w73 hW ac hA
                                     refine st_rd (v := Value.int .i64 0) hA (by kernel_rfl) (by kernel_rfl) (by kernel_rfl) hW.cls (Rd.pure fun _ => by kernel_rfl) ?_; clear hA ac; intro ac hA
                                     refine wpList_nil ?_
                                     refine thenN ?_
                                     refine wp_ret ?_
                                     refine ret2 (v1 := Value.agg #[Value.slice Ao71 (g70).length co72]) (v2 := Value.int .i64 0) (by rfl) hA (Got.cell (b := b5) (i := 0) hA (by kernel_rfl) (by kernel_rfl) (hW.cel 0 rfl) (by kernel_rfl)) (Got.tmp hA (by kernel_rfl) (by kernel_rfl)) ?_
                                     clear hA
                                     exact ⟨g70, 0, Ao71, co72, by first | rfl | (simp; done), by unfold MarkPR; rw [if_neg (by rw [h7]; simp), if_neg (by rw [h20]; simp), all_at h20 hy22]; rw [List.take_of_length_le (by omega)] at hO; rw [hw69_hW, insP_yes (o := O) (by rw [← hO]; simp [*])] ; exact ⟨rfl, rfl⟩, (by first | assumption | omega | (simp; omega) | simp), hkco72, (hW.outSrc 1 rfl hsco72), (hW.outSrc 0 rfl hsnco72), hW.fr⟩)))))))))
 · skip
   first
   | (exfalso; clear hA hW; omega)
   | (
     refine wp_region_lit ?_
     refine st_rd (v := Value.int .i64 id) hA (by kernel_rfl) (by kernel_rfl) (by kernel_rfl) hW.cls (Rd.pure fun _ => by kernel_rfl) ?_; clear hA ac; intro ac hA
     refine st_rd (v := Value.bool (decide ((id : Int) < (0 : Int)))) hA (by kernel_rfl) (by kernel_rfl) (by kernel_rfl) hW.cls (Rd.pure fun _ => by kernel_rfl) ?_; clear hA ac; intro ac hA
     refine st_rd (v := Value.bool (decide ((id : Int) < (0 : Int)))) hA (by kernel_rfl) (by kernel_rfl) (by kernel_rfl) hW.cls (Rd.pure fun _ => by kernel_rfl) ?_; clear hA ac; intro ac hA
     rcases Bool.eq_false_or_eq_true (decide ((id : Int) < (0 : Int))) with h74 | h74
     · skip
       rw [h74] at hA
       have h74 := of_decide_eq_true h74
       first
       | (exfalso; clear hA hW; omega)
       | (
         refine st_skip hA (by kernel_rfl) (by kernel_rfl) ?_; clear hA ac; intro ac hA
         refine st_skip hA (by kernel_rfl) (by kernel_rfl) ?_; clear hA ac; intro ac hA
         refine st_rd (v := Value.bool true) hA (by kernel_rfl) (by kernel_rfl) (by kernel_rfl) hW.cls (Rd.pure fun _ => by kernel_rfl) ?_; clear hA ac; intro ac hA
         refine st_rd (v := Value.bool true) hA (by kernel_rfl) (by kernel_rfl) (by kernel_rfl) hW.cls (Rd.pure fun _ => by kernel_rfl) ?_; clear hA ac; intro ac hA
         refine st_skip hA (by kernel_rfl) (by kernel_rfl) ?_; clear hA ac; intro ac hA
         refine st_skip hA (by kernel_rfl) (by kernel_rfl) ?_; clear hA ac; intro ac hA
         refine st_skip hA (by kernel_rfl) (by kernel_rfl) ?_; clear hA ac; intro ac hA
         refine st_rd (v := Value.bool true) hA (by kernel_rfl) (by kernel_rfl) (by kernel_rfl) hW.cls (Rd.pure fun _ => by kernel_rfl) ?_; clear hA ac; intro ac hA
         refine st_rd (v := Value.bool true) hA (by kernel_rfl) (by kernel_rfl) (by kernel_rfl) hW.cls (Rd.pure fun _ => by kernel_rfl) ?_; clear hA ac; intro ac hA
         refine st_skip hA (by kernel_rfl) (by kernel_rfl) ?_; clear hA ac; intro ac hA
         refine st_skip hA (by kernel_rfl) (by kernel_rfl) ?_; clear hA ac; intro ac hA
         refine st_skip hA (by kernel_rfl) (by kernel_rfl) ?_; clear hA ac; intro ac hA
         refine st_rd (v := Value.bool true) hA (by kernel_rfl) (by kernel_rfl) (by kernel_rfl) hW.cls (Rd.pure fun _ => by kernel_rfl) ?_; clear hA ac; intro ac hA
         refine st_rd (v := Value.bool true) hA (by kernel_rfl) (by kernel_rfl) (by kernel_rfl) hW.cls (Rd.pure fun _ => by kernel_rfl) ?_; clear hA ac; intro ac hA
         refine st_skip hA (by kernel_rfl) (by kernel_rfl) ?_; clear hA ac; intro ac hA
         refine st_skip hA (by kernel_rfl) (by kernel_rfl) ?_; clear hA ac; intro ac hA
         refine st_skip hA (by kernel_rfl) (by kernel_rfl) ?_; clear hA ac; intro ac hA
         refine st_skip hA (by kernel_rfl) (by kernel_rfl) ?_; clear hA ac; intro ac hA
         refine st_rd (v := Value.bool true) hA (by kernel_rfl) (by kernel_rfl) (by kernel_rfl) hW.cls (Rd.pure fun _ => by kernel_rfl) ?_; clear hA ac; intro ac hA
         refine wpList_nil ?_
         refine thenN ?_
         refine wp_cond_true (hA.eval (by kernel_rfl)) ?_
         refine wp_seq ?_
         refine wp_region_lit ?_
         refine st_rd (v := Value.agg #[Value.slice A_V V.length c_V]) hA (by kernel_rfl) (by kernel_rfl) (by kernel_rfl) hW.cls (Rd.load (b := b1) (i := 0) (by kernel_rfl) (fun _ hw => (hw.1).cel 2 rfl) (by kernel_rfl)) ?_; clear hA ac; intro ac hA
         refine st hA (by kernel_rfl) (by kernel_rfl) (by kernel_rfl) (Runs.store (v := Value.agg #[Value.slice A_V V.length c_V]) (b := b5) (j := 0) (n := 1) (cs' := #[Value.slice A_V V.length c_V]) (H' := [Cel b5 #[Value.slice A_V V.length c_V] 51, Cel b3 #[Value.int .u64 m.clock, Value.int .i64 m.site.f, Value.int .i64 m.site.pc] 32, Cel b1 #[Value.slice A_V V.length c_V] 51]) (by kernel_rfl) (by kernel_rfl) (by kernel_rfl) (by kernel_rfl) (by kernel_rfl) hW 0 (by rfl) (Nat.le_of_ble_eq_true (by kernel_rfl)) (by kernel_rfl) (by rfl) ?_); clear hA ac hW; intro w75 hW ac hA
         refine st_rd (v := Value.int .i64 2) hA (by kernel_rfl) (by kernel_rfl) (by kernel_rfl) hW.cls (Rd.pure fun _ => by kernel_rfl) ?_; clear hA ac; intro ac hA
         refine wpList_nil ?_
         refine thenN ?_
         refine wp_ret ?_
         refine thenR ?_
         refine ret2 (v1 := Value.agg #[Value.slice A_V V.length c_V]) (v2 := Value.int .i64 2) (by rfl) hA (Got.cell (b := b5) (i := 0) hA (by kernel_rfl) (by kernel_rfl) (hW.cel 0 rfl) (by kernel_rfl)) (Got.tmp hA (by kernel_rfl) (by kernel_rfl)) ?_
         clear hA
         exact ⟨V, 2, A_V, c_V, by first | rfl | (simp; done), by unfold MarkPR; rw [if_pos h7]; exact ⟨rfl, rfl⟩, (by first | assumption | omega | (simp; omega) | simp), hk_V, (hW.outSrc 1 rfl (src_arg (.head _))), (hW.outSrc 0 rfl (src_arg (.tail _ (.head _)))), hW.fr⟩)
     · skip
       rw [h74] at hA
       have h74 := of_decide_eq_false h74
       first
       | (exfalso; clear hA hW; omega)
       | (
         refine st_rd (v := Value.int .i64 id) hA (by kernel_rfl) (by kernel_rfl) (by kernel_rfl) hW.cls (Rd.pure fun _ => by kernel_rfl) ?_; clear hA ac; intro ac hA
         refine st_rd (v := Value.bool (decide ((id : Int) > (65535 : Int)))) hA (by kernel_rfl) (by kernel_rfl) (by kernel_rfl) hW.cls (Rd.pure fun _ => by kernel_rfl) ?_; clear hA ac; intro ac hA
         refine st_rd (v := Value.bool (decide ((id : Int) > (65535 : Int)))) hA (by kernel_rfl) (by kernel_rfl) (by kernel_rfl) hW.cls (Rd.pure fun _ => by kernel_rfl) ?_; clear hA ac; intro ac hA
         refine st_rd (v := Value.bool (decide ((id : Int) > (65535 : Int)))) hA (by kernel_rfl) (by kernel_rfl) (by kernel_rfl) hW.cls (Rd.pure fun _ => by kernel_rfl) ?_; clear hA ac; intro ac hA
         rcases Bool.eq_false_or_eq_true (decide ((id : Int) > (65535 : Int))) with h76 | h76
         · skip
           rw [h76] at hA
           have h76 := of_decide_eq_true h76
           first
           | (exfalso; clear hA hW; omega)
           | (
             refine st_skip hA (by kernel_rfl) (by kernel_rfl) ?_; clear hA ac; intro ac hA
             refine st_skip hA (by kernel_rfl) (by kernel_rfl) ?_; clear hA ac; intro ac hA
             refine st_skip hA (by kernel_rfl) (by kernel_rfl) ?_; clear hA ac; intro ac hA
             refine st_rd (v := Value.bool true) hA (by kernel_rfl) (by kernel_rfl) (by kernel_rfl) hW.cls (Rd.pure fun _ => by kernel_rfl) ?_; clear hA ac; intro ac hA
             refine st_rd (v := Value.bool true) hA (by kernel_rfl) (by kernel_rfl) (by kernel_rfl) hW.cls (Rd.pure fun _ => by kernel_rfl) ?_; clear hA ac; intro ac hA
             refine st_skip hA (by kernel_rfl) (by kernel_rfl) ?_; clear hA ac; intro ac hA
             refine st_skip hA (by kernel_rfl) (by kernel_rfl) ?_; clear hA ac; intro ac hA
             refine st_skip hA (by kernel_rfl) (by kernel_rfl) ?_; clear hA ac; intro ac hA
             refine st_rd (v := Value.bool true) hA (by kernel_rfl) (by kernel_rfl) (by kernel_rfl) hW.cls (Rd.pure fun _ => by kernel_rfl) ?_; clear hA ac; intro ac hA
             refine st_rd (v := Value.bool true) hA (by kernel_rfl) (by kernel_rfl) (by kernel_rfl) hW.cls (Rd.pure fun _ => by kernel_rfl) ?_; clear hA ac; intro ac hA
             refine st_skip hA (by kernel_rfl) (by kernel_rfl) ?_; clear hA ac; intro ac hA
             refine st_skip hA (by kernel_rfl) (by kernel_rfl) ?_; clear hA ac; intro ac hA
             refine st_skip hA (by kernel_rfl) (by kernel_rfl) ?_; clear hA ac; intro ac hA
             refine st_skip hA (by kernel_rfl) (by kernel_rfl) ?_; clear hA ac; intro ac hA
             refine st_rd (v := Value.bool true) hA (by kernel_rfl) (by kernel_rfl) (by kernel_rfl) hW.cls (Rd.pure fun _ => by kernel_rfl) ?_; clear hA ac; intro ac hA
             refine wpList_nil ?_
             refine thenN ?_
             refine wp_cond_true (hA.eval (by kernel_rfl)) ?_
             refine wp_seq ?_
             refine wp_region_lit ?_
             refine st_rd (v := Value.agg #[Value.slice A_V V.length c_V]) hA (by kernel_rfl) (by kernel_rfl) (by kernel_rfl) hW.cls (Rd.load (b := b1) (i := 0) (by kernel_rfl) (fun _ hw => (hw.1).cel 2 rfl) (by kernel_rfl)) ?_; clear hA ac; intro ac hA
             refine st hA (by kernel_rfl) (by kernel_rfl) (by kernel_rfl) (Runs.store (v := Value.agg #[Value.slice A_V V.length c_V]) (b := b5) (j := 0) (n := 1) (cs' := #[Value.slice A_V V.length c_V]) (H' := [Cel b5 #[Value.slice A_V V.length c_V] 51, Cel b3 #[Value.int .u64 m.clock, Value.int .i64 m.site.f, Value.int .i64 m.site.pc] 32, Cel b1 #[Value.slice A_V V.length c_V] 51]) (by kernel_rfl) (by kernel_rfl) (by kernel_rfl) (by kernel_rfl) (by kernel_rfl) hW 0 (by rfl) (Nat.le_of_ble_eq_true (by kernel_rfl)) (by kernel_rfl) (by rfl) ?_); clear hA ac hW; intro w77 hW ac hA
             refine st_rd (v := Value.int .i64 2) hA (by kernel_rfl) (by kernel_rfl) (by kernel_rfl) hW.cls (Rd.pure fun _ => by kernel_rfl) ?_; clear hA ac; intro ac hA
             refine wpList_nil ?_
             refine thenN ?_
             refine wp_ret ?_
             refine thenR ?_
             refine ret2 (v1 := Value.agg #[Value.slice A_V V.length c_V]) (v2 := Value.int .i64 2) (by rfl) hA (Got.cell (b := b5) (i := 0) hA (by kernel_rfl) (by kernel_rfl) (hW.cel 0 rfl) (by kernel_rfl)) (Got.tmp hA (by kernel_rfl) (by kernel_rfl)) ?_
             clear hA
             exact ⟨V, 2, A_V, c_V, by first | rfl | (simp; done), by unfold MarkPR; rw [if_pos h7]; exact ⟨rfl, rfl⟩, (by first | assumption | omega | (simp; omega) | simp), hk_V, (hW.outSrc 1 rfl (src_arg (.head _))), (hW.outSrc 0 rfl (src_arg (.tail _ (.head _)))), hW.fr⟩)
         · skip
           rw [h76] at hA
           have h76 := of_decide_eq_false h76
           first
           | (exfalso; clear hA hW; omega)
           | (
             refine st_rd (v := Value.pointer (some ⟨b3, 0, none⟩)) hA (by kernel_rfl) (by kernel_rfl) (by kernel_rfl) hW.cls (Rd.pure fun _ => by kernel_rfl) ?_; clear hA ac; intro ac hA
             refine st_rd (v := Value.int .u64 m.clock) hA (by kernel_rfl) (by kernel_rfl) (by kernel_rfl) hW.cls (Rd.load (b := b3) (i := 0) (by kernel_rfl) (fun _ hw => (hw.1).cel 1 rfl) (by kernel_rfl)) ?_; clear hA ac; intro ac hA
             refine st_rd (v := Value.bool (decide ((m.clock : Int) < (1 : Int)))) hA (by kernel_rfl) (by kernel_rfl) (by kernel_rfl) hW.cls (Rd.pure fun _ => by kernel_rfl) ?_; clear hA ac; intro ac hA
             refine st_rd (v := Value.bool (decide ((m.clock : Int) < (1 : Int)))) hA (by kernel_rfl) (by kernel_rfl) (by kernel_rfl) hW.cls (Rd.pure fun _ => by kernel_rfl) ?_; clear hA ac; intro ac hA
             refine st_rd (v := Value.bool (decide ((m.clock : Int) < (1 : Int)))) hA (by kernel_rfl) (by kernel_rfl) (by kernel_rfl) hW.cls (Rd.pure fun _ => by kernel_rfl) ?_; clear hA ac; intro ac hA
             rcases Bool.eq_false_or_eq_true (decide ((m.clock : Int) < (1 : Int))) with h78 | h78
             · skip
               rw [h78] at hA
               have h78 := of_decide_eq_true h78
               first
               | (exfalso; clear hA hW; omega)
               | (
                 refine st_skip hA (by kernel_rfl) (by kernel_rfl) ?_; clear hA ac; intro ac hA
                 refine st_skip hA (by kernel_rfl) (by kernel_rfl) ?_; clear hA ac; intro ac hA
                 refine st_skip hA (by kernel_rfl) (by kernel_rfl) ?_; clear hA ac; intro ac hA
                 refine st_rd (v := Value.bool true) hA (by kernel_rfl) (by kernel_rfl) (by kernel_rfl) hW.cls (Rd.pure fun _ => by kernel_rfl) ?_; clear hA ac; intro ac hA
                 refine st_rd (v := Value.bool true) hA (by kernel_rfl) (by kernel_rfl) (by kernel_rfl) hW.cls (Rd.pure fun _ => by kernel_rfl) ?_; clear hA ac; intro ac hA
                 refine st_skip hA (by kernel_rfl) (by kernel_rfl) ?_; clear hA ac; intro ac hA
                 refine st_skip hA (by kernel_rfl) (by kernel_rfl) ?_; clear hA ac; intro ac hA
                 refine st_skip hA (by kernel_rfl) (by kernel_rfl) ?_; clear hA ac; intro ac hA
                 refine st_skip hA (by kernel_rfl) (by kernel_rfl) ?_; clear hA ac; intro ac hA
                 refine st_rd (v := Value.bool true) hA (by kernel_rfl) (by kernel_rfl) (by kernel_rfl) hW.cls (Rd.pure fun _ => by kernel_rfl) ?_; clear hA ac; intro ac hA
                 refine wpList_nil ?_
                 refine thenN ?_
                 refine wp_cond_true (hA.eval (by kernel_rfl)) ?_
                 refine wp_seq ?_
                 refine wp_region_lit ?_
                 refine st_rd (v := Value.agg #[Value.slice A_V V.length c_V]) hA (by kernel_rfl) (by kernel_rfl) (by kernel_rfl) hW.cls (Rd.load (b := b1) (i := 0) (by kernel_rfl) (fun _ hw => (hw.1).cel 2 rfl) (by kernel_rfl)) ?_; clear hA ac; intro ac hA
                 refine st hA (by kernel_rfl) (by kernel_rfl) (by kernel_rfl) (Runs.store (v := Value.agg #[Value.slice A_V V.length c_V]) (b := b5) (j := 0) (n := 1) (cs' := #[Value.slice A_V V.length c_V]) (H' := [Cel b5 #[Value.slice A_V V.length c_V] 51, Cel b3 #[Value.int .u64 m.clock, Value.int .i64 m.site.f, Value.int .i64 m.site.pc] 32, Cel b1 #[Value.slice A_V V.length c_V] 51]) (by kernel_rfl) (by kernel_rfl) (by kernel_rfl) (by kernel_rfl) (by kernel_rfl) hW 0 (by rfl) (Nat.le_of_ble_eq_true (by kernel_rfl)) (by kernel_rfl) (by rfl) ?_); clear hA ac hW; intro w79 hW ac hA
                 refine st_rd (v := Value.int .i64 2) hA (by kernel_rfl) (by kernel_rfl) (by kernel_rfl) hW.cls (Rd.pure fun _ => by kernel_rfl) ?_; clear hA ac; intro ac hA
                 refine wpList_nil ?_
                 refine thenN ?_
                 refine wp_ret ?_
                 refine thenR ?_
                 refine ret2 (v1 := Value.agg #[Value.slice A_V V.length c_V]) (v2 := Value.int .i64 2) (by rfl) hA (Got.cell (b := b5) (i := 0) hA (by kernel_rfl) (by kernel_rfl) (hW.cel 0 rfl) (by kernel_rfl)) (Got.tmp hA (by kernel_rfl) (by kernel_rfl)) ?_
                 clear hA
                 exact ⟨V, 2, A_V, c_V, by first | rfl | (simp; done), by unfold MarkPR; rw [if_pos h7]; exact ⟨rfl, rfl⟩, (by first | assumption | omega | (simp; omega) | simp), hk_V, (hW.outSrc 1 rfl (src_arg (.head _))), (hW.outSrc 0 rfl (src_arg (.tail _ (.head _)))), hW.fr⟩)
             · skip
               rw [h78] at hA
               have h78 := of_decide_eq_false h78
               first
               | (exfalso; clear hA hW; omega)
               | (
                 refine st_rd (v := Value.pointer (some ⟨b3, 0, none⟩)) hA (by kernel_rfl) (by kernel_rfl) (by kernel_rfl) hW.cls (Rd.pure fun _ => by kernel_rfl) ?_; clear hA ac; intro ac hA
                 refine st_rd (v := Value.int .u64 m.clock) hA (by kernel_rfl) (by kernel_rfl) (by kernel_rfl) hW.cls (Rd.load (b := b3) (i := 0) (by kernel_rfl) (fun _ hw => (hw.1).cel 1 rfl) (by kernel_rfl)) ?_; clear hA ac; intro ac hA
                 refine st_rd (v := Value.bool (decide ((m.clock : Int) > (281474976710655 : Int)))) hA (by kernel_rfl) (by kernel_rfl) (by kernel_rfl) hW.cls (Rd.pure fun _ => by kernel_rfl) ?_; clear hA ac; intro ac hA
                 refine st_rd (v := Value.bool (decide ((m.clock : Int) > (281474976710655 : Int)))) hA (by kernel_rfl) (by kernel_rfl) (by kernel_rfl) hW.cls (Rd.pure fun _ => by kernel_rfl) ?_; clear hA ac; intro ac hA
                 refine st_rd (v := Value.bool (decide ((m.clock : Int) > (281474976710655 : Int)))) hA (by kernel_rfl) (by kernel_rfl) (by kernel_rfl) hW.cls (Rd.pure fun _ => by kernel_rfl) ?_; clear hA ac; intro ac hA
                 rcases Bool.eq_false_or_eq_true (decide ((m.clock : Int) > (281474976710655 : Int))) with h80 | h80
                 · skip
                   rw [h80] at hA
                   have h80 := of_decide_eq_true h80
                   first
                   | (exfalso; clear hA hW; omega)
                   | (
                     refine st_skip hA (by kernel_rfl) (by kernel_rfl) ?_; clear hA ac; intro ac hA
                     refine st_skip hA (by kernel_rfl) (by kernel_rfl) ?_; clear hA ac; intro ac hA
                     refine st_skip hA (by kernel_rfl) (by kernel_rfl) ?_; clear hA ac; intro ac hA
                     refine st_skip hA (by kernel_rfl) (by kernel_rfl) ?_; clear hA ac; intro ac hA
                     refine st_rd (v := Value.bool true) hA (by kernel_rfl) (by kernel_rfl) (by kernel_rfl) hW.cls (Rd.pure fun _ => by kernel_rfl) ?_; clear hA ac; intro ac hA
                     refine wpList_nil ?_
                     refine thenN ?_
                     refine wp_cond_true (hA.eval (by kernel_rfl)) ?_
                     refine wp_seq ?_
                     refine wp_region_lit ?_
                     refine st_rd (v := Value.agg #[Value.slice A_V V.length c_V]) hA (by kernel_rfl) (by kernel_rfl) (by kernel_rfl) hW.cls (Rd.load (b := b1) (i := 0) (by kernel_rfl) (fun _ hw => (hw.1).cel 2 rfl) (by kernel_rfl)) ?_; clear hA ac; intro ac hA
                     refine st hA (by kernel_rfl) (by kernel_rfl) (by kernel_rfl) (Runs.store (v := Value.agg #[Value.slice A_V V.length c_V]) (b := b5) (j := 0) (n := 1) (cs' := #[Value.slice A_V V.length c_V]) (H' := [Cel b5 #[Value.slice A_V V.length c_V] 51, Cel b3 #[Value.int .u64 m.clock, Value.int .i64 m.site.f, Value.int .i64 m.site.pc] 32, Cel b1 #[Value.slice A_V V.length c_V] 51]) (by kernel_rfl) (by kernel_rfl) (by kernel_rfl) (by kernel_rfl) (by kernel_rfl) hW 0 (by rfl) (Nat.le_of_ble_eq_true (by kernel_rfl)) (by kernel_rfl) (by rfl) ?_); clear hA ac hW; intro w81 hW ac hA
                     refine st_rd (v := Value.int .i64 2) hA (by kernel_rfl) (by kernel_rfl) (by kernel_rfl) hW.cls (Rd.pure fun _ => by kernel_rfl) ?_; clear hA ac; intro ac hA
                     refine wpList_nil ?_
                     refine thenN ?_
                     refine wp_ret ?_
                     refine thenR ?_
                     refine ret2 (v1 := Value.agg #[Value.slice A_V V.length c_V]) (v2 := Value.int .i64 2) (by rfl) hA (Got.cell (b := b5) (i := 0) hA (by kernel_rfl) (by kernel_rfl) (hW.cel 0 rfl) (by kernel_rfl)) (Got.tmp hA (by kernel_rfl) (by kernel_rfl)) ?_
                     clear hA
                     exact ⟨V, 2, A_V, c_V, by first | rfl | (simp; done), by unfold MarkPR; rw [if_pos h7]; exact ⟨rfl, rfl⟩, (by first | assumption | omega | (simp; omega) | simp), hk_V, (hW.outSrc 1 rfl (src_arg (.head _))), (hW.outSrc 0 rfl (src_arg (.tail _ (.head _)))), hW.fr⟩)
                 · skip
                   rw [h80] at hA
                   have h80 := of_decide_eq_false h80
                   first
                   | (exfalso; clear hA hW; omega)
                   | (
                     refine st_rd (v := Value.pointer (some ⟨b3, 1, none⟩)) hA (by kernel_rfl) (by kernel_rfl) (by kernel_rfl) hW.cls (Rd.pure fun _ => by kernel_rfl) ?_; clear hA ac; intro ac hA
                     refine st_rd (v := Value.agg #[Value.int .i64 m.site.f, Value.int .i64 m.site.pc]) hA (by kernel_rfl) (by kernel_rfl) (by kernel_rfl) hW.cls (Rd.load (b := b3) (i := 1) (by kernel_rfl) (fun _ hw => (hw.1).cel 1 rfl) (by kernel_rfl)) ?_; clear hA ac; intro ac hA
                     refine st hA (by kernel_rfl) (by kernel_rfl) (by kernel_rfl) (Runs.callN (v := Value.bool (Site.ok m.site)) (fun _ => by kernel_rfl) hW (e_siRight m.site w6) ?_); clear hA ac hW; intro w82 hW hfw82 ac hA
                     refine st_rd (v := Value.bool (!(Site.ok m.site))) hA (by kernel_rfl) (by kernel_rfl) (by kernel_rfl) hW.cls (Rd.pure fun _ => by kernel_rfl) ?_; clear hA ac; intro ac hA
                     refine st_rd (v := Value.bool (!(Site.ok m.site))) hA (by kernel_rfl) (by kernel_rfl) (by kernel_rfl) hW.cls (Rd.pure fun _ => by kernel_rfl) ?_; clear hA ac; intro ac hA
                     refine wpList_nil ?_
                     refine thenN ?_
                     refine wp_cond_split (t := !(Site.ok m.site)) (hA.eval (by kernel_rfl)) (fun h83 => ?_) (fun h83 => ?_)
                     · skip
                       have h83 := not_t h83
                       first
                       | (exfalso; clear hA hW; omega)
                       | (exfalso; clear hA hW; have q_ := h7; unfold fineM at q_; rw [decide_eq_true (by omega), decide_eq_true (by omega), decide_eq_true (by omega), decide_eq_true (by omega), h83] at q_; cases q_; done)
                       | (
                         refine wp_seq ?_
                         refine wp_region_lit ?_
                         refine st_rd (v := Value.agg #[Value.slice A_V V.length c_V]) hA (by kernel_rfl) (by kernel_rfl) (by kernel_rfl) hW.cls (Rd.load (b := b1) (i := 0) (by kernel_rfl) (fun _ hw => (hw.1).cel 2 rfl) (by kernel_rfl)) ?_; clear hA ac; intro ac hA
                         refine st hA (by kernel_rfl) (by kernel_rfl) (by kernel_rfl) (Runs.store (v := Value.agg #[Value.slice A_V V.length c_V]) (b := b5) (j := 0) (n := 1) (cs' := #[Value.slice A_V V.length c_V]) (H' := [Cel b5 #[Value.slice A_V V.length c_V] 51, Cel b3 #[Value.int .u64 m.clock, Value.int .i64 m.site.f, Value.int .i64 m.site.pc] 32, Cel b1 #[Value.slice A_V V.length c_V] 51]) (by kernel_rfl) (by kernel_rfl) (by kernel_rfl) (by kernel_rfl) (by kernel_rfl) hW 0 (by rfl) (Nat.le_of_ble_eq_true (by kernel_rfl)) (by kernel_rfl) (by rfl) ?_); clear hA ac hW; intro w84 hW ac hA
                         refine st_rd (v := Value.int .i64 2) hA (by kernel_rfl) (by kernel_rfl) (by kernel_rfl) hW.cls (Rd.pure fun _ => by kernel_rfl) ?_; clear hA ac; intro ac hA
                         refine wpList_nil ?_
                         refine thenN ?_
                         refine wp_ret ?_
                         refine thenR ?_
                         refine ret2 (v1 := Value.agg #[Value.slice A_V V.length c_V]) (v2 := Value.int .i64 2) (by rfl) hA (Got.cell (b := b5) (i := 0) hA (by kernel_rfl) (by kernel_rfl) (hW.cel 0 rfl) (by kernel_rfl)) (Got.tmp hA (by kernel_rfl) (by kernel_rfl)) ?_
                         clear hA
                         exact ⟨V, 2, A_V, c_V, by first | rfl | (simp; done), by unfold MarkPR; rw [if_pos h7]; exact ⟨rfl, rfl⟩, (by first | assumption | omega | (simp; omega) | simp), hk_V, (hW.outSrc 1 rfl (src_arg (.head _))), (hW.outSrc 0 rfl (src_arg (.tail _ (.head _)))), hW.fr⟩)
                     · skip
                       have h83 := not_f h83
                       first
                       | (exfalso; clear hA hW; omega)
                       | (exfalso; clear hA hW; have q_ := h7; unfold fineM at q_; rw [decide_eq_true (by omega), decide_eq_true (by omega), decide_eq_true (by omega), decide_eq_true (by omega), h83] at q_; cases q_; done)
                       | (
                         refine wp_skip ?_
                         refine thenN ?_
                         refine wp_seq ?_
                         refine wp_seq ?_
                         refine wp_region_lit ?_
                         refine st_rd (v := Value.agg #[Value.slice A_V V.length c_V]) hA (by kernel_rfl) (by kernel_rfl) (by kernel_rfl) hW.cls (Rd.load (b := b1) (i := 0) (by kernel_rfl) (fun _ hw => (hw.1).cel 2 rfl) (by kernel_rfl)) ?_; clear hA ac; intro ac hA
                         refine st_rd (v := Value.int .i64 h) hA (by kernel_rfl) (by kernel_rfl) (by kernel_rfl) hW.cls (Rd.pure fun _ => by kernel_rfl) ?_; clear hA ac; intro ac hA
                         refine st hA (by kernel_rfl) (by kernel_rfl) (by kernel_rfl) (Runs.callN (v := Value.bool (thereP (pv V) (h))) (fun _ => by kernel_rfl) hW (e_rthere A_V c_V V (h) w82 ((hW).getG 1 rfl) (by first | assumption | omega | (simp; omega) | simp) ((hW).getG 0 rfl) hk_V (by first | omega | (have := hL _ (List.mem_of_getElem? ‹_›); simp; omega) | (simp; omega) | simp)) ?_); clear hA ac hW; intro w85 hW hfw85 ac hA
                         refine st_rd (v := Value.bool (!(thereP (pv V) (h)))) hA (by kernel_rfl) (by kernel_rfl) (by kernel_rfl) hW.cls (Rd.pure fun _ => by kernel_rfl) ?_; clear hA ac; intro ac hA
                         refine wpList_nil ?_
                         refine thenN ?_
                         refine wp_cond_split (t := !(thereP (pv V) (h))) (hA.eval (by kernel_rfl)) (fun h86 => ?_) (fun h86 => ?_)
                         · skip
                           have h86 := not_t h86
                           first
                           | (exfalso; clear hA hW; omega)
                           | (
                             refine wp_seq ?_
                             refine wp_region_lit ?_
                             refine st_rd (v := Value.agg #[Value.slice A_V V.length c_V]) hA (by kernel_rfl) (by kernel_rfl) (by kernel_rfl) hW.cls (Rd.load (b := b1) (i := 0) (by kernel_rfl) (fun _ hw => (hw.1).cel 2 rfl) (by kernel_rfl)) ?_; clear hA ac; intro ac hA
                             refine st hA (by kernel_rfl) (by kernel_rfl) (by kernel_rfl) (Runs.store (v := Value.agg #[Value.slice A_V V.length c_V]) (b := b5) (j := 0) (n := 1) (cs' := #[Value.slice A_V V.length c_V]) (H' := [Cel b5 #[Value.slice A_V V.length c_V] 51, Cel b3 #[Value.int .u64 m.clock, Value.int .i64 m.site.f, Value.int .i64 m.site.pc] 32, Cel b1 #[Value.slice A_V V.length c_V] 51]) (by kernel_rfl) (by kernel_rfl) (by kernel_rfl) (by kernel_rfl) (by kernel_rfl) hW 0 (by rfl) (Nat.le_of_ble_eq_true (by kernel_rfl)) (by kernel_rfl) (by rfl) ?_); clear hA ac hW; intro w87 hW ac hA
                             refine st_rd (v := Value.int .i64 5) hA (by kernel_rfl) (by kernel_rfl) (by kernel_rfl) hW.cls (Rd.pure fun _ => by kernel_rfl) ?_; clear hA ac; intro ac hA
                             refine wpList_nil ?_
                             refine thenN ?_
                             refine wp_ret ?_
                             refine thenR ?_
                             refine ret2 (v1 := Value.agg #[Value.slice A_V V.length c_V]) (v2 := Value.int .i64 5) (by rfl) hA (Got.cell (b := b5) (i := 0) hA (by kernel_rfl) (by kernel_rfl) (hW.cel 0 rfl) (by kernel_rfl)) (Got.tmp hA (by kernel_rfl) (by kernel_rfl)) ?_
                             clear hA
                             exact ⟨V, 5, A_V, c_V, by first | rfl | (simp; done), by unfold MarkPR; rw [if_neg (by rw [h7]; simp), if_pos h86]; exact ⟨rfl, rfl⟩, (by first | assumption | omega | (simp; omega) | simp), hk_V, (hW.outSrc 1 rfl (src_arg (.head _))), (hW.outSrc 0 rfl (src_arg (.tail _ (.head _)))), hW.fr⟩)
                         · skip
                           have h86 := not_f h86
                           first
                           | (exfalso; clear hA hW; omega)
                           | (
                             fail)))))))

end Go.Proofs.Ytobbocpacacnhaa.L
