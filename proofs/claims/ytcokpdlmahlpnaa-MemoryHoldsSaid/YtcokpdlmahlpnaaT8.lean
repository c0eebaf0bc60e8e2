/- Contracts, walked by program over the engine's laws. -/
import Derived.Test.YtcokpdlmahlpnaaProg
import Derived.Test.YtcokpdlmahlpnaaT7
namespace Go.Proofs.Ytcokpdlmahlpnaa.L
open Go.RowKit

set_option maxRecDepth 100000 in
theorem eqIn_Cell6 (d : Nat) (a b : Cell6) (w : World) : (Op.equalIn (d + 2) 30 a.v b.v).run Try.prog w = .ok (decide (a = b)) w := by
  have h := eq_struct (P := Try.prog) (d := d + 1) (t := 30) (u := a.v) (v := b.v) rfl rfl (by kernel_rfl) (by kernel_rfl) (eqF_cons { name := "Addr", type := 28, offset := 0, embedded := false, tag := "", pkgPath := "", byteOffset := 0 } (fs := [{ name := "Word", type := 28, offset := 1, embedded := false, tag := "", pkgPath := "", byteOffset := 4 }]) (u := Value.int .u32 a.addr) (v := Value.int .u32 b.addr) (r := (a.addr == b.addr)) (by kernel_rfl) (by decide) (fun _ => by kernel_rfl) (fun _ => by kernel_rfl) (fun _ => by kernel_rfl) (eqF_cons { name := "Word", type := 28, offset := 1, embedded := false, tag := "", pkgPath := "", byteOffset := 4 } (fs := []) (u := Value.int .u32 a.word) (v := Value.int .u32 b.word) (r := (a.word == b.word)) (by kernel_rfl) (by decide) (fun _ => by kernel_rfl) (fun _ => by kernel_rfl) (fun _ => by kernel_rfl) (eqF_nil (by kernel_rfl)))) w
  rw [h]; congr 1
  obtain ⟨x0, x1⟩ := a; obtain ⟨y0, y1⟩ := b; rw [Bool.eq_iff_iff]; simp
theorem eq_Cell6 (w : World) (a b : Cell6) : (Op.equal 30 a.v b.v).run Try.prog w = .ok (decide (a = b)) w := eqIn_Cell6 9998 a b w
theorem Cell6.eqi (a b : Cell6) : a = b ↔ a.addr = b.addr ∧ a.word = b.word := by
  obtain ⟨x0, x1⟩ := a; obtain ⟨y0, y1⟩ := b; simp
theorem find_some {α : Type} {l : List α} {p : α → Bool} {k : Nat} {y : α} (hn : ∀ x ∈ l.take k, p x = false) (hy : l[k]? = some y) (hp : p y = true) : l.find? p = some y := by
  have e : l = l.take k ++ y :: l.drop (k + 1) := by
    obtain ⟨hlt, rfl⟩ := List.getElem?_eq_some_iff.1 hy
    rw [List.getElem_cons_drop, List.take_append_drop]
  rw [e, List.find?_append, List.find?_eq_none.2 (fun x hx => by rw [hn x hx]; simp), List.find?_cons_of_pos hp]; rfl
theorem find_no {α : Type} {l : List α} {p : α → Bool} {k : Nat} (hn : ∀ x ∈ l.take k, p x = false) (hk : l.length ≤ k) : l.find? p = none := by
  rw [List.take_of_length_le hk] at hn
  exact List.find?_eq_none.2 fun x hx => by rw [hn x hx]; simp
theorem foldl_snoc {α β : Type} {f : β → α → β} {b : β} {l : List α} {k : Nat} {y : α} (h : l[k]? = some y) : (l.take (k + 1)).foldl f b = f ((l.take k).foldl f b) y := by rw [tk_snoc h, List.foldl_append]; rfl
/-- The document's Load. -/
def loadM (L : List Cell6) (a : Int) : Int := ((L.find? fun x => decide (x.addr = a)).map (·.word)).getD 0
/-- The document's Store. -/
def insStep6 (a wd : Int) (s : List Cell6 × Bool) (x : Cell6) : List Cell6 × Bool :=
  let s1 := if s.2 = false ∧ a ≤ x.addr then (s.1 ++ [(⟨a, wd⟩ : Cell6)], true) else s
  if x.addr = a then s1 else (s1.1 ++ [x], s1.2)
def insM (L : List Cell6) (a wd : Int) : List Cell6 := let s := L.foldl (insStep6 a wd) ([], decide (wd = 0)); if s.2 = true then s.1 else s.1 ++ [⟨a, wd⟩]
/-- The document's Pages. -/
def pgStep (O : List Int) (x : Cell6) : List Int := if O.getLast? = some (x.addr / 4096) then O else O ++ [x.addr / 4096]
def pagesM (L : List Cell6) : List Int := L.foldl pgStep []
set_option maxRecDepth 100000 in
theorem e_rload (A_L : Option Addr) (c_L : Nat) (L : List Cell6) (a : Int) (w : World) (hr_L : RowAt w A_L 2 enCell6 L) (hc_L : L.length ≤ c_L) (hl : L.length ≤ 100000) : Calls Try.prog 38 #[Value.agg #[Value.slice A_L L.length c_L], Value.int .u32 a] w (fun e w' => e = .returned (Value.int .u32 (loadM L a)) ∧ Fr No w w') := by
 have _hu := hc_L; have _hv := hr_L; clear _hu _hv
 have _hu := hl; clear _hu
 refine enter_E 27 Try.func38 rfl rfl (by kernel_rfl) (L := [(0, Value.agg #[Value.slice A_L L.length c_L]), (1, Value.int .u32 a)]) (by kernel_rfl) ?_
 intro ac hA
 have hW := Ws.start w No
 have hW := hW.arg hr_L
 refine wp_seq ?_
 refine wp_region_lit ?_
 refine st hA (by kernel_rfl) (by kernel_rfl) (by kernel_rfl) (Runs.cells (fun b => Value.pointer (some ⟨b, 0, none⟩)) #[Value.slice A_L L.length c_L] 38 (fun _ => by kernel_rfl) hW ?_); clear hA ac hW; intro b1 w2 hW hb1 hfw2 ac hA
 refine st_rd (v := Value.int .u32 0) hA (by kernel_rfl) (by kernel_rfl) (by kernel_rfl) hW.cls (Rd.pure fun _ => by kernel_rfl) ?_; clear hA ac; intro ac hA
 refine wpList_nil ?_
 refine thenN ?_
 refine wp_seq ?_
 refine wp_seq ?_
 refine wp_region_lit ?_
 refine st_rd (v := Value.int .i64 0) hA (by kernel_rfl) (by kernel_rfl) (by kernel_rfl) hW.cls (Rd.pure fun _ => by kernel_rfl) ?_; clear hA ac; intro ac hA
 refine wpList_nil ?_
 refine thenN ?_
 refine wp_block ?_
 refine wp_loop_m (fun m_ ac_ wl_ => ∃ k : Nat, m_ = L.length - k ∧ (k ≤ L.length) ∧ (∀ x ∈ L.take k, decide (x.addr = a) = false) ∧ Fm 27 [] [(1, Value.int .u32 a), (2, Value.pointer (some ⟨b1, 0, none⟩)), (5, Value.int .i64 ((k : Nat) : Int))] ac_ ∧ Ws w No [Cel b1 #[Value.slice A_L L.length c_L] 38] [roR A_L 2 enCell6 L] wl_) _ ⟨0, rfl, by omega, by intro x hx; simp at hx, hA.sub ⟨⟨by kernel_rfl, by kernel_rfl⟩, ⟨by kernel_rfl, by kernel_rfl⟩, ⟨by kernel_rfl, by kernel_rfl⟩, trivial⟩, (hW.pick [0] (by decide) rfl).pickG [0] rfl⟩ ?_
 clear hA ac hW; rintro m_ ac w3 ⟨k, rfl, hk, hn, hA, hW⟩
 refine wp_seq ?_
 refine wp_seq ?_
 refine wp_region_lit ?_
 refine st_rd (v := Value.int .i64 ((k : Nat) : Int)) hA (by kernel_rfl) (by kernel_rfl) (by kernel_rfl) hW.cls (Rd.pure fun _ => by kernel_rfl) ?_; clear hA ac; intro ac hA
 refine st_rd (v := Value.pointer (some ⟨b1, 0, none⟩)) hA (by kernel_rfl) (by kernel_rfl) (by kernel_rfl) hW.cls (Rd.pure fun _ => by kernel_rfl) ?_; clear hA ac; intro ac hA
 refine st_rd (v := Value.slice A_L L.length c_L) hA (by kernel_rfl) (by kernel_rfl) (by kernel_rfl) hW.cls (Rd.load (b := b1) (i := 0) (by kernel_rfl) (fun _ hw => (hw.1).cel 0 rfl) (by kernel_rfl)) ?_; clear hA ac; intro ac hA
 refine st_rd (v := Value.int .i64 ((L.length : Nat) : Int)) hA (by kernel_rfl) (by kernel_rfl) (by kernel_rfl) hW.cls (Rd.pure fun _ => by kernel_rfl) ?_; clear hA ac; intro ac hA
 refine st_rd (v := Value.bool (decide ((((k : Nat) : Int) : Int) < (((L.length : Nat) : Int) : Int)))) hA (by kernel_rfl) (by kernel_rfl) (by kernel_rfl) hW.cls (Rd.pure fun _ => by kernel_rfl) ?_; clear hA ac; intro ac hA
 refine wpList_nil ?_
 refine thenN ?_
 refine wp_cond_split (t := decide ((((k : Nat) : Int) : Int) < (((L.length : Nat) : Int) : Int))) (hA.eval (by kernel_rfl)) (fun h4 => ?_) (fun h4 => ?_)
 · skip
   have h4 := of_decide_eq_true h4
   first
   | (exfalso; clear hA hW; omega)
   | (
     refine wp_skip ?_
     refine thenN ?_
     refine wp_seq ?_
     refine wp_block ?_
     refine wp_seq ?_
     refine wp_region_lit ?_
     refine st_rd (v := Value.pointer (some ⟨b1, 0, none⟩)) hA (by kernel_rfl) (by kernel_rfl) (by kernel_rfl) hW.cls (Rd.pure fun _ => by kernel_rfl) ?_; clear hA ac; intro ac hA
     refine st_rd (v := Value.slice A_L L.length c_L) hA (by kernel_rfl) (by kernel_rfl) (by kernel_rfl) hW.cls (Rd.load (b := b1) (i := 0) (by kernel_rfl) (fun _ hw => (hw.1).cel 0 rfl) (by kernel_rfl)) ?_; clear hA ac; intro ac hA
     refine st_rd (v := Value.int .i64 ((k : Nat) : Int)) hA (by kernel_rfl) (by kernel_rfl) (by kernel_rfl) hW.cls (Rd.pure fun _ => by kernel_rfl) ?_; clear hA ac; intro ac hA
     obtain ⟨y5, hy5⟩ : ∃ y, L[k]? = some y := ⟨_, List.getElem?_eq_getElem (by first | omega | (simp; done) | (simp; omega))⟩
     obtain ⟨b6, o7, rfl, hbb6⟩ := row_some ((hW).getG 0 rfl) hy5
     refine st_rd (v := Value.pointer (some ⟨b6, o7 + k * 2, none⟩)) hA (by kernel_rfl) (by kernel_rfl) (by kernel_rfl) hW.cls (Rd.indexAddr (e := 30) (sz := 2) (b := b6) (off := o7) (n := L.length) (c := c_L) (k := k) (by kernel_rfl) (by kernel_rfl) (by first | omega | (simp; done) | (simp; omega)) (fun _ => by kernel_rfl) (fun _ => by kernel_rfl)) ?_; clear hA ac; intro ac hA
     refine st_rd (v := Value.pointer (some ⟨b6, o7 + k * 2, none⟩)) hA (by kernel_rfl) (by kernel_rfl) (by kernel_rfl) hW.cls (Rd.pure fun _ => by kernel_rfl) ?_; clear hA ac; intro ac hA
     refine st_rd (v := Value.int .u32 y5.addr) hA (by kernel_rfl) (by kernel_rfl) (by kernel_rfl) hW.cls (Rd.loadRow (b := b6) (i := o7 + k * 2) (xs := [Value.int .u32 y5.addr]) (by kernel_rfl) (fun _ hw => row_ld ((hw.1).getG 0 rfl) hy5 (Fr.refl No _) (fun h => h) 0 1 (by kernel_rfl)) (by kernel_rfl)) ?_; clear hA ac; intro ac hA
     refine st_rd (v := Value.int .u32 a) hA (by kernel_rfl) (by kernel_rfl) (by kernel_rfl) hW.cls (Rd.pure fun _ => by kernel_rfl) ?_; clear hA ac; intro ac hA
     refine st_rd (v := Value.bool ((y5.addr : Int) == (a : Int))) hA (by kernel_rfl) (by kernel_rfl) (by kernel_rfl) hW.cls (Rd.pure fun _ => by kernel_rfl) ?_; clear hA ac; intro ac hA
     refine wpList_nil ?_
     refine thenN ?_
     refine wp_cond_split (t := (y5.addr : Int) == (a : Int)) (hA.eval (by kernel_rfl)) (fun h8 => ?_) (fun h8 => ?_)
     · skip
       have h8 := eq_of_beq h8
       first
       | (exfalso; clear hA hW; omega)
       | (
         refine wp_seq ?_
         refine wp_region_lit ?_
         refine st_rd (v := Value.pointer (some ⟨b1, 0, none⟩)) hA (by kernel_rfl) (by kernel_rfl) (by kernel_rfl) hW.cls (Rd.pure fun _ => by kernel_rfl) ?_; clear hA ac; intro ac hA
         refine st_rd (v := Value.slice (some ⟨b6, o7, none⟩) L.length c_L) hA (by kernel_rfl) (by kernel_rfl) (by kernel_rfl) hW.cls (Rd.load (b := b1) (i := 0) (by kernel_rfl) (fun _ hw => (hw.1).cel 0 rfl) (by kernel_rfl)) ?_; clear hA ac; intro ac hA
         refine st_rd (v := Value.int .i64 ((k : Nat) : Int)) hA (by kernel_rfl) (by kernel_rfl) (by kernel_rfl) hW.cls (Rd.pure fun _ => by kernel_rfl) ?_; clear hA ac; intro ac hA
         refine st_rd (v := Value.pointer (some ⟨b6, o7 + k * 2, none⟩)) hA (by kernel_rfl) (by kernel_rfl) (by kernel_rfl) hW.cls (Rd.indexAddr (e := 30) (sz := 2) (b := b6) (off := o7) (n := L.length) (c := c_L) (k := k) (by kernel_rfl) (by kernel_rfl) (by first | omega | (simp; done) | (simp; omega)) (fun _ => by kernel_rfl) (fun _ => by kernel_rfl)) ?_; clear hA ac; intro ac hA
         refine st_rd (v := Value.pointer (some ⟨b6, o7 + k * 2 + 1, none⟩)) hA (by kernel_rfl) (by kernel_rfl) (by kernel_rfl) hW.cls (Rd.pure fun _ => by kernel_rfl) ?_; clear hA ac; intro ac hA
         refine st_rd (v := Value.int .u32 y5.word) hA (by kernel_rfl) (by kernel_rfl) (by kernel_rfl) hW.cls (Rd.loadRow (b := b6) (i := o7 + k * 2 + 1) (xs := [Value.int .u32 y5.word]) (by kernel_rfl) (fun _ hw => row_ld ((hw.1).getG 0 rfl) hy5 (Fr.refl No _) (fun h => h) 1 1 (by kernel_rfl)) (by kernel_rfl)) ?_; clear hA ac; intro ac hA
         refine st_rd (v := Value.int .u32 y5.word) hA (by kernel_rfl) (by kernel_rfl) (by kernel_rfl) hW.cls (Rd.pure fun _ => by kernel_rfl) ?_; clear hA ac; intro ac hA
         refine wpList_nil ?_
         refine thenN ?_
         refine wp_ret ?_
         refine blkR ?_
         refine thenR ?_
         refine thenR ?_
         refine blkR ?_
         refine thenR ?_
         refine ret1 (v := Value.int .u32 y5.word) (by rfl) hA (Got.tmp hA (by kernel_rfl) (by kernel_rfl)) ?_
         clear hA
         exact ⟨retv (congrArg (Value.int .u32) (by unfold loadM; rw [find_some hn hy5 (decide_eq_true h8)]; rfl)), hW.fr⟩)
     · skip
       have h8 := ne_of_beq_false h8
       first
       | (exfalso; clear hA hW; omega)
       | (
         refine wp_skip ?_
         refine blkN ?_
         refine thenN ?_
         refine wp_region_lit ?_
         refine st_rd (v := Value.int .i64 ((k : Nat) : Int)) hA (by kernel_rfl) (by kernel_rfl) (by kernel_rfl) hW.cls (Rd.pure fun _ => by kernel_rfl) ?_; clear hA ac; intro ac hA
         refine st_rd (v := Value.int .i64 ((k + 1 : Nat) : Int)) hA (by kernel_rfl) (by kernel_rfl) (by kernel_rfl) hW.cls (Rd.pureE (v0 := Value.int .i64 (IntKind.i64.wrap ((((k : Nat) : Int) : Int) + 1))) (fun _ => by kernel_rfl) (congrArg (Value.int .i64) ((w_i64 (x := (((k : Nat) : Int) : Int) + 1) (by omega) (by omega)).trans (by omega)))) ?_; clear hA ac; intro ac hA
         refine st_rd (v := Value.int .i64 ((k + 1 : Nat) : Int)) hA (by kernel_rfl) (by kernel_rfl) (by kernel_rfl) hW.cls (Rd.pure fun _ => by kernel_rfl) ?_; clear hA ac; intro ac hA
         refine wpList_nil ?_
         refine thenN ?_
         exact ⟨L.length - (k + 1), by omega, k + 1, rfl, by omega, by intro x hx; rw [tk_snoc hy5] at hx; rcases List.mem_append.1 hx with hx | hx; exact hn x hx; (simp only [List.mem_singleton] at hx; subst hx; exact decide_eq_false (by first | assumption | omega)), hA.sub ⟨⟨by kernel_rfl, by kernel_rfl⟩, ⟨by kernel_rfl, by kernel_rfl⟩, ⟨by kernel_rfl, by kernel_rfl⟩, trivial⟩, (hW.pick [0] (by decide) rfl).pickG [0] rfl⟩))
 · skip
   have h4 := of_decide_eq_false h4
   first
   | (exfalso; clear hA hW; omega)
   | (
     refine wp_exit ?_
     refine thenX ?_
     refine thenX ?_
     refine blkX ?_
     refine thenN ?_
     refine wp_seq ?_
     refine wp_region_lit ?_
     refine st_rd (v := Value.int .u32 0) hA (by kernel_rfl) (by kernel_rfl) (by kernel_rfl) hW.cls (Rd.pure fun _ => by kernel_rfl) ?_; clear hA ac; intro ac hA
     refine wpList_nil ?_
     refine thenN ?_
     refine wp_ret ?_
     refine ret1 (v := Value.int .u32 0) (by rfl) hA (Got.tmp hA (by kernel_rfl) (by kernel_rfl)) ?_
     clear hA
     exact ⟨retv (congrArg (Value.int .u32) (by unfold loadM; rw [find_no hn (by omega)]; rfl)), hW.fr⟩)

set_option maxRecDepth 100000 in
theorem e_rcells (A_l : Option Addr) (c_l : Nat) (l : List Cell6) (A_r : Option Addr) (c_r : Nat) (r : List Cell6) (w : World) (hr_l : RowAt w A_l 2 enCell6 l) (hc_l : l.length ≤ c_l) (hr_r : RowAt w A_r 2 enCell6 r) (hc_r : r.length ≤ c_r) (hl : l.length ≤ 100000 ∧ r.length ≤ 100000) : Calls Try.prog 23 #[Value.slice A_l l.length c_l, Value.slice A_r r.length c_r] w (fun e w' => e = .returned (Value.bool (decide (l = r))) ∧ Fr No w w') := by
 have _hu := hc_l; have _hv := hr_l; clear _hu _hv
 have _hu := hc_r; have _hv := hr_r; clear _hu _hv
 have _hu := hl; clear _hu
 refine enter_E 26 Try.func23 rfl rfl (by kernel_rfl) (L := [(0, Value.slice A_l l.length c_l), (1, Value.slice A_r r.length c_r)]) (by kernel_rfl) ?_
 intro ac hA
 have hW := Ws.start w No
 have hW := hW.arg hr_l
 have hW := hW.arg hr_r
 refine wp_seq ?_
 refine wp_region_lit ?_
 refine st_rd (v := Value.bool false) hA (by kernel_rfl) (by kernel_rfl) (by kernel_rfl) hW.cls (Rd.pure fun _ => by kernel_rfl) ?_; clear hA ac; intro ac hA
 refine wpList_nil ?_
 refine thenN ?_
 refine wp_seq ?_
 refine wp_seq ?_
 refine wp_region_lit ?_
 refine st_rd (v := Value.slice A_l l.length c_l) hA (by kernel_rfl) (by kernel_rfl) (by kernel_rfl) hW.cls (Rd.pure fun _ => by kernel_rfl) ?_; clear hA ac; intro ac hA
 refine st_rd (v := Value.int .i64 ((l.length : Nat) : Int)) hA (by kernel_rfl) (by kernel_rfl) (by kernel_rfl) hW.cls (Rd.pure fun _ => by kernel_rfl) ?_; clear hA ac; intro ac hA
 refine st_rd (v := Value.slice A_r r.length c_r) hA (by kernel_rfl) (by kernel_rfl) (by kernel_rfl) hW.cls (Rd.pure fun _ => by kernel_rfl) ?_; clear hA ac; intro ac hA
 refine st_rd (v := Value.int .i64 ((r.length : Nat) : Int)) hA (by kernel_rfl) (by kernel_rfl) (by kernel_rfl) hW.cls (Rd.pure fun _ => by kernel_rfl) ?_; clear hA ac; intro ac hA
 refine st_rd (v := Value.bool ((((l.length : Nat) : Int) : Int) != (((r.length : Nat) : Int) : Int))) hA (by kernel_rfl) (by kernel_rfl) (by kernel_rfl) hW.cls (Rd.pure fun _ => by kernel_rfl) ?_; clear hA ac; intro ac hA
 refine wpList_nil ?_
 refine thenN ?_
 refine wp_cond_split (t := (((l.length : Nat) : Int) : Int) != (((r.length : Nat) : Int) : Int)) (hA.eval (by kernel_rfl)) (fun h1 => ?_) (fun h1 => ?_)
 · skip
   have h1 := bne_iff_ne.1 h1
   first
   | (exfalso; clear hA hW; omega)
   | (
     refine wp_seq ?_
     refine wp_region_lit ?_
     refine st_rd (v := Value.bool false) hA (by kernel_rfl) (by kernel_rfl) (by kernel_rfl) hW.cls (Rd.pure fun _ => by kernel_rfl) ?_; clear hA ac; intro ac hA
     refine wpList_nil ?_
     refine thenN ?_
     refine wp_ret ?_
     refine thenR ?_
     refine ret1 (v := Value.bool false) (by rfl) hA (Got.tmp hA (by kernel_rfl) (by kernel_rfl)) ?_
     clear hA
     refine ⟨retv (congrArg Value.bool (decide_eq_false ?_).symm), hW.fr⟩; intro e; subst e; exact absurd rfl (by omega))
 · skip
   have h1 := of_bne_f h1
   first
   | (exfalso; clear hA hW; omega)
   | (
     refine wp_skip ?_
     refine thenN ?_
     refine wp_seq ?_
     refine wp_seq ?_
     refine wp_region_lit ?_
     refine st_rd (v := Value.int .i64 0) hA (by kernel_rfl) (by kernel_rfl) (by kernel_rfl) hW.cls (Rd.pure fun _ => by kernel_rfl) ?_; clear hA ac; intro ac hA
     refine wpList_nil ?_
     refine thenN ?_
     refine wp_block ?_
     refine wp_loop_m (fun m_ ac_ wl_ => ∃ k : Nat, m_ = l.length - k ∧ (k ≤ l.length) ∧ (l.take k = r.take k) ∧ Fm 26 [] [(0, Value.slice A_l l.length c_l), (1, Value.slice A_r r.length c_r), (5, Value.int .i64 ((k : Nat) : Int))] ac_ ∧ Ws w No [] [roR A_r 2 enCell6 r, roR A_l 2 enCell6 l] wl_) _ ⟨0, rfl, by omega, by rfl, hA.sub ⟨⟨by kernel_rfl, by kernel_rfl⟩, ⟨by kernel_rfl, by kernel_rfl⟩, ⟨by kernel_rfl, by kernel_rfl⟩, trivial⟩, (hW.pick [] (by decide) rfl).pickG [0, 1] rfl⟩ ?_
     clear hA ac hW; rintro m_ ac w2 ⟨k, rfl, hk, hn, hA, hW⟩
     refine wp_seq ?_
     refine wp_seq ?_
     refine wp_region_lit ?_
     refine st_rd (v := Value.int .i64 ((k : Nat) : Int)) hA (by kernel_rfl) (by kernel_rfl) (by kernel_rfl) hW.cls (Rd.pure fun _ => by kernel_rfl) ?_; clear hA ac; intro ac hA
     refine st_rd (v := Value.slice A_l l.length c_l) hA (by kernel_rfl) (by kernel_rfl) (by kernel_rfl) hW.cls (Rd.pure fun _ => by kernel_rfl) ?_; clear hA ac; intro ac hA
     refine st_rd (v := Value.int .i64 ((l.length : Nat) : Int)) hA (by kernel_rfl) (by kernel_rfl) (by kernel_rfl) hW.cls (Rd.pure fun _ => by kernel_rfl) ?_; clear hA ac; intro ac hA
     refine st_rd (v := Value.bool (decide ((((k : Nat) : Int) : Int) < (((l.length : Nat) : Int) : Int)))) hA (by kernel_rfl) (by kernel_rfl) (by kernel_rfl) hW.cls (Rd.pure fun _ => by kernel_rfl) ?_; clear hA ac; intro ac hA
     refine wpList_nil ?_
     refine thenN ?_
     refine wp_cond_split (t := decide ((((k : Nat) : Int) : Int) < (((l.length : Nat) : Int) : Int))) (hA.eval (by kernel_rfl)) (fun h3 => ?_) (fun h3 => ?_)
     · skip
       have h3 := of_decide_eq_true h3
       first
       | (exfalso; clear hA hW; omega)
       | (
         refine wp_skip ?_
         refine thenN ?_
         refine wp_seq ?_
         refine wp_block ?_
         refine wp_seq ?_
         refine q_region (by kernel_rfl) (by kernel_rfl) hW ?_
         refine sq_rd (v := Value.slice A_l l.length c_l) hA (by kernel_rfl) (by kernel_rfl) (by kernel_rfl) (Rd.pure fun _ => by kernel_rfl) ?_; clear hA ac; intro ac hA
         refine sq_rd (v := Value.int .i64 ((k : Nat) : Int)) hA (by kernel_rfl) (by kernel_rfl) (by kernel_rfl) (Rd.pure fun _ => by kernel_rfl) ?_; clear hA ac; intro ac hA
         obtain ⟨y4, hy4⟩ : ∃ y, l[k]? = some y := ⟨_, List.getElem?_eq_getElem (by first | omega | (simp; done) | (simp; omega))⟩
         obtain ⟨b5, o6, rfl, hbb5⟩ := row_some ((hW).getG 1 rfl) hy4
         refine sq_rd (v := Value.pointer (some ⟨b5, o6 + k * 2, none⟩)) hA (by kernel_rfl) (by kernel_rfl) (by kernel_rfl) (Rd.indexAddr (e := 30) (sz := 2) (b := b5) (off := o6) (n := l.length) (c := c_l) (k := k) (by kernel_rfl) (by kernel_rfl) (by first | omega | (simp; done) | (simp; omega)) (fun _ => by kernel_rfl) (fun _ => by kernel_rfl)) ?_; clear hA ac; intro ac hA
         refine sq_rd (v := Value.agg #[Value.int .u32 y4.addr, Value.int .u32 y4.word]) hA (by kernel_rfl) (by kernel_rfl) (by kernel_rfl) (Rd.loadRow (b := b5) (i := o6 + k * 2) (xs := [Value.int .u32 y4.addr, Value.int .u32 y4.word]) (by kernel_rfl) (fun _ hw => row_ld ((hw.1).getG 1 rfl) hy4 (Fr.refl No _) (fun h => h) 0 2 (by kernel_rfl)) (by kernel_rfl)) ?_; clear hA ac; intro ac hA
         refine sq_rd (v := Value.slice A_r r.length c_r) hA (by kernel_rfl) (by kernel_rfl) (by kernel_rfl) (Rd.pure fun _ => by kernel_rfl) ?_; clear hA ac; intro ac hA
         refine sq_rd (v := Value.int .i64 ((k : Nat) : Int)) hA (by kernel_rfl) (by kernel_rfl) (by kernel_rfl) (Rd.pure fun _ => by kernel_rfl) ?_; clear hA ac; intro ac hA
         obtain ⟨y7, hy7⟩ : ∃ y, r[k]? = some y := ⟨_, List.getElem?_eq_getElem (by first | omega | (simp; done) | (simp; omega))⟩
         obtain ⟨b8, o9, rfl, hbb8⟩ := row_some ((hW).getG 0 rfl) hy7
         refine sq_rd (v := Value.pointer (some ⟨b8, o9 + k * 2, none⟩)) hA (by kernel_rfl) (by kernel_rfl) (by kernel_rfl) (Rd.indexAddr (e := 30) (sz := 2) (b := b8) (off := o9) (n := r.length) (c := c_r) (k := k) (by kernel_rfl) (by kernel_rfl) (by first | omega | (simp; done) | (simp; omega)) (fun _ => by kernel_rfl) (fun _ => by kernel_rfl)) ?_; clear hA ac; intro ac hA
         refine sq_rd (v := Value.agg #[Value.int .u32 y7.addr, Value.int .u32 y7.word]) hA (by kernel_rfl) (by kernel_rfl) (by kernel_rfl) (Rd.loadRow (b := b8) (i := o9 + k * 2) (xs := [Value.int .u32 y7.addr, Value.int .u32 y7.word]) (by kernel_rfl) (fun _ hw => row_ld ((hw.1).getG 0 rfl) hy7 (Fr.refl No _) (fun h => h) 0 2 (by kernel_rfl)) (by kernel_rfl)) ?_; clear hA ac; intro ac hA
         refine sq_rd (v := Value.bool (!decide (y4 = y7))) hA (by kernel_rfl) (by kernel_rfl) (by kernel_rfl) (Rd.neS (u := y4.v) (v := y7.v) (by kernel_rfl) (by kernel_rfl) rfl rfl (by kernel_rfl) (fun w => eq_Cell6 w y4 y7)) ?_; clear hA ac; intro ac hA
         refine sq_nil ?_; intro w10 hww10; have hW := hww10.1; have hfw10 := hww10.2; clear hww10
         refine thenN ?_
         refine wp_cond_split (t := !decide (y4 = y7)) (hA.eval (by kernel_rfl)) (fun h11 => ?_) (fun h11 => ?_)
         · skip
           have h11 := not_t h11
           have h11 := of_decide_eq_false h11
           have h11e := fun e => h11 ((Cell6.eqi _ _).2 e)
           first
           | (exfalso; clear hA hW; omega)
           | (
             refine wp_seq ?_
             refine wp_region_lit ?_
             refine st_rd (v := Value.bool false) hA (by kernel_rfl) (by kernel_rfl) (by kernel_rfl) hW.cls (Rd.pure fun _ => by kernel_rfl) ?_; clear hA ac; intro ac hA
             refine wpList_nil ?_
             refine thenN ?_
             refine wp_ret ?_
             refine blkR ?_
             refine thenR ?_
             refine thenR ?_
             refine blkR ?_
             refine thenR ?_
             refine ret1 (v := Value.bool false) (by rfl) hA (Got.tmp hA (by kernel_rfl) (by kernel_rfl)) ?_
             clear hA
             refine ⟨retv (congrArg Value.bool (decide_eq_false ?_).symm), hW.fr⟩; intro e; subst e; rw [hy4] at hy7; exact h11 (Option.some.inj hy7))
         · skip
           have h11 := not_f h11
           have h11 := of_decide_eq_true h11
           have h11e := (Cell6.eqi _ _).1 h11
           first
           | (exfalso; clear hA hW; omega)
           | (
             refine wp_skip ?_
             refine blkN ?_
             refine thenN ?_
             refine wp_region_lit ?_
             refine st_rd (v := Value.int .i64 ((k : Nat) : Int)) hA (by kernel_rfl) (by kernel_rfl) (by kernel_rfl) hW.cls (Rd.pure fun _ => by kernel_rfl) ?_; clear hA ac; intro ac hA
             refine st_rd (v := Value.int .i64 ((k + 1 : Nat) : Int)) hA (by kernel_rfl) (by kernel_rfl) (by kernel_rfl) hW.cls (Rd.pureE (v0 := Value.int .i64 (IntKind.i64.wrap ((((k : Nat) : Int) : Int) + 1))) (fun _ => by kernel_rfl) (congrArg (Value.int .i64) ((w_i64 (x := (((k : Nat) : Int) : Int) + 1) (by omega) (by omega)).trans (by omega)))) ?_; clear hA ac; intro ac hA
             refine st_rd (v := Value.int .i64 ((k + 1 : Nat) : Int)) hA (by kernel_rfl) (by kernel_rfl) (by kernel_rfl) hW.cls (Rd.pure fun _ => by kernel_rfl) ?_; clear hA ac; intro ac hA
             refine wpList_nil ?_
             refine thenN ?_
             exact ⟨l.length - (k + 1), by omega, k + 1, rfl, by omega, by rw [tk_snoc hy4, tk_snoc hy7, hn, h11], hA.sub ⟨⟨by kernel_rfl, by kernel_rfl⟩, ⟨by kernel_rfl, by kernel_rfl⟩, ⟨by kernel_rfl, by kernel_rfl⟩, trivial⟩, (hW.pick [] (by decide) rfl).pickG [0, 1] rfl⟩))
     · skip
       have h3 := of_decide_eq_false h3
       first
       | (exfalso; clear hA hW; omega)
       | (
         refine wp_exit ?_
         refine thenX ?_
         refine thenX ?_
         refine blkX ?_
         refine thenN ?_
         refine wp_seq ?_
         refine wp_region_lit ?_
         refine st_rd (v := Value.bool true) hA (by kernel_rfl) (by kernel_rfl) (by kernel_rfl) hW.cls (Rd.pure fun _ => by kernel_rfl) ?_; clear hA ac; intro ac hA
         refine wpList_nil ?_
         refine thenN ?_
         refine wp_ret ?_
         refine ret1 (v := Value.bool true) (by rfl) hA (Got.tmp hA (by kernel_rfl) (by kernel_rfl)) ?_
         clear hA
         refine ⟨retv (congrArg Value.bool (decide_eq_true ?_).symm), hW.fr⟩; rw [List.take_of_length_le (by omega), List.take_of_length_le (by omega)] at hn; exact hn))

set_option maxRecDepth 100000 in
theorem e_rstore (A_L : Option Addr) (c_L : Nat) (L : List Cell6) (a : Int) (wd : Int) (w : World) (hr_L : RowAt w A_L 2 enCell6 L) (hc_L : L.length ≤ c_L) (hl : L.length ≤ 1000) : Calls Try.prog 19 #[Value.agg #[Value.slice A_L L.length c_L], Value.int .u32 a, Value.int .u32 wd] w (fun e w' => ∃ L' : List Cell6, ∃ (A_o : Option Addr) (c_o : Nat), e = .returned (Value.agg #[Value.slice A_o (L').length c_o]) ∧ (L' = insM L a wd) ∧ (L').length ≤ c_o ∧ (roR A_o 2 enCell6 L').from_ [roR A_L 2 enCell6 L] w w' ∧ Fr No w w') := by
 have _hu := hc_L; have _hv := hr_L; clear _hu _hv
 have _hu := hl; clear _hu
 refine enter_E 57 Try.func19 rfl rfl (by kernel_rfl) (L := [(0, Value.agg #[Value.slice A_L L.length c_L]), (1, Value.int .u32 a), (2, Value.int .u32 wd)]) (by kernel_rfl) ?_
 intro ac hA
 have hW := Ws.start w No
 have hW := hW.arg hr_L
 refine wp_seq ?_
 refine wp_region_lit ?_
 refine st hA (by kernel_rfl) (by kernel_rfl) (by kernel_rfl) (Runs.cells (fun b => Value.pointer (some ⟨b, 0, none⟩)) #[Value.slice A_L L.length c_L] 38 (fun _ => by kernel_rfl) hW ?_); clear hA ac hW; intro b1 w2 hW hb1 hfw2 ac hA
 refine st hA (by kernel_rfl) (by kernel_rfl) (by kernel_rfl) (Runs.cells (fun b => Value.pointer (some ⟨b, 0, none⟩)) #[Value.slice none 0 0] 38 (fun _ => by kernel_rfl) hW ?_); clear hA ac hW; intro b3 w4 hW hb3 hfw4 ac hA
 refine wpList_nil ?_
 refine thenN ?_
 refine wp_seq ?_
 refine wp_region_lit ?_
 refine st_rd (v := Value.slice none 0 0) hA (by kernel_rfl) (by kernel_rfl) (by kernel_rfl) hW.cls (Rd.pure fun _ => by kernel_rfl) ?_; clear hA ac; intro ac hA
 refine wpList_nil ?_
 refine thenN ?_
 refine wp_seq ?_
 refine wp_region_lit ?_
 refine st_rd (v := Value.int .u32 wd) hA (by kernel_rfl) (by kernel_rfl) (by kernel_rfl) hW.cls (Rd.pure fun _ => by kernel_rfl) ?_; clear hA ac; intro ac hA
 refine st_rd (v := Value.bool ((wd : Int) == (0 : Int))) hA (by kernel_rfl) (by kernel_rfl) (by kernel_rfl) hW.cls (Rd.pure fun _ => by kernel_rfl) ?_; clear hA ac; intro ac hA
 refine st_rd (v := Value.bool ((wd : Int) == (0 : Int))) hA (by kernel_rfl) (by kernel_rfl) (by kernel_rfl) hW.cls (Rd.pure fun _ => by kernel_rfl) ?_; clear hA ac; intro ac hA
 refine wpList_nil ?_
 refine thenN ?_
 refine wp_seq ?_
 refine wp_seq ?_
 refine wp_region_lit ?_
 refine st_rd (v := Value.int .i64 0) hA (by kernel_rfl) (by kernel_rfl) (by kernel_rfl) hW.cls (Rd.pure fun _ => by kernel_rfl) ?_; clear hA ac; intro ac hA
 refine wpList_nil ?_
 refine thenN ?_
 refine wp_block ?_
 have hW := hW.addNil 30 2 enCell6
 refine wp_loop_m (fun m_ ac_ wl_ => ∃ k : Nat, ∃ O : List Cell6, ∃ th : Bool, ∃ A : Option Addr, ∃ c : Nat, m_ = L.length - k ∧ (k ≤ L.length) ∧ ((O, th) = (L.take k).foldl (insStep6 a wd) ([], decide (wd = 0))) ∧ (O.length ≤ 2 * k) ∧ (O.length ≤ c) ∧ Fm 57 [] [(1, Value.int .u32 a), (2, Value.int .u32 wd), (3, Value.pointer (some ⟨b1, 0, none⟩)), (6, Value.pointer (some ⟨b3, 0, none⟩)), (7, Value.slice A O.length c), (8, Value.bool th), (9, Value.int .i64 ((k : Nat) : Int))] ac_ ∧ Ws w No [rowR 30 2 enCell6 (Value.slice A O.length c) O, Cel b3 #[Value.slice none 0 0] 38, Cel b1 #[Value.slice A_L L.length c_L] 38] [roR A_L 2 enCell6 L] wl_) _ ⟨0, [], (wd : Int) == (0 : Int), none, 0, rfl, by omega, by first | rfl | simp [beq_eq_decide] | (congr 1; rw [Bool.eq_iff_iff]; simp), by simp, by simp, hA.sub ⟨⟨by kernel_rfl, by kernel_rfl⟩, ⟨by kernel_rfl, by kernel_rfl⟩, ⟨by kernel_rfl, by kernel_rfl⟩, ⟨by kernel_rfl, by kernel_rfl⟩, ⟨by kernel_rfl, by kernel_rfl⟩, ⟨by kernel_rfl, by kernel_rfl⟩, ⟨by kernel_rfl, by kernel_rfl⟩, trivial⟩, (hW.pick [0, 1, 2] (by decide) rfl).pickG [0] rfl⟩ ?_
 clear hA ac hW; rintro m_ ac w5 ⟨k, O, th, A, c, rfl, hk, hO, hOl, hcO, hA, hW⟩
 refine wp_seq ?_
 refine wp_seq ?_
 refine wp_region_lit ?_
 refine st_rd (v := Value.int .i64 ((k : Nat) : Int)) hA (by kernel_rfl) (by kernel_rfl) (by kernel_rfl) hW.cls (Rd.pure fun _ => by kernel_rfl) ?_; clear hA ac; intro ac hA
 refine st_rd (v := Value.pointer (some ⟨b1, 0, none⟩)) hA (by kernel_rfl) (by kernel_rfl) (by kernel_rfl) hW.cls (Rd.pure fun _ => by kernel_rfl) ?_; clear hA ac; intro ac hA
 refine st_rd (v := Value.slice A_L L.length c_L) hA (by kernel_rfl) (by kernel_rfl) (by kernel_rfl) hW.cls (Rd.load (b := b1) (i := 0) (by kernel_rfl) (fun _ hw => (hw.1).cel 2 rfl) (by kernel_rfl)) ?_; clear hA ac; intro ac hA
 refine st_rd (v := Value.int .i64 ((L.length : Nat) : Int)) hA (by kernel_rfl) (by kernel_rfl) (by kernel_rfl) hW.cls (Rd.pure fun _ => by kernel_rfl) ?_; clear hA ac; intro ac hA
 refine st_rd (v := Value.bool (decide ((((k : Nat) : Int) : Int) < (((L.length : Nat) : Int) : Int)))) hA (by kernel_rfl) (by kernel_rfl) (by kernel_rfl) hW.cls (Rd.pure fun _ => by kernel_rfl) ?_; clear hA ac; intro ac hA
 refine wpList_nil ?_
 refine thenN ?_
 refine wp_cond_split (t := decide ((((k : Nat) : Int) : Int) < (((L.length : Nat) : Int) : Int))) (hA.eval (by kernel_rfl)) (fun h6 => ?_) (fun h6 => ?_)
 · skip
   have h6 := of_decide_eq_true h6
   first
   | (exfalso; clear hA hW; omega)
   | (
     refine wp_skip ?_
     refine thenN ?_
     refine wp_seq ?_
     refine wp_block ?_
     refine wp_seq ?_
     refine wp_region_lit ?_
     refine st_rd (v := Value.pointer (some ⟨b1, 0, none⟩)) hA (by kernel_rfl) (by kernel_rfl) (by kernel_rfl) hW.cls (Rd.pure fun _ => by kernel_rfl) ?_; clear hA ac; intro ac hA
     refine st_rd (v := Value.slice A_L L.length c_L) hA (by kernel_rfl) (by kernel_rfl) (by kernel_rfl) hW.cls (Rd.load (b := b1) (i := 0) (by kernel_rfl) (fun _ hw => (hw.1).cel 2 rfl) (by kernel_rfl)) ?_; clear hA ac; intro ac hA
     refine st_rd (v := Value.int .i64 ((k : Nat) : Int)) hA (by kernel_rfl) (by kernel_rfl) (by kernel_rfl) hW.cls (Rd.pure fun _ => by kernel_rfl) ?_; clear hA ac; intro ac hA
     obtain ⟨y7, hy7⟩ : ∃ y, L[k]? = some y := ⟨_, List.getElem?_eq_getElem (by first | omega | (simp; done) | (simp; omega))⟩
     obtain ⟨b8, o9, rfl, hbb8⟩ := row_some ((hW).getG 0 rfl) hy7
     refine st_rd (v := Value.pointer (some ⟨b8, o9 + k * 2, none⟩)) hA (by kernel_rfl) (by kernel_rfl) (by kernel_rfl) hW.cls (Rd.indexAddr (e := 30) (sz := 2) (b := b8) (off := o9) (n := L.length) (c := c_L) (k := k) (by kernel_rfl) (by kernel_rfl) (by first | omega | (simp; done) | (simp; omega)) (fun _ => by kernel_rfl) (fun _ => by kernel_rfl)) ?_; clear hA ac; intro ac hA
     refine st_rd (v := Value.agg #[Value.int .u32 y7.addr, Value.int .u32 y7.word]) hA (by kernel_rfl) (by kernel_rfl) (by kernel_rfl) hW.cls (Rd.loadRow (b := b8) (i := o9 + k * 2) (xs := [Value.int .u32 y7.addr, Value.int .u32 y7.word]) (by kernel_rfl) (fun _ hw => row_ld ((hw.1).getG 0 rfl) hy7 (Fr.refl No _) (fun h => h) 0 2 (by kernel_rfl)) (by kernel_rfl)) ?_; clear hA ac; intro ac hA
     refine st hA (by kernel_rfl) (by kernel_rfl) (by kernel_rfl) (Runs.cells (fun b => Value.pointer (some ⟨b, 0, none⟩)) #[Value.int .u32 0, Value.int .u32 0] 30 (fun _ => by kernel_rfl) hW ?_); clear hA ac hW; intro b10 w11 hW hb10 hfw11 ac hA
     refine st hA (by kernel_rfl) (by kernel_rfl) (by kernel_rfl) (Runs.store (v := Value.agg #[Value.int .u32 y7.addr, Value.int .u32 y7.word]) (b := b10) (j := 0) (n := 2) (cs' := #[Value.int .u32 y7.addr, Value.int .u32 y7.word]) (H' := [Cel b10 #[Value.int .u32 y7.addr, Value.int .u32 y7.word] 30, rowR 30 2 enCell6 (Value.slice A O.length c) O, Cel b3 #[Value.slice none 0 0] 38, Cel b1 #[Value.slice (some ⟨b8, o9, none⟩) L.length c_L] 38]) (by kernel_rfl) (by kernel_rfl) (by kernel_rfl) (by kernel_rfl) (by kernel_rfl) hW 0 (by rfl) (Nat.le_of_ble_eq_true (by kernel_rfl)) (by kernel_rfl) (by rfl) ?_); clear hA ac hW; intro w12 hW ac hA
     refine wpList_nil ?_
     refine thenN ?_
     refine wp_seq ?_
     refine wp_seq ?_
     refine wp_region_lit ?_
     refine st_rd (v := Value.bool th) hA (by kernel_rfl) (by kernel_rfl) (by kernel_rfl) hW.cls (Rd.pure fun _ => by kernel_rfl) ?_; clear hA ac; intro ac hA
     refine st_rd (v := Value.bool (!th)) hA (by kernel_rfl) (by kernel_rfl) (by kernel_rfl) hW.cls (Rd.pure fun _ => by kernel_rfl) ?_; clear hA ac; intro ac hA
     refine st_rd (v := Value.bool (!th)) hA (by kernel_rfl) (by kernel_rfl) (by kernel_rfl) hW.cls (Rd.pure fun _ => by kernel_rfl) ?_; clear hA ac; intro ac hA
     rcases Bool.eq_false_or_eq_true (!th) with h13 | h13
     · skip
       rw [h13] at hA
       have h13 := not_t h13
       first
       | (exfalso; clear hA hW; omega)
       | (
         refine st_rd (v := Value.pointer (some ⟨b10, 0, none⟩)) hA (by kernel_rfl) (by kernel_rfl) (by kernel_rfl) hW.cls (Rd.pure fun _ => by kernel_rfl) ?_; clear hA ac; intro ac hA
         refine st_rd (v := Value.int .u32 y7.addr) hA (by kernel_rfl) (by kernel_rfl) (by kernel_rfl) hW.cls (Rd.load (b := b10) (i := 0) (by kernel_rfl) (fun _ hw => (hw.1).cel 0 rfl) (by kernel_rfl)) ?_; clear hA ac; intro ac hA
         refine st_rd (v := Value.int .u32 a) hA (by kernel_rfl) (by kernel_rfl) (by kernel_rfl) hW.cls (Rd.pure fun _ => by kernel_rfl) ?_; clear hA ac; intro ac hA
         refine st_rd (v := Value.bool (decide ((y7.addr : Int) ≥ (a : Int)))) hA (by kernel_rfl) (by kernel_rfl) (by kernel_rfl) hW.cls (Rd.pure fun _ => by kernel_rfl) ?_; clear hA ac; intro ac hA
         refine st_rd (v := Value.bool (decide ((y7.addr : Int) ≥ (a : Int)))) hA (by kernel_rfl) (by kernel_rfl) (by kernel_rfl) hW.cls (Rd.pure fun _ => by kernel_rfl) ?_; clear hA ac; intro ac hA
         refine wpList_nil ?_
         refine thenN ?_
         refine wp_cond_split (t := decide ((y7.addr : Int) ≥ (a : Int))) (hA.eval (by kernel_rfl)) (fun h14 => ?_) (fun h14 => ?_)
         · skip
           have h14 := of_decide_eq_true h14
           first
           | (exfalso; clear hA hW; omega)
           | (
             refine wp_seq ?_
             refine wp_region_lit ?_
             refine st_rd (v := Value.slice A O.length c) hA (by kernel_rfl) (by kernel_rfl) (by kernel_rfl) hW.cls (Rd.pure fun _ => by kernel_rfl) ?_; clear hA ac; intro ac hA
             refine st_rd (v := Value.int .u32 a) hA (by kernel_rfl) (by kernel_rfl) (by kernel_rfl) hW.cls (Rd.pure fun _ => by kernel_rfl) ?_; clear hA ac; intro ac hA
             refine st_rd (v := Value.int .u32 wd) hA (by kernel_rfl) (by kernel_rfl) (by kernel_rfl) hW.cls (Rd.pure fun _ => by kernel_rfl) ?_; clear hA ac; intro ac hA
             refine st_rd (v := Value.agg #[Value.int .u32 a, Value.int .u32 wd]) hA (by kernel_rfl) (by kernel_rfl) (by kernel_rfl) hW.cls (Rd.pure fun _ => by kernel_rfl) ?_; clear hA ac; intro ac hA
             refine st hA (by kernel_rfl) (by kernel_rfl) (by kernel_rfl) (Runs.cells (fun b => Value.slice (some ⟨b, 0, none⟩) 1 1) #[Value.int .u32 a, Value.int .u32 wd] 30 (fun _ => by kernel_rfl) hW ?_); clear hA ac hW; intro b15 w16 hW hb15 hfw16 ac hA
             refine st hA (by kernel_rfl) (by kernel_rfl) (by kernel_rfl) (Runs.appOwn (B := (some ⟨b15, 0, none⟩)) (k := 1) (E := 30) (sz := 2) (en := enCell6) (l := O) (m := ([(⟨a, wd⟩ : Cell6)] : List Cell6)) (i := 2) (by kernel_rfl) (by kernel_rfl) elt_Cell6 (by kernel_rfl) hW rfl (rowAt_cel ((hW).cel 0 rfl) ([(⟨a, wd⟩ : Cell6)] : List Cell6) (by rfl) elt_Cell6.len) (by first | omega | (simp; done) | (simp; omega)) (by first | omega | (simp; done) | (simp; omega)) ?_); clear hA ac hW; intro A17 c18 w19 hW hcc18 ac hA
             refine st_rd (v := Value.slice A17 (O ++ ([(⟨a, wd⟩ : Cell6)] : List Cell6)).length c18) hA (by kernel_rfl) (by kernel_rfl) (by kernel_rfl) hW.cls (Rd.pure fun _ => by kernel_rfl) ?_; clear hA ac; intro ac hA
             refine wpList_nil ?_
             refine thenN ?_
             refine wp_region_lit ?_
             refine st_rd (v := Value.bool true) hA (by kernel_rfl) (by kernel_rfl) (by kernel_rfl) hW.cls (Rd.pure fun _ => by kernel_rfl) ?_; clear hA ac; intro ac hA
             refine wpList_nil ?_
             refine thenN ?_
             refine wp_seq ?_
             refine wp_region_lit ?_
             refine st_rd (v := Value.pointer (some ⟨b10, 0, none⟩)) hA (by kernel_rfl) (by kernel_rfl) (by kernel_rfl) hW.cls (Rd.pure fun _ => by kernel_rfl) ?_; clear hA ac; intro ac hA
             refine st_rd (v := Value.int .u32 y7.addr) hA (by kernel_rfl) (by kernel_rfl) (by kernel_rfl) hW.cls (Rd.load (b := b10) (i := 0) (by kernel_rfl) (fun _ hw => (hw.1).cel 1 rfl) (by kernel_rfl)) ?_; clear hA ac; intro ac hA
             refine st_rd (v := Value.int .u32 a) hA (by kernel_rfl) (by kernel_rfl) (by kernel_rfl) hW.cls (Rd.pure fun _ => by kernel_rfl) ?_; clear hA ac; intro ac hA
             refine st_rd (v := Value.bool ((y7.addr : Int) != (a : Int))) hA (by kernel_rfl) (by kernel_rfl) (by kernel_rfl) hW.cls (Rd.pure fun _ => by kernel_rfl) ?_; clear hA ac; intro ac hA
             refine wpList_nil ?_
             refine thenN ?_
             refine wp_cond_split (t := (y7.addr : Int) != (a : Int)) (hA.eval (by kernel_rfl)) (fun h20 => ?_) (fun h20 => ?_)
             · skip
               have h20 := bne_iff_ne.1 h20
               first
               | (exfalso; clear hA hW; omega)
               | (
                 refine wp_region_lit ?_
                 refine st_rd (v := Value.slice A17 (O ++ ([(⟨a, wd⟩ : Cell6)] : List Cell6)).length c18) hA (by kernel_rfl) (by kernel_rfl) (by kernel_rfl) hW.cls (Rd.pure fun _ => by kernel_rfl) ?_; clear hA ac; intro ac hA
                 refine st_rd (v := Value.agg #[Value.int .u32 y7.addr, Value.int .u32 y7.word]) hA (by kernel_rfl) (by kernel_rfl) (by kernel_rfl) hW.cls (Rd.load (b := b10) (i := 0) (by kernel_rfl) (fun _ hw => (hw.1).cel 1 rfl) (by kernel_rfl)) ?_; clear hA ac; intro ac hA
                 refine st hA (by kernel_rfl) (by kernel_rfl) (by kernel_rfl) (Runs.cells (fun b => Value.slice (some ⟨b, 0, none⟩) 1 1) #[Value.int .u32 y7.addr, Value.int .u32 y7.word] 30 (fun _ => by kernel_rfl) hW ?_); clear hA ac hW; intro b21 w22 hW hb21 hfw22 ac hA
                 refine st hA (by kernel_rfl) (by kernel_rfl) (by kernel_rfl) (Runs.appOwn (B := (some ⟨b21, 0, none⟩)) (k := 1) (E := 30) (sz := 2) (en := enCell6) (l := (O ++ ([(⟨a, wd⟩ : Cell6)] : List Cell6))) (m := ([y7] : List Cell6)) (i := 3) (by kernel_rfl) (by kernel_rfl) elt_Cell6 (by kernel_rfl) hW rfl (rowAt_cel ((hW).cel 0 rfl) ([y7] : List Cell6) (by rfl) elt_Cell6.len) (by first | omega | (simp; done) | (simp; omega)) (by first | omega | (simp; done) | (simp; omega)) ?_); clear hA ac hW; intro A23 c24 w25 hW hcc24 ac hA
                 refine st_rd (v := Value.slice A23 ((O ++ ([(⟨a, wd⟩ : Cell6)] : List Cell6)) ++ ([y7] : List Cell6)).length c24) hA (by kernel_rfl) (by kernel_rfl) (by kernel_rfl) hW.cls (Rd.pure fun _ => by kernel_rfl) ?_; clear hA ac; intro ac hA
                 refine wpList_nil ?_
                 refine blkN ?_
                 refine thenN ?_
                 refine wp_region_lit ?_
                 refine st_rd (v := Value.int .i64 ((k : Nat) : Int)) hA (by kernel_rfl) (by kernel_rfl) (by kernel_rfl) hW.cls (Rd.pure fun _ => by kernel_rfl) ?_; clear hA ac; intro ac hA
                 refine st_rd (v := Value.int .i64 ((k + 1 : Nat) : Int)) hA (by kernel_rfl) (by kernel_rfl) (by kernel_rfl) hW.cls (Rd.pureE (v0 := Value.int .i64 (IntKind.i64.wrap ((((k : Nat) : Int) : Int) + 1))) (fun _ => by kernel_rfl) (congrArg (Value.int .i64) ((w_i64 (x := (((k : Nat) : Int) : Int) + 1) (by omega) (by omega)).trans (by omega)))) ?_; clear hA ac; intro ac hA
                 refine st_rd (v := Value.int .i64 ((k + 1 : Nat) : Int)) hA (by kernel_rfl) (by kernel_rfl) (by kernel_rfl) hW.cls (Rd.pure fun _ => by kernel_rfl) ?_; clear hA ac; intro ac hA
                 refine wpList_nil ?_
                 refine thenN ?_
                 exact ⟨L.length - (k + 1), by omega, k + 1, (O ++ ([(⟨a, wd⟩ : Cell6)] : List Cell6)) ++ ([y7] : List Cell6), true, A23, c24, rfl, by omega, by rw [foldl_snoc hy7, ← hO]; simp only [insStep6]; (repeat' split) <;> first | rfl | (exfalso; simp_all; done) | (exfalso; omega) | (exfalso; simp_all; omega), by first | omega | (simp; omega), by exact hcc24, hA.sub ⟨⟨by kernel_rfl, by kernel_rfl⟩, ⟨by kernel_rfl, by kernel_rfl⟩, ⟨by kernel_rfl, by kernel_rfl⟩, ⟨by kernel_rfl, by kernel_rfl⟩, ⟨by kernel_rfl, by kernel_rfl⟩, ⟨by kernel_rfl, by kernel_rfl⟩, ⟨by kernel_rfl, by kernel_rfl⟩, trivial⟩, (hW.pick [3, 4, 5] (by decide) rfl).pickG [0] rfl⟩)
             · skip
               have h20 := of_bne_f h20
               first
               | (exfalso; clear hA hW; omega)
               | (
                 refine wp_skip ?_
                 refine blkN ?_
                 refine thenN ?_
                 refine wp_region_lit ?_
                 refine st_rd (v := Value.int .i64 ((k : Nat) : Int)) hA (by kernel_rfl) (by kernel_rfl) (by kernel_rfl) hW.cls (Rd.pure fun _ => by kernel_rfl) ?_; clear hA ac; intro ac hA
                 refine st_rd (v := Value.int .i64 ((k + 1 : Nat) : Int)) hA (by kernel_rfl) (by kernel_rfl) (by kernel_rfl) hW.cls (Rd.pureE (v0 := Value.int .i64 (IntKind.i64.wrap ((((k : Nat) : Int) : Int) + 1))) (fun _ => by kernel_rfl) (congrArg (Value.int .i64) ((w_i64 (x := (((k : Nat) : Int) : Int) + 1) (by omega) (by omega)).trans (by omega)))) ?_; clear hA ac; intro ac hA
                 refine st_rd (v := Value.int .i64 ((k + 1 : Nat) : Int)) hA (by kernel_rfl) (by kernel_rfl) (by kernel_rfl) hW.cls (Rd.pure fun _ => by kernel_rfl) ?_; clear hA ac; intro ac hA
                 refine wpList_nil ?_
                 refine thenN ?_
                 exact ⟨L.length - (k + 1), by omega, k + 1, O ++ ([(⟨a, wd⟩ : Cell6)] : List Cell6), true, A17, c18, rfl, by omega, by rw [foldl_snoc hy7, ← hO]; simp only [insStep6]; (repeat' split) <;> first | rfl | (exfalso; simp_all; done) | (exfalso; omega) | (exfalso; simp_all; omega), by first | omega | (simp; omega), by exact hcc18, hA.sub ⟨⟨by kernel_rfl, by kernel_rfl⟩, ⟨by kernel_rfl, by kernel_rfl⟩, ⟨by kernel_rfl, by kernel_rfl⟩, ⟨by kernel_rfl, by kernel_rfl⟩, ⟨by kernel_rfl, by kernel_rfl⟩, ⟨by kernel_rfl, by kernel_rfl⟩, ⟨by kernel_rfl, by kernel_rfl⟩, trivial⟩, (hW.pick [2, 3, 4] (by decide) rfl).pickG [0] rfl⟩))
         · skip
           have h14 := of_decide_eq_false h14
           first
           | (exfalso; clear hA hW; omega)
           | (
             refine wp_skip ?_
             refine thenN ?_
             refine wp_seq ?_
             refine wp_region_lit ?_
             refine st_rd (v := Value.pointer (some ⟨b10, 0, none⟩)) hA (by kernel_rfl) (by kernel_rfl) (by kernel_rfl) hW.cls (Rd.pure fun _ => by kernel_rfl) ?_; clear hA ac; intro ac hA
             refine st_rd (v := Value.int .u32 y7.addr) hA (by kernel_rfl) (by kernel_rfl) (by kernel_rfl) hW.cls (Rd.load (b := b10) (i := 0) (by kernel_rfl) (fun _ hw => (hw.1).cel 0 rfl) (by kernel_rfl)) ?_; clear hA ac; intro ac hA
             refine st_rd (v := Value.int .u32 a) hA (by kernel_rfl) (by kernel_rfl) (by kernel_rfl) hW.cls (Rd.pure fun _ => by kernel_rfl) ?_; clear hA ac; intro ac hA
             refine st_rd (v := Value.bool ((y7.addr : Int) != (a : Int))) hA (by kernel_rfl) (by kernel_rfl) (by kernel_rfl) hW.cls (Rd.pure fun _ => by kernel_rfl) ?_; clear hA ac; intro ac hA
             refine wpList_nil ?_
             refine thenN ?_
             refine wp_cond_split (t := (y7.addr : Int) != (a : Int)) (hA.eval (by kernel_rfl)) (fun h26 => ?_) (fun h26 => ?_)
             · skip
               have h26 := bne_iff_ne.1 h26
               first
               | (exfalso; clear hA hW; omega)
               | (
                 refine wp_region_lit ?_
                 refine st_rd (v := Value.slice A O.length c) hA (by kernel_rfl) (by kernel_rfl) (by kernel_rfl) hW.cls (Rd.pure fun _ => by kernel_rfl) ?_; clear hA ac; intro ac hA
                 refine st_rd (v := Value.agg #[Value.int .u32 y7.addr, Value.int .u32 y7.word]) hA (by kernel_rfl) (by kernel_rfl) (by kernel_rfl) hW.cls (Rd.load (b := b10) (i := 0) (by kernel_rfl) (fun _ hw => (hw.1).cel 0 rfl) (by kernel_rfl)) ?_; clear hA ac; intro ac hA
                 refine st hA (by kernel_rfl) (by kernel_rfl) (by kernel_rfl) (Runs.cells (fun b => Value.slice (some ⟨b, 0, none⟩) 1 1) #[Value.int .u32 y7.addr, Value.int .u32 y7.word] 30 (fun _ => by kernel_rfl) hW ?_); clear hA ac hW; intro b27 w28 hW hb27 hfw28 ac hA
                 refine st hA (by kernel_rfl) (by kernel_rfl) (by kernel_rfl) (Runs.appOwn (B := (some ⟨b27, 0, none⟩)) (k := 1) (E := 30) (sz := 2) (en := enCell6) (l := O) (m := ([y7] : List Cell6)) (i := 2) (by kernel_rfl) (by kernel_rfl) elt_Cell6 (by kernel_rfl) hW rfl (rowAt_cel ((hW).cel 0 rfl) ([y7] : List Cell6) (by rfl) elt_Cell6.len) (by first | omega | (simp; done) | (simp; omega)) (by first | omega | (simp; done) | (simp; omega)) ?_); clear hA ac hW; intro A29 c30 w31 hW hcc30 ac hA
                 refine st_rd (v := Value.slice A29 (O ++ ([y7] : List Cell6)).length c30) hA (by kernel_rfl) (by kernel_rfl) (by kernel_rfl) hW.cls (Rd.pure fun _ => by kernel_rfl) ?_; clear hA ac; intro ac hA
                 refine wpList_nil ?_
                 refine blkN ?_
                 refine thenN ?_
                 refine wp_region_lit ?_
                 refine st_rd (v := Value.int .i64 ((k : Nat) : Int)) hA (by kernel_rfl) (by kernel_rfl) (by kernel_rfl) hW.cls (Rd.pure fun _ => by kernel_rfl) ?_; clear hA ac; intro ac hA
                 refine st_rd (v := Value.int .i64 ((k + 1 : Nat) : Int)) hA (by kernel_rfl) (by kernel_rfl) (by kernel_rfl) hW.cls (Rd.pureE (v0 := Value.int .i64 (IntKind.i64.wrap ((((k : Nat) : Int) : Int) + 1))) (fun _ => by kernel_rfl) (congrArg (Value.int .i64) ((w_i64 (x := (((k : Nat) : Int) : Int) + 1) (by omega) (by omega)).trans (by omega)))) ?_; clear hA ac; intro ac hA
                 refine st_rd (v := Value.int .i64 ((k + 1 : Nat) : Int)) hA (by kernel_rfl) (by kernel_rfl) (by kernel_rfl) hW.cls (Rd.pure fun _ => by kernel_rfl) ?_; clear hA ac; intro ac hA
                 refine wpList_nil ?_
                 refine thenN ?_
                 exact ⟨L.length - (k + 1), by omega, k + 1, O ++ ([y7] : List Cell6), th, A29, c30, rfl, by omega, by rw [foldl_snoc hy7, ← hO]; simp only [insStep6]; (repeat' split) <;> first | rfl | (exfalso; simp_all; done) | (exfalso; omega) | (exfalso; simp_all; omega), by first | omega | (simp; omega), by exact hcc30, hA.sub ⟨⟨by kernel_rfl, by kernel_rfl⟩, ⟨by kernel_rfl, by kernel_rfl⟩, ⟨by kernel_rfl, by kernel_rfl⟩, ⟨by kernel_rfl, by kernel_rfl⟩, ⟨by kernel_rfl, by kernel_rfl⟩, ⟨by kernel_rfl, by kernel_rfl⟩, ⟨by kernel_rfl, by kernel_rfl⟩, trivial⟩, (hW.pick [2, 3, 4] (by decide) rfl).pickG [0] rfl⟩)
             · skip
               have h26 := of_bne_f h26
               first
               | (exfalso; clear hA hW; omega)
               | (
                 refine wp_skip ?_
                 refine blkN ?_
                 refine thenN ?_
                 refine wp_region_lit ?_
                 refine st_rd (v := Value.int .i64 ((k : Nat) : Int)) hA (by kernel_rfl) (by kernel_rfl) (by kernel_rfl) hW.cls (Rd.pure fun _ => by kernel_rfl) ?_; clear hA ac; intro ac hA
                 refine st_rd (v := Value.int .i64 ((k + 1 : Nat) : Int)) hA (by kernel_rfl) (by kernel_rfl) (by kernel_rfl) hW.cls (Rd.pureE (v0 := Value.int .i64 (IntKind.i64.wrap ((((k : Nat) : Int) : Int) + 1))) (fun _ => by kernel_rfl) (congrArg (Value.int .i64) ((w_i64 (x := (((k : Nat) : Int) : Int) + 1) (by omega) (by omega)).trans (by omega)))) ?_; clear hA ac; intro ac hA
                 refine st_rd (v := Value.int .i64 ((k + 1 : Nat) : Int)) hA (by kernel_rfl) (by kernel_rfl) (by kernel_rfl) hW.cls (Rd.pure fun _ => by kernel_rfl) ?_; clear hA ac; intro ac hA
                 refine wpList_nil ?_
                 refine thenN ?_
                 exact ⟨L.length - (k + 1), by omega, k + 1, O, th, A, c, rfl, by omega, by rw [foldl_snoc hy7, ← hO]; simp only [insStep6]; (repeat' split) <;> first | rfl | (exfalso; simp_all; done) | (exfalso; omega) | (exfalso; simp_all; omega), by first | omega | (simp; omega), by exact hcO, hA.sub ⟨⟨by kernel_rfl, by kernel_rfl⟩, ⟨by kernel_rfl, by kernel_rfl⟩, ⟨by kernel_rfl, by kernel_rfl⟩, ⟨by kernel_rfl, by kernel_rfl⟩, ⟨by kernel_rfl, by kernel_rfl⟩, ⟨by kernel_rfl, by kernel_rfl⟩, ⟨by kernel_rfl, by kernel_rfl⟩, trivial⟩, (hW.pick [1, 2, 3] (by decide) rfl).pickG [0] rfl⟩)))
     · skip
       rw [h13] at hA
       have h13 := not_f h13
       first
       | (exfalso; clear hA hW; omega)
       | (
         refine st_skip hA (by kernel_rfl) (by kernel_rfl) ?_; clear hA ac; intro ac hA
         refine st_skip hA (by kernel_rfl) (by kernel_rfl) ?_; clear hA ac; intro ac hA
         refine st_skip hA (by kernel_rfl) (by kernel_rfl) ?_; clear hA ac; intro ac hA
         refine st_skip hA (by kernel_rfl) (by kernel_rfl) ?_; clear hA ac; intro ac hA
         refine st_rd (v := Value.bool false) hA (by kernel_rfl) (by kernel_rfl) (by kernel_rfl) hW.cls (Rd.pure fun _ => by kernel_rfl) ?_; clear hA ac; intro ac hA
         refine wpList_nil ?_
         refine thenN ?_
         refine wp_cond_false (hA.eval (by kernel_rfl)) ?_
         refine wp_skip ?_
         refine thenN ?_
         refine wp_seq ?_
         refine wp_region_lit ?_
         refine st_rd (v := Value.pointer (some ⟨b10, 0, none⟩)) hA (by kernel_rfl) (by kernel_rfl) (by kernel_rfl) hW.cls (Rd.pure fun _ => by kernel_rfl) ?_; clear hA ac; intro ac hA
         refine st_rd (v := Value.int .u32 y7.addr) hA (by kernel_rfl) (by kernel_rfl) (by kernel_rfl) hW.cls (Rd.load (b := b10) (i := 0) (by kernel_rfl) (fun _ hw => (hw.1).cel 0 rfl) (by kernel_rfl)) ?_; clear hA ac; intro ac hA
         refine st_rd (v := Value.int .u32 a) hA (by kernel_rfl) (by kernel_rfl) (by kernel_rfl) hW.cls (Rd.pure fun _ => by kernel_rfl) ?_; clear hA ac; intro ac hA
         refine st_rd (v := Value.bool ((y7.addr : Int) != (a : Int))) hA (by kernel_rfl) (by kernel_rfl) (by kernel_rfl) hW.cls (Rd.pure fun _ => by kernel_rfl) ?_; clear hA ac; intro ac hA
         refine wpList_nil ?_
         refine thenN ?_
         refine wp_cond_split (t := (y7.addr : Int) != (a : Int)) (hA.eval (by kernel_rfl)) (fun h32 => ?_) (fun h32 => ?_)
         · skip
           have h32 := bne_iff_ne.1 h32
           first
           | (exfalso; clear hA hW; omega)
           | (
             refine wp_region_lit ?_
             refine st_rd (v := Value.slice A O.length c) hA (by kernel_rfl) (by kernel_rfl) (by kernel_rfl) hW.cls (Rd.pure fun _ => by kernel_rfl) ?_; clear hA ac; intro ac hA
             refine st_rd (v := Value.agg #[Value.int .u32 y7.addr, Value.int .u32 y7.word]) hA (by kernel_rfl) (by kernel_rfl) (by kernel_rfl) hW.cls (Rd.load (b := b10) (i := 0) (by kernel_rfl) (fun _ hw => (hw.1).cel 0 rfl) (by kernel_rfl)) ?_; clear hA ac; intro ac hA
             refine st hA (by kernel_rfl) (by kernel_rfl) (by kernel_rfl) (Runs.cells (fun b => Value.slice (some ⟨b, 0, none⟩) 1 1) #[Value.int .u32 y7.addr, Value.int .u32 y7.word] 30 (fun _ => by kernel_rfl) hW ?_); clear hA ac hW; intro b33 w34 hW hb33 hfw34 ac hA
             refine st hA (by kernel_rfl) (by kernel_rfl) (by kernel_rfl) (Runs.appOwn (B := (some ⟨b33, 0, none⟩)) (k := 1) (E := 30) (sz := 2) (en := enCell6) (l := O) (m := ([y7] : List Cell6)) (i := 2) (by kernel_rfl) (by kernel_rfl) elt_Cell6 (by kernel_rfl) hW rfl (rowAt_cel ((hW).cel 0 rfl) ([y7] : List Cell6) (by rfl) elt_Cell6.len) (by first | omega | (simp; done) | (simp; omega)) (by first | omega | (simp; done) | (simp; omega)) ?_); clear hA ac hW; intro A35 c36 w37 hW hcc36 ac hA
             refine st_rd (v := Value.slice A35 (O ++ ([y7] : List Cell6)).length c36) hA (by kernel_rfl) (by kernel_rfl) (by kernel_rfl) hW.cls (Rd.pure fun _ => by kernel_rfl) ?_; clear hA ac; intro ac hA
             refine wpList_nil ?_
             refine blkN ?_
             refine thenN ?_
             refine wp_region_lit ?_
             refine st_rd (v := Value.int .i64 ((k : Nat) : Int)) hA (by kernel_rfl) (by kernel_rfl) (by kernel_rfl) hW.cls (Rd.pure fun _ => by kernel_rfl) ?_; clear hA ac; intro ac hA
             refine st_rd (v := Value.int .i64 ((k + 1 : Nat) : Int)) hA (by kernel_rfl) (by kernel_rfl) (by kernel_rfl) hW.cls (Rd.pureE (v0 := Value.int .i64 (IntKind.i64.wrap ((((k : Nat) : Int) : Int) + 1))) (fun _ => by kernel_rfl) (congrArg (Value.int .i64) ((w_i64 (x := (((k : Nat) : Int) : Int) + 1) (by omega) (by omega)).trans (by omega)))) ?_; clear hA ac; intro ac hA
             refine st_rd (v := Value.int .i64 ((k + 1 : Nat) : Int)) hA (by kernel_rfl) (by kernel_rfl) (by kernel_rfl) hW.cls (Rd.pure fun _ => by kernel_rfl) ?_; clear hA ac; intro ac hA
             refine wpList_nil ?_
             refine thenN ?_
             exact ⟨L.length - (k + 1), by omega, k + 1, O ++ ([y7] : List Cell6), th, A35, c36, rfl, by omega, by rw [foldl_snoc hy7, ← hO]; simp only [insStep6]; (repeat' split) <;> first | rfl | (exfalso; simp_all; done) | (exfalso; omega) | (exfalso; simp_all; omega), by first | omega | (simp; omega), by exact hcc36, hA.sub ⟨⟨by kernel_rfl, by kernel_rfl⟩, ⟨by kernel_rfl, by kernel_rfl⟩, ⟨by kernel_rfl, by kernel_rfl⟩, ⟨by kernel_rfl, by kernel_rfl⟩, ⟨by kernel_rfl, by kernel_rfl⟩, ⟨by kernel_rfl, by kernel_rfl⟩, ⟨by kernel_rfl, by kernel_rfl⟩, trivial⟩, (hW.pick [2, 3, 4] (by decide) rfl).pickG [0] rfl⟩)
         · skip
           have h32 := of_bne_f h32
           first
           | (exfalso; clear hA hW; omega)
           | (
             refine wp_skip ?_
             refine blkN ?_
             refine thenN ?_
             refine wp_region_lit ?_
             refine st_rd (v := Value.int .i64 ((k : Nat) : Int)) hA (by kernel_rfl) (by kernel_rfl) (by kernel_rfl) hW.cls (Rd.pure fun _ => by kernel_rfl) ?_; clear hA ac; intro ac hA
             refine st_rd (v := Value.int .i64 ((k + 1 : Nat) : Int)) hA (by kernel_rfl) (by kernel_rfl) (by kernel_rfl) hW.cls (Rd.pureE (v0 := Value.int .i64 (IntKind.i64.wrap ((((k : Nat) : Int) : Int) + 1))) (fun _ => by kernel_rfl) (congrArg (Value.int .i64) ((w_i64 (x := (((k : Nat) : Int) : Int) + 1) (by omega) (by omega)).trans (by omega)))) ?_; clear hA ac; intro ac hA
             refine st_rd (v := Value.int .i64 ((k + 1 : Nat) : Int)) hA (by kernel_rfl) (by kernel_rfl) (by kernel_rfl) hW.cls (Rd.pure fun _ => by kernel_rfl) ?_; clear hA ac; intro ac hA
             refine wpList_nil ?_
             refine thenN ?_
             exact ⟨L.length - (k + 1), by omega, k + 1, O, th, A, c, rfl, by omega, by rw [foldl_snoc hy7, ← hO]; simp only [insStep6]; (repeat' split) <;> first | rfl | (exfalso; simp_all; done) | (exfalso; omega) | (exfalso; simp_all; omega), by first | omega | (simp; omega), by exact hcO, hA.sub ⟨⟨by kernel_rfl, by kernel_rfl⟩, ⟨by kernel_rfl, by kernel_rfl⟩, ⟨by kernel_rfl, by kernel_rfl⟩, ⟨by kernel_rfl, by kernel_rfl⟩, ⟨by kernel_rfl, by kernel_rfl⟩, ⟨by kernel_rfl, by kernel_rfl⟩, ⟨by kernel_rfl, by kernel_rfl⟩, trivial⟩, (hW.pick [1, 2, 3] (by decide) rfl).pickG [0] rfl⟩)))
 · skip
   have h6 := of_decide_eq_false h6
   first
   | (exfalso; clear hA hW; omega)
   | (
     refine wp_exit ?_
     refine thenX ?_
     refine thenX ?_
     refine blkX ?_
     refine thenN ?_
     refine wp_seq ?_
     refine wp_seq ?_
     refine wp_region_lit ?_
     refine st_rd (v := Value.bool th) hA (by kernel_rfl) (by kernel_rfl) (by kernel_rfl) hW.cls (Rd.pure fun _ => by kernel_rfl) ?_; clear hA ac; intro ac hA
     refine st_rd (v := Value.bool (!th)) hA (by kernel_rfl) (by kernel_rfl) (by kernel_rfl) hW.cls (Rd.pure fun _ => by kernel_rfl) ?_; clear hA ac; intro ac hA
     refine wpList_nil ?_
     refine thenN ?_
     refine wp_cond_split (t := !th) (hA.eval (by kernel_rfl)) (fun h38 => ?_) (fun h38 => ?_)
     · skip
       have h38 := not_t h38
       first
       | (exfalso; clear hA hW; omega)
       | (
         refine wp_region_lit ?_
         refine st_rd (v := Value.slice A O.length c) hA (by kernel_rfl) (by kernel_rfl) (by kernel_rfl) hW.cls (Rd.pure fun _ => by kernel_rfl) ?_; clear hA ac; intro ac hA
         refine st_rd (v := Value.int .u32 a) hA (by kernel_rfl) (by kernel_rfl) (by kernel_rfl) hW.cls (Rd.pure fun _ => by kernel_rfl) ?_; clear hA ac; intro ac hA
         refine st_rd (v := Value.int .u32 wd) hA (by kernel_rfl) (by kernel_rfl) (by kernel_rfl) hW.cls (Rd.pure fun _ => by kernel_rfl) ?_; clear hA ac; intro ac hA
         refine st_rd (v := Value.agg #[Value.int .u32 a, Value.int .u32 wd]) hA (by kernel_rfl) (by kernel_rfl) (by kernel_rfl) hW.cls (Rd.pure fun _ => by kernel_rfl) ?_; clear hA ac; intro ac hA
         refine st hA (by kernel_rfl) (by kernel_rfl) (by kernel_rfl) (Runs.cells (fun b => Value.slice (some ⟨b, 0, none⟩) 1 1) #[Value.int .u32 a, Value.int .u32 wd] 30 (fun _ => by kernel_rfl) hW ?_); clear hA ac hW; intro b39 w40 hW hb39 hfw40 ac hA
         refine st hA (by kernel_rfl) (by kernel_rfl) (by kernel_rfl) (Runs.appOwn (B := (some ⟨b39, 0, none⟩)) (k := 1) (E := 30) (sz := 2) (en := enCell6) (l := O) (m := ([(⟨a, wd⟩ : Cell6)] : List Cell6)) (i := 1) (by kernel_rfl) (by kernel_rfl) elt_Cell6 (by kernel_rfl) hW rfl (rowAt_cel ((hW).cel 0 rfl) ([(⟨a, wd⟩ : Cell6)] : List Cell6) (by rfl) elt_Cell6.len) (by first | omega | (simp; done) | (simp; omega)) (by first | omega | (simp; done) | (simp; omega)) ?_); clear hA ac hW; intro A41 c42 w43 hW hcc42 ac hA
         refine st_rd (v := Value.slice A41 (O ++ ([(⟨a, wd⟩ : Cell6)] : List Cell6)).length c42) hA (by kernel_rfl) (by kernel_rfl) (by kernel_rfl) hW.cls (Rd.pure fun _ => by kernel_rfl) ?_; clear hA ac; intro ac hA
         refine wpList_nil ?_
         refine thenN ?_
         refine wp_seq ?_
         refine wp_region_lit ?_
         refine st_rd (v := Value.slice A41 (O ++ ([(⟨a, wd⟩ : Cell6)] : List Cell6)).length c42) hA (by kernel_rfl) (by kernel_rfl) (by kernel_rfl) hW.cls (Rd.pure fun _ => by kernel_rfl) ?_; clear hA ac; intro ac hA
         refine st_rd (v := Value.agg #[Value.slice A41 (O ++ ([(⟨a, wd⟩ : Cell6)] : List Cell6)).length c42]) hA (by kernel_rfl) (by kernel_rfl) (by kernel_rfl) hW.cls (Rd.pure fun _ => by kernel_rfl) ?_; clear hA ac; intro ac hA
         refine st hA (by kernel_rfl) (by kernel_rfl) (by kernel_rfl) (Runs.store (v := Value.agg #[Value.slice A41 (O ++ ([(⟨a, wd⟩ : Cell6)] : List Cell6)).length c42]) (b := b3) (j := 0) (n := 1) (cs' := #[Value.slice A41 (O ++ ([(⟨a, wd⟩ : Cell6)] : List Cell6)).length c42]) (H' := [Cel b39 #[Value.int .u32 a, Value.int .u32 wd] 30, rowR 30 2 enCell6 (Value.slice A41 (O ++ ([(⟨a, wd⟩ : Cell6)] : List Cell6)).length c42) (O ++ ([(⟨a, wd⟩ : Cell6)] : List Cell6)), Cel b3 #[Value.slice A41 (O ++ ([(⟨a, wd⟩ : Cell6)] : List Cell6)).length c42] 38, Cel b1 #[Value.slice A_L L.length c_L] 38]) (by kernel_rfl) (by kernel_rfl) (by kernel_rfl) (by kernel_rfl) (by kernel_rfl) hW 2 (by rfl) (Nat.le_of_ble_eq_true (by kernel_rfl)) (by kernel_rfl) (by rfl) ?_); clear hA ac hW; intro w44 hW ac hA
         refine wpList_nil ?_
         refine thenN ?_
         refine wp_ret ?_
         refine ret1 (v := Value.agg #[Value.slice A41 (O ++ ([(⟨a, wd⟩ : Cell6)] : List Cell6)).length c42]) (by rfl) hA (Got.cell (b := b3) (i := 0) hA (by kernel_rfl) (by kernel_rfl) (hW.cel 2 rfl) (by kernel_rfl)) ?_
         clear hA
         rw [List.take_of_length_le (by omega)] at hO
         exact ⟨O ++ ([(⟨a, wd⟩ : Cell6)] : List Cell6), A41, c42, by first | rfl | (simp; done), by unfold insM; simp only [← hO]; rw [if_neg (by rw [h38]; simp)], (own_cap ((hW).get 1 rfl)), (hW.outRow 1 rfl elt_Cell6.len (fun _ h => h)), hW.fr⟩)
     · skip
       have h38 := not_f h38
       first
       | (exfalso; clear hA hW; omega)
       | (
         refine wp_skip ?_
         refine thenN ?_
         refine wp_seq ?_
         refine wp_region_lit ?_
         refine st_rd (v := Value.slice A O.length c) hA (by kernel_rfl) (by kernel_rfl) (by kernel_rfl) hW.cls (Rd.pure fun _ => by kernel_rfl) ?_; clear hA ac; intro ac hA
         refine st_rd (v := Value.agg #[Value.slice A O.length c]) hA (by kernel_rfl) (by kernel_rfl) (by kernel_rfl) hW.cls (Rd.pure fun _ => by kernel_rfl) ?_; clear hA ac; intro ac hA
         refine st hA (by kernel_rfl) (by kernel_rfl) (by kernel_rfl) (Runs.store (v := Value.agg #[Value.slice A O.length c]) (b := b3) (j := 0) (n := 1) (cs' := #[Value.slice A O.length c]) (H' := [rowR 30 2 enCell6 (Value.slice A O.length c) O, Cel b3 #[Value.slice A O.length c] 38, Cel b1 #[Value.slice A_L L.length c_L] 38]) (by kernel_rfl) (by kernel_rfl) (by kernel_rfl) (by kernel_rfl) (by kernel_rfl) hW 1 (by rfl) (Nat.le_of_ble_eq_true (by kernel_rfl)) (by kernel_rfl) (by rfl) ?_); clear hA ac hW; intro w45 hW ac hA
         refine wpList_nil ?_
         refine thenN ?_
         refine wp_ret ?_
         refine ret1 (v := Value.agg #[Value.slice A O.length c]) (by rfl) hA (Got.cell (b := b3) (i := 0) hA (by kernel_rfl) (by kernel_rfl) (hW.cel 1 rfl) (by kernel_rfl)) ?_
         clear hA
         rw [List.take_of_length_le (by omega)] at hO
         exact ⟨O, A, c, by first | rfl | (simp; done), by unfold insM; simp only [← hO]; rw [if_pos h38], (own_cap ((hW).get 0 rfl)), (hW.outRow 0 rfl elt_Cell6.len (fun _ h => h)), hW.fr⟩))

end Go.Proofs.Ytcokpdlmahlpnaa.L
