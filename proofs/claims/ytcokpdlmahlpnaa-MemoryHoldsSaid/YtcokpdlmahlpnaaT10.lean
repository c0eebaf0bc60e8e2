/- Contracts, walked by program over the engine's laws. -/
import Derived.Test.YtcokpdlmahlpnaaProg
import Derived.Test.YtcokpdlmahlpnaaT9
namespace Go.Proofs.Ytcokpdlmahlpnaa.L
open Go.RowKit

/-- The document's From. -/
def fromM (L : List Cell6) (a : Int) : List Cell6 := L.dropWhile fun x => decide (x.addr < a)
theorem fromM_at {L : List Cell6} {a : Int} {k : Nat} (hn : ∀ x ∈ L.take k, x.addr < a) (hk : k = L.length ∨ ∃ y, L[k]? = some y ∧ ¬ y.addr < a) : L.drop k = fromM L a := by
  unfold fromM
  induction L generalizing k with
  | nil => simp
  | cons x L ih =>
    cases k with
    | zero =>
      rcases hk with hk | ⟨y, hy, h⟩
      · simp at hk
      · simp at hy; subst hy; rw [List.drop_zero, List.dropWhile_cons_of_neg (by simpa using h)]
    | succ k =>
      rw [List.drop_succ_cons, List.dropWhile_cons_of_pos (by simpa using hn x (by simp))]
      exact ih (fun z hz => hn z (by simp [hz])) (hk.elim (fun h => .inl (by simpa using h)) (fun ⟨y, hy, h⟩ => .inr ⟨y, by simpa using hy, h⟩))
theorem dropE_fp {α : Type} {A : Option Addr} {sz c n b : Nat} {en : α → List Value} {l : List α} (h : b ∈ (roR (if c = n then (A : Option Addr) else Option.map (fun a_ => Addr.add a_ (n * sz)) (A : Option Addr)) sz en (l.drop n)).fp) : b ∈ (roR A sz en l).fp := by
  by_cases hd : l.drop n = []
  · rw [hd] at h; simp [roR] at h
  · have hl : l ≠ [] := fun e => hd (by rw [e]; simp)
    have hd' : (l.drop n).isEmpty = false := by simpa using hd
    have hl' : l.isEmpty = false := by simpa using hl
    by_cases e0 : c = n
    · rw [if_pos e0] at h
      simp only [roR, hd', hl'] at h ⊢; exact h
    · rw [if_neg e0] at h
      cases A with
      | none => simp [roR] at h
      | some a =>
        have e : (a.add (n * sz)).block = a.block := by unfold Addr.add; split <;> rfl
        simp only [roR, hd', hl', Option.map_some, e] at h ⊢; exact h
set_option maxRecDepth 100000 in
theorem e_rfrom (A_L : Option Addr) (c_L : Nat) (L : List Cell6) (a : Int) (w : World) (hr_L : RowAt w A_L 2 enCell6 L) (hc_L : L.length ≤ c_L) (hl : L.length ≤ 100000) : Calls Try.prog 18 #[Value.agg #[Value.slice A_L L.length c_L], Value.int .u32 a] w (fun e w' => ∃ l' : List Cell6, ∃ (A_o : Option Addr) (c_o : Nat), e = .returned (Value.slice A_o (l').length c_o) ∧ (l' = fromM L a) ∧ (l').length ≤ c_o ∧ (roR A_o 2 enCell6 l').from_ [roR A_L 2 enCell6 L] w w' ∧ Fr No w w') := by
 have _hu := hc_L; have _hv := hr_L; clear _hu _hv
 have _hu := hl; clear _hu
 refine enter_E 27 Try.func18 rfl rfl (by kernel_rfl) (L := [(0, Value.agg #[Value.slice A_L L.length c_L]), (1, Value.int .u32 a)]) (by kernel_rfl) ?_
 intro ac hA
 have hW := Ws.start w No
 have hW := hW.arg hr_L
 refine wp_seq ?_
 refine wp_region_lit ?_
 refine st hA (by kernel_rfl) (by kernel_rfl) (by kernel_rfl) (Runs.cells (fun b => Value.pointer (some ⟨b, 0, none⟩)) #[Value.slice A_L L.length c_L] 38 (fun _ => by kernel_rfl) hW ?_); clear hA ac hW; intro b1 w2 hW hb1 hfw2 ac hA
 refine st_rd (v := Value.slice none 0 0) hA (by kernel_rfl) (by kernel_rfl) (by kernel_rfl) hW.cls (Rd.pure fun _ => by kernel_rfl) ?_; clear hA ac; intro ac hA
 refine wpList_nil ?_
 refine thenN ?_
 refine wp_seq ?_
 refine wp_region_lit ?_
 refine st_rd (v := Value.int .i64 0) hA (by kernel_rfl) (by kernel_rfl) (by kernel_rfl) hW.cls (Rd.pure fun _ => by kernel_rfl) ?_; clear hA ac; intro ac hA
 refine wpList_nil ?_
 refine thenN ?_
 refine wp_seq ?_
 refine wp_block ?_
 refine wp_loop_m (fun m_ ac_ wl_ => ∃ k : Nat, m_ = L.length - k ∧ (k ≤ L.length) ∧ (∀ x ∈ L.take k, x.addr < a) ∧ Fm 27 [] [(1, Value.int .u32 a), (2, Value.pointer (some ⟨b1, 0, none⟩)), (5, Value.int .i64 ((k : Nat) : Int))] ac_ ∧ Ws w No [Cel b1 #[Value.slice A_L L.length c_L] 38] [roR A_L 2 enCell6 L] wl_) _ ⟨0, rfl, by omega, by intro x hx; simp at hx, hA.sub ⟨⟨by kernel_rfl, by kernel_rfl⟩, ⟨by kernel_rfl, by kernel_rfl⟩, ⟨by kernel_rfl, by kernel_rfl⟩, trivial⟩, (hW.pick [0] (by decide) rfl).pickG [0] rfl⟩ ?_
 clear hA ac hW; rintro m_ ac w3 ⟨k, rfl, hk, hn, hA, hW⟩
 refine wp_seq ?_
 refine wp_seq ?_
 refine wp_region_lit ?_
 refine st_rd (v := Value.int .i64 ((k : Nat) : Int)) hA (by kernel_rfl) (by kernel_rfl) (by kernel_rfl) hW.cls (Rd.pure fun _ => by kernel_rfl) ?_; clear hA ac; intro ac hA
 refine st_rd (v := Value.pointer (some ⟨b1, 0, none⟩)) hA (by kernel_rfl) (by kernel_rfl) (by kernel_rfl) hW.cls (Rd.pure fun _ => by kernel_rfl) ?_; clear hA ac; intro ac hA
 refine st_rd (v := Value.slice A_L L.length c_L) hA (by kernel_rfl) (by kernel_rfl) (by kernel_rfl) hW.cls (Rd.load (b := b1) (i := 0) (by kernel_rfl) (fun _ hw => (hw.1).cel 0 rfl) (by kernel_rfl)) ?_; clear hA ac; intro ac hA
 refine st_rd (v := Value.int .i64 ((L.length : Nat) : Int)) hA (by kernel_rfl) (by kernel_rfl) (by kernel_rfl) hW.cls (Rd.pure fun _ => by kernel_rfl) ?_; clear hA ac; intro ac hA
 refine st_rd (v := Value.bool (decide ((((k : Nat) : Int) : Int) < (((L.length : Nat) : Int) : Int)))) hA (by kernel_rfl) (by kernel_rfl) (by kernel_rfl) hW.cls (Rd.pure fun _ => by kernel_rfl) ?_; clear hA ac; intro ac hA
 refine st_rd (v := Value.bool (decide ((((k : Nat) : Int) : Int) < (((L.length : Nat) : Int) : Int)))) hA (by kernel_rfl) (by kernel_rfl) (by kernel_rfl) hW.cls (Rd.pure fun _ => by kernel_rfl) ?_; clear hA ac; intro ac hA
 rcases Bool.eq_false_or_eq_true (decide ((((k : Nat) : Int) : Int) < (((L.length : Nat) : Int) : Int))) with h4 | h4
 · skip
   rw [h4] at hA
   have h4 := of_decide_eq_true h4
   first
   | (exfalso; clear hA hW; omega)
   | (
     refine st_rd (v := Value.pointer (some ⟨b1, 0, none⟩)) hA (by kernel_rfl) (by kernel_rfl) (by kernel_rfl) hW.cls (Rd.pure fun _ => by kernel_rfl) ?_; clear hA ac; intro ac hA
     refine st_rd (v := Value.slice A_L L.length c_L) hA (by kernel_rfl) (by kernel_rfl) (by kernel_rfl) hW.cls (Rd.load (b := b1) (i := 0) (by kernel_rfl) (fun _ hw => (hw.1).cel 0 rfl) (by kernel_rfl)) ?_; clear hA ac; intro ac hA
     refine st_rd (v := Value.int .i64 ((k : Nat) : Int)) hA (by kernel_rfl) (by kernel_rfl) (by kernel_rfl) hW.cls (Rd.pure fun _ => by kernel_rfl) ?_; clear hA ac; intro ac hA
     obtain ⟨y5, hy5⟩ : ∃ y, L[k]? = some y := ⟨_, List.getElem?_eq_getElem (by first | omega | (simp; done) | (simp; omega))⟩
     obtain ⟨b6, o7, rfl, hbb6⟩ := row_some ((hW).getG 0 rfl) hy5
     refine st_rd (v := Value.pointer (some ⟨b6, o7 + k * 2, none⟩)) hA (by kernel_rfl) (by kernel_rfl) (by kernel_rfl) hW.cls (Rd.indexAddr (e := 30) (sz := 2) (b := b6) (off := o7) (n := L.length) (c := c_L) (k := k) (by kernel_rfl) (by kernel_rfl) (by first | omega | (simp; done) | (simp; omega)) (fun _ => by kernel_rfl) (fun _ => by kernel_rfl)) ?_; clear hA ac; intro ac hA
     refine st_rd (v := Value.pointer (some ⟨b6, o7 + k * 2, none⟩)) hA (by kernel_rfl) (by kernel_rfl) (by kernel_rfl) hW.cls (Rd.pure fun _ => by kernel_rfl) ?_; clear hA ac; intro ac hA
     refine st_rd (v := Value.int .u32 y5.addr) hA (by kernel_rfl) (by kernel_rfl) (by kernel_rfl) hW.cls (Rd.loadRow (b := b6) (i := o7 + k * 2) (xs := [Value.int .u32 y5.addr]) (by kernel_rfl) (fun _ hw => row_ld ((hw.1).getG 0 rfl) hy5 (Fr.refl No _) (fun h => h) 0 1 (by kernel_rfl)) (by kernel_rfl)) ?_; clear hA ac; intro ac hA
     refine st_rd (v := Value.int .u32 a) hA (by kernel_rfl) (by kernel_rfl) (by kernel_rfl) hW.cls (Rd.pure fun _ => by kernel_rfl) ?_; clear hA ac; intro ac hA
     refine st_rd (v := Value.bool (decide ((y5.addr : Int) < (a : Int)))) hA (by kernel_rfl) (by kernel_rfl) (by kernel_rfl) hW.cls (Rd.pure fun _ => by kernel_rfl) ?_; clear hA ac; intro ac hA
     refine st_rd (v := Value.bool (decide ((y5.addr : Int) < (a : Int)))) hA (by kernel_rfl) (by kernel_rfl) (by kernel_rfl) hW.cls (Rd.pure fun _ => by kernel_rfl) ?_; clear hA ac; intro ac hA
     refine wpList_nil ?_
     refine thenN ?_
     refine wp_cond_split (t := decide ((y5.addr : Int) < (a : Int))) (hA.eval (by kernel_rfl)) (fun h8 => ?_) (fun h8 => ?_)
     · skip
       have h8 := of_decide_eq_true h8
       first
       | (exfalso; clear hA hW; omega)
       | (
         refine wp_skip ?_
         refine thenN ?_
         refine wp_block ?_
         refine wp_region_lit ?_
         refine st_rd (v := Value.int .i64 ((k : Nat) : Int)) hA (by kernel_rfl) (by kernel_rfl) (by kernel_rfl) hW.cls (Rd.pure fun _ => by kernel_rfl) ?_; clear hA ac; intro ac hA
         refine st_rd (v := Value.int .i64 ((k + 1 : Nat) : Int)) hA (by kernel_rfl) (by kernel_rfl) (by kernel_rfl) hW.cls (Rd.pureE (v0 := Value.int .i64 (IntKind.i64.wrap ((((k : Nat) : Int) : Int) + 1))) (fun _ => by kernel_rfl) (congrArg (Value.int .i64) ((w_i64 (x := (((k : Nat) : Int) : Int) + 1) (by omega) (by omega)).trans (by omega)))) ?_; clear hA ac; intro ac hA
         refine st_rd (v := Value.int .i64 ((k + 1 : Nat) : Int)) hA (by kernel_rfl) (by kernel_rfl) (by kernel_rfl) hW.cls (Rd.pure fun _ => by kernel_rfl) ?_; clear hA ac; intro ac hA
         refine wpList_nil ?_
         refine blkN ?_
         refine thenN ?_
         exact ⟨L.length - (k + 1), by omega, k + 1, rfl, by omega, by intro x hx; rw [tk_snoc hy5] at hx; rcases List.mem_append.1 hx with hx | hx; exact hn x hx; (simp only [List.mem_singleton] at hx; subst hx; omega), hA.sub ⟨⟨by kernel_rfl, by kernel_rfl⟩, ⟨by kernel_rfl, by kernel_rfl⟩, ⟨by kernel_rfl, by kernel_rfl⟩, trivial⟩, (hW.pick [0] (by decide) rfl).pickG [0] rfl⟩)
     · skip
       have h8 := of_decide_eq_false h8
       first
       | (exfalso; clear hA hW; omega)
       | (
         refine wp_exit ?_
         refine thenX ?_
         refine thenX ?_
         refine blkX ?_
         refine thenN ?_
         refine wp_seq ?_
         refine wp_region_lit ?_
         refine st_rd (v := Value.pointer (some ⟨b1, 0, none⟩)) hA (by kernel_rfl) (by kernel_rfl) (by kernel_rfl) hW.cls (Rd.pure fun _ => by kernel_rfl) ?_; clear hA ac; intro ac hA
         refine st_rd (v := Value.slice (some ⟨b6, o7, none⟩) L.length c_L) hA (by kernel_rfl) (by kernel_rfl) (by kernel_rfl) hW.cls (Rd.load (b := b1) (i := 0) (by kernel_rfl) (fun _ hw => (hw.1).cel 0 rfl) (by kernel_rfl)) ?_; clear hA ac; intro ac hA
         refine st_rd (v := Value.int .i64 ((k : Nat) : Int)) hA (by kernel_rfl) (by kernel_rfl) (by kernel_rfl) hW.cls (Rd.pure fun _ => by kernel_rfl) ?_; clear hA ac; intro ac hA
         refine st_rd (v := Value.slice (if c_L = k then ((some ⟨b6, o7, none⟩) : Option Addr) else Option.map (fun a_ => Addr.add a_ (k * 2)) ((some ⟨b6, o7, none⟩) : Option Addr)) (L.drop k).length (c_L - k)) hA (by kernel_rfl) (by kernel_rfl) (by kernel_rfl) hW.cls ((Rd.slice (E := 30) (A := (some ⟨b6, o7, none⟩)) (n := L.length) (c := c_L) (l := k) (h := L.length) (m := c_L) (sz := 2) (by kernel_rfl) (fun _ => by kernel_rfl) (fun _ => by kernel_rfl) (fun w => bounds_lo (by omega) w)).cast (slice_eq rfl (by first | omega | (simp; done) | (simp; omega)) rfl)) ?_; clear hA ac; intro ac hA
         refine st_rd (v := Value.slice (if c_L = k then ((some ⟨b6, o7, none⟩) : Option Addr) else Option.map (fun a_ => Addr.add a_ (k * 2)) ((some ⟨b6, o7, none⟩) : Option Addr)) (L.drop k).length (c_L - k)) hA (by kernel_rfl) (by kernel_rfl) (by kernel_rfl) hW.cls (Rd.pure fun _ => by kernel_rfl) ?_; clear hA ac; intro ac hA
         refine wpList_nil ?_
         refine thenN ?_
         refine wp_ret ?_
         refine ret1 (v := Value.slice (if c_L = k then ((some ⟨b6, o7, none⟩) : Option Addr) else Option.map (fun a_ => Addr.add a_ (k * 2)) ((some ⟨b6, o7, none⟩) : Option Addr)) (L.drop k).length (c_L - k)) (by rfl) hA (Got.tmp hA (by kernel_rfl) (by kernel_rfl)) ?_
         clear hA
         have hssub1 : Res.src (roR (if c_L = k then ((some ⟨b6, o7, none⟩) : Option Addr) else Option.map (fun a_ => Addr.add a_ (k * 2)) ((some ⟨b6, o7, none⟩) : Option Addr)) 2 enCell6 (L.drop k)) [roR (some ⟨b6, o7, none⟩) 2 enCell6 L] w := fun b_ hb_ => (src_arg (.head _)) b_ (dropE_fp hb_)
         have hW := hW.nestG (roR (if c_L = k then ((some ⟨b6, o7, none⟩) : Option Addr) else Option.map (fun a_ => Addr.add a_ (k * 2)) ((some ⟨b6, o7, none⟩) : Option Addr)) 2 enCell6 (L.drop k)) (((hW).getG 0 rfl).dropE (by first | assumption | omega | (simp; omega) | simp) k) (fun _ hb_ => ⟨_, List.mem_of_getElem? (i := 0) rfl, dropE_fp hb_⟩)
         exact ⟨L.drop k, (if c_L = k then ((some ⟨b6, o7, none⟩) : Option Addr) else Option.map (fun a_ => Addr.add a_ (k * 2)) ((some ⟨b6, o7, none⟩) : Option Addr)), c_L - k, by first | rfl | (simp; done), by exact fromM_at hn (.inr ⟨_, hy5, by omega⟩), (by first | assumption | omega | (simp; omega) | simp), (hW.outSrc 0 rfl hssub1), hW.fr⟩))
 · skip
   rw [h4] at hA
   have h4 := of_decide_eq_false h4
   first
   | (exfalso; clear hA hW; omega)
   | (
     refine st_skip hA (by kernel_rfl) (by kernel_rfl) ?_; clear hA ac; intro ac hA
     refine st_skip hA (by kernel_rfl) (by kernel_rfl) ?_; clear hA ac; intro ac hA
     refine st_skip hA (by kernel_rfl) (by kernel_rfl) ?_; clear hA ac; intro ac hA
     refine st_skip hA (by kernel_rfl) (by kernel_rfl) ?_; clear hA ac; intro ac hA
     refine st_skip hA (by kernel_rfl) (by kernel_rfl) ?_; clear hA ac; intro ac hA
     refine st_skip hA (by kernel_rfl) (by kernel_rfl) ?_; clear hA ac; intro ac hA
     refine st_skip hA (by kernel_rfl) (by kernel_rfl) ?_; clear hA ac; intro ac hA
     refine st_skip hA (by kernel_rfl) (by kernel_rfl) ?_; clear hA ac; intro ac hA
     refine st_rd (v := Value.bool false) hA (by kernel_rfl) (by kernel_rfl) (by kernel_rfl) hW.cls (Rd.pure fun _ => by kernel_rfl) ?_; clear hA ac; intro ac hA
     refine wpList_nil ?_
     refine thenN ?_
     refine wp_cond_false (hA.eval (by kernel_rfl)) ?_
     refine wp_exit ?_
     refine thenX ?_
     refine thenX ?_
     refine blkX ?_
     refine thenN ?_
     refine wp_seq ?_
     refine wp_region_lit ?_
     refine st_rd (v := Value.pointer (some ⟨b1, 0, none⟩)) hA (by kernel_rfl) (by kernel_rfl) (by kernel_rfl) hW.cls (Rd.pure fun _ => by kernel_rfl) ?_; clear hA ac; intro ac hA
     refine st_rd (v := Value.slice A_L L.length c_L) hA (by kernel_rfl) (by kernel_rfl) (by kernel_rfl) hW.cls (Rd.load (b := b1) (i := 0) (by kernel_rfl) (fun _ hw => (hw.1).cel 0 rfl) (by kernel_rfl)) ?_; clear hA ac; intro ac hA
     refine st_rd (v := Value.int .i64 ((k : Nat) : Int)) hA (by kernel_rfl) (by kernel_rfl) (by kernel_rfl) hW.cls (Rd.pure fun _ => by kernel_rfl) ?_; clear hA ac; intro ac hA
     refine st_rd (v := Value.slice (if c_L = k then (A_L : Option Addr) else Option.map (fun a_ => Addr.add a_ (k * 2)) (A_L : Option Addr)) (L.drop k).length (c_L - k)) hA (by kernel_rfl) (by kernel_rfl) (by kernel_rfl) hW.cls ((Rd.slice (E := 30) (A := A_L) (n := L.length) (c := c_L) (l := k) (h := L.length) (m := c_L) (sz := 2) (by kernel_rfl) (fun _ => by kernel_rfl) (fun _ => by kernel_rfl) (fun w => bounds_lo (by omega) w)).cast (slice_eq rfl (by first | omega | (simp; done) | (simp; omega)) rfl)) ?_; clear hA ac; intro ac hA
     refine st_rd (v := Value.slice (if c_L = k then (A_L : Option Addr) else Option.map (fun a_ => Addr.add a_ (k * 2)) (A_L : Option Addr)) (L.drop k).length (c_L - k)) hA (by kernel_rfl) (by kernel_rfl) (by kernel_rfl) hW.cls (Rd.pure fun _ => by kernel_rfl) ?_; clear hA ac; intro ac hA
     refine wpList_nil ?_
     refine thenN ?_
     refine wp_ret ?_
     refine ret1 (v := Value.slice (if c_L = k then (A_L : Option Addr) else Option.map (fun a_ => Addr.add a_ (k * 2)) (A_L : Option Addr)) (L.drop k).length (c_L - k)) (by rfl) hA (Got.tmp hA (by kernel_rfl) (by kernel_rfl)) ?_
     clear hA
     have hssub1 : Res.src (roR (if c_L = k then (A_L : Option Addr) else Option.map (fun a_ => Addr.add a_ (k * 2)) (A_L : Option Addr)) 2 enCell6 (L.drop k)) [roR A_L 2 enCell6 L] w := fun b_ hb_ => (src_arg (.head _)) b_ (dropE_fp hb_)
     have hW := hW.nestG (roR (if c_L = k then (A_L : Option Addr) else Option.map (fun a_ => Addr.add a_ (k * 2)) (A_L : Option Addr)) 2 enCell6 (L.drop k)) (((hW).getG 0 rfl).dropE (by first | assumption | omega | (simp; omega) | simp) k) (fun _ hb_ => ⟨_, List.mem_of_getElem? (i := 0) rfl, dropE_fp hb_⟩)
     exact ⟨L.drop k, (if c_L = k then (A_L : Option Addr) else Option.map (fun a_ => Addr.add a_ (k * 2)) (A_L : Option Addr)), c_L - k, by first | rfl | (simp; done), by exact fromM_at hn (.inl (by omega)), (by first | assumption | omega | (simp; omega) | simp), (hW.outSrc 0 rfl hssub1), hW.fr⟩)

end Go.Proofs.Ytcokpdlmahlpnaa.L
