/- Contracts, walked by program over the engine's laws. -/
import Derived.Test.YtcgcippmbeileaaProg
import Derived.Test.YtcgcippmbeileaaT15
namespace Go.Proofs.Ytcgcippmbeileaa.L
open Go.RowKit

abbrev Rc22 := Cell22
def Rc22.v (x : Rc22) : Value := .agg #[Value.int .u32 x.addr, Value.int .u64 x.x.wr, Value.int .i64 x.x.ws.f, Value.int .i64 x.x.ws.pc, Value.int .u64 x.x.rd, Value.int .i64 x.x.rs.f, Value.int .i64 x.x.rs.pc, Value.int .i64 x.x.vec]
theorem elt_Rc22 : Elt Try.prog 75 8 enCell22 := ⟨⟨Value.agg #[Value.int .u32 0, Value.int .u64 0, Value.int .i64 0, Value.int .i64 0, Value.int .u64 0, Value.int .i64 0, Value.int .i64 0, Value.int .i64 0], 64, by kernel_rfl, rfl, by decide⟩, by decide, fun _ => rfl, fun x u hu => List.all_eq_true.1 (show (enCell22 x).all (·.oneCell') = true from rfl) u hu⟩
set_option maxRecDepth 100000 in
theorem eqIn_Rc22 (d : Nat) (a b : Rc22) (w : World) : (Op.equalIn (d + 4) 75 a.v b.v).run Try.prog w = .ok (decide (a = b)) w := by
  have h := eq_struct (P := Try.prog) (d := d + 3) (t := 75) (u := a.v) (v := b.v) rfl rfl (by kernel_rfl) (by kernel_rfl) (eqF_cons { name := "Addr", type := 35, offset := 0, embedded := false, tag := "", pkgPath := "", byteOffset := 0 } (fs := [{ name := "X", type := 31, offset := 1, embedded := false, tag := "", pkgPath := "", byteOffset := 8 }]) (u := Value.int .u32 a.addr) (v := Value.int .u32 b.addr) (r := (a.addr == b.addr)) (by kernel_rfl) (by decide) (fun _ => by kernel_rfl) (fun _ => by kernel_rfl) (fun _ => by kernel_rfl) (eqF_cons { name := "X", type := 31, offset := 1, embedded := false, tag := "", pkgPath := "", byteOffset := 8 } (fs := []) (u := a.x.v) (v := b.x.v) (r := decide (a.x = b.x)) (by kernel_rfl) (by decide) (fun _ => by kernel_rfl) (fun _ => by kernel_rfl) (eqIn_Shade (d + 0) a.x b.x) (eqF_nil (by kernel_rfl)))) w
  rw [h]; congr 1
  obtain ⟨x0, x1⟩ := a; obtain ⟨y0, y1⟩ := b; rw [Bool.eq_iff_iff]; simp
theorem eq_Rc22 (w : World) (a b : Rc22) : (Op.equal 75 a.v b.v).run Try.prog w = .ok (decide (a = b)) w := eqIn_Rc22 9996 a b w
theorem Rc22.eqi (a b : Rc22) : a = b ↔ a.addr = b.addr ∧ a.x.wr = b.x.wr ∧ a.x.ws.f = b.x.ws.f ∧ a.x.ws.pc = b.x.ws.pc ∧ a.x.rd = b.x.rd ∧ a.x.rs.f = b.x.rs.f ∧ a.x.rs.pc = b.x.rs.pc ∧ a.x.vec = b.x.vec := by
  obtain ⟨x0, x1⟩ := a; obtain ⟨y0, y1⟩ := b; first | (simp [Shade.eqi]; done) | (simp [Shade.eqi, and_assoc]; done)
theorem find_some {α : Type} {l : List α} {p : α → Bool} {k : Nat} {y : α} (hn : ∀ x ∈ l.take k, p x = false) (hy : l[k]? = some y) (hp : p y = true) : l.find? p = some y := by
  have e : l = l.take k ++ y :: l.drop (k + 1) := by
    obtain ⟨hlt, rfl⟩ := List.getElem?_eq_some_iff.1 hy
    rw [List.getElem_cons_drop, List.take_append_drop]
  rw [e, List.find?_append, List.find?_eq_none.2 (fun x hx => by rw [hn x hx]; simp), List.find?_cons_of_pos hp]; rfl
theorem find_no {α : Type} {l : List α} {p : α → Bool} {k : Nat} (hn : ∀ x ∈ l.take k, p x = false) (hk : l.length ≤ k) : l.find? p = none := by
  rw [List.take_of_length_le hk] at hn
  exact List.find?_eq_none.2 fun x hx => by rw [hn x hx]; simp
theorem foldl_snoc {α β : Type} {f : β → α → β} {b : β} {l : List α} {k : Nat} {y : α} (h : l[k]? = some y) : (l.take (k + 1)).foldl f b = f ((l.take k).foldl f b) y := by rw [tk_snoc h, List.foldl_append]; rfl
theorem last_z {O : List Int} {z : Int} (h : O[Int.toNat (((O.length : Nat) : Int) - 1)]? = some z) : O.getLast? = some z := by
  rw [List.getLast?_eq_getElem?, ← h]; congr 1; omega
theorem dropE_fp {α : Type} {A : Option Addr} {sz c n b : Nat} {en : α → List Value} {l : List α} (h : b ∈ (roR (if c = n then (A : Option Addr) else Option.map (fun a_ => Addr.add a_ (n * sz)) (A : Option Addr)) sz en (l.drop n)).fp) : b ∈ (roR A sz en l).fp := by
  by_cases hd : l.drop n = []
  · rw [hd] at h; simp [roR] at h
  · have hl : l ≠ [] := fun e => hd (by rw [e]; simp)
    have hd' : (l.drop n).isEmpty = false := by simpa using hd
    have hl' : l.isEmpty = false := by simpa using hl
    by_cases e0 : c = n
    · rw [if_pos e0] at h
      simp only [roR, hd', hl'] at h ⊢; exact h
    · rw [if_neg e0] at h
      cases A with
      | none => simp [roR] at h
      | some a =>
        have e : (a.add (n * sz)).block = a.block := by unfold Addr.add; split <;> rfl
        simp only [roR, hd', hl', Option.map_some, e] at h ⊢; exact h
/-- The document's All, Vectors. -/
def allL (L : List Cell22) : List Cell22 := L.filter (fun c => decide (c.x ≠ zSh))
def vecL (L : List Cell22) : List Int := (L.filter (fun c => decide (c.x.vec > 0))).map (·.addr)
theorem all_y {L : List Cell22} {k : Nat} {y : Cell22} (h : L[k]? = some y) (hn : y.x ≠ zSh) : allL (L.take (k + 1)) = allL (L.take k) ++ [y] := by unfold allL; rw [tk_snoc h, List.filter_append]; simp [hn]
theorem all_n {L : List Cell22} {k : Nat} {y : Cell22} (h : L[k]? = some y) (hn : y.x = zSh) : allL (L.take (k + 1)) = allL (L.take k) := by unfold allL; rw [tk_snoc h, List.filter_append]; simp [hn]
theorem vec_y {L : List Cell22} {k : Nat} {y : Cell22} (h : L[k]? = some y) (hn : y.x.vec > 0) : vecL (L.take (k + 1)) = vecL (L.take k) ++ [y.addr] := by unfold vecL; rw [tk_snoc h, List.filter_append]; simp [hn]
theorem vec_n {L : List Cell22} {k : Nat} {y : Cell22} (h : L[k]? = some y) (hn : ¬ y.x.vec > 0) : vecL (L.take (k + 1)) = vecL (L.take k) := by unfold vecL; rw [tk_snoc h, List.filter_append]; simp [hn]
theorem allL_len (L : List Cell22) : (allL L).length ≤ L.length := List.length_filter_le _ _
theorem pagesM_len (L : List Cell22) : (pagesM L).length ≤ L.length := by
  have h : ∀ (l : List Cell22) (acc : List Int), (l.foldl pgStep acc).length ≤ acc.length + l.length := by
    intro l; induction l with
    | nil => intro acc; simp
    | cons x l ih => intro acc; rw [List.foldl_cons]; have := ih (pgStep acc x); have h2 : (pgStep acc x).length ≤ acc.length + 1 := by unfold pgStep; split <;> simp
                     simp only [List.length_cons]; omega
  have := h L []; simpa [pagesM] using this
/-- The document's Lay, by where it lays. -/
theorem lay_at {L : List Cell22} {a : Int} {x : Shade} {k : Nat} (hr : Rise22 L) (hn : ∀ c ∈ L.take k, c.addr < a) (he : L.length ≤ k ∨ ∃ y, L[k]? = some y ∧ a < y.addr) : L.take k ++ [(⟨a, x⟩ : Cell22)] ++ L.drop k = layL L a x := by
  have key : ∀ c ∈ L.drop k, a < c.addr := fun c hc => by
    rcases he with he | ⟨y, hy, hay⟩
    · rw [List.drop_eq_nil_of_le he] at hc; cases hc
    · obtain ⟨hlt, rfl⟩ := List.getElem?_eq_some_iff.1 hy
      rw [List.drop_eq_getElem_cons hlt] at hc
      rcases List.mem_cons.1 hc with rfl | hc
      · exact hay
      · have h1 := List.pairwise_append.1 (show (L.take k ++ L.drop k).Pairwise (fun x y => x.addr < y.addr) by rw [List.take_append_drop]; exact hr)
        have h2 := h1.2.1; rw [List.drop_eq_getElem_cons hlt] at h2
        have := (List.pairwise_cons.1 h2).1 c hc; omega
  unfold layL
  have e1 : L.filter (fun c => decide (c.addr < a)) = L.take k := by
    conv => lhs; rw [← List.take_append_drop k L]
    rw [List.filter_append, List.filter_eq_self.2 (fun c hc => by simpa using hn c hc), List.filter_eq_nil_iff.2 (fun c hc => by have := key c hc; simp; omega)]; simp
  have e2 : L.filter (fun c => decide (a < c.addr)) = L.drop k := by
    conv => lhs; rw [← List.take_append_drop k L]
    rw [List.filter_append, List.filter_eq_nil_iff.2 (fun c hc => by have := hn c hc; simp; omega), List.filter_eq_self.2 (fun c hc => by simpa using key c hc)]; simp
  rw [e1, e2]; simp
theorem lay_at' {L : List Cell22} {a : Int} {x : Shade} {k : Nat} {y : Cell22} (hr : Rise22 L) (hn : ∀ c ∈ L.take k, c.addr < a) (hy : L[k]? = some y) (hay : y.addr = a) : L.take k ++ [(⟨a, x⟩ : Cell22)] ++ L.drop (k + 1) = layL L a x := by
  obtain ⟨hlt, rfl⟩ := List.getElem?_eq_some_iff.1 hy
  have h1 := List.pairwise_append.1 (show (L.take k ++ L.drop k).Pairwise (fun x y => x.addr < y.addr) by rw [List.take_append_drop]; exact hr)
  have h2 := h1.2.1; rw [List.drop_eq_getElem_cons hlt] at h2
  have h3 := (List.pairwise_cons.1 h2).1
  unfold layL
  have e1 : L.filter (fun c => decide (c.addr < a)) = L.take k := by
    conv => lhs; rw [← List.take_append_drop k L]
    rw [List.filter_append, List.filter_eq_self.2 (fun c hc => by simpa using hn c hc), List.drop_eq_getElem_cons hlt, List.filter_eq_nil_iff.2 (fun c hc => by
      rcases List.mem_cons.1 hc with rfl | hc
      · simp; omega
      · have := h3 c hc; simp; omega)]; simp
  have e2 : L.filter (fun c => decide (a < c.addr)) = L.drop (k + 1) := by
    conv => lhs; rw [← List.take_append_drop k L]
    rw [List.filter_append, List.filter_eq_nil_iff.2 (fun c hc => by have := hn c hc; simp; omega), List.drop_eq_getElem_cons hlt, List.filter_cons, if_neg (by simp; omega), List.filter_eq_self.2 (fun c hc => by have := h3 c hc; simp; omega)]; simp
  rw [e1, e2]; simp
set_option maxRecDepth 100000 in
theorem e_rat (A_L : Option Addr) (c_L : Nat) (L : List Rc22) (a : Int) (w : World) (hr_L : RowAt w A_L 8 enCell22 L) (hc_L : L.length ≤ c_L) (hl : L.length ≤ 1000) : Calls Try.prog 29 #[Value.agg #[Value.slice A_L L.length c_L], Value.int .u32 a] w (fun e w' => e = .returned ((atL L a).v) ∧ Fr No w w') := by
 have _hu := hc_L; have _hv := hr_L; clear _hu _hv
 have _hu := hl; clear _hu
 refine enter_E 28 Try.func29 rfl rfl (by kernel_rfl) (L := [(0, Value.agg #[Value.slice A_L L.length c_L]), (1, Value.int .u32 a)]) (by kernel_rfl) ?_
 intro ac hA
 have hW := Ws.start w No
 have hW := hW.arg hr_L
 refine wp_seq ?_
 refine wp_region_lit ?_
 refine st_s hA (Runs.cells (fun b => Value.pointer (some ⟨b, 0, none⟩)) #[Value.slice A_L L.length c_L] 45 (fun _ => by kernel_rfl) hW ?_); clear hA ac hW; intro b1 w2 hW hb1 hfw2 ac hA
 refine st_s hA (Runs.cells (fun b => Value.pointer (some ⟨b, 0, none⟩)) #[Value.int .u64 0, Value.int .i64 0, Value.int .i64 0, Value.int .u64 0, Value.int .i64 0, Value.int .i64 0, Value.int .i64 0] 31 (fun _ => by kernel_rfl) hW ?_); clear hA ac hW; intro b3 w4 hW hb3 hfw4 ac hA
 refine wpList_nil ?_
 refine thenN ?_
 refine wp_seq ?_
 refine wp_seq ?_
 refine wp_region_lit ?_
 refine st_p (Value.int .i64 0) hA ?_; clear hA ac; intro ac hA
 refine wpList_nil ?_
 refine thenN ?_
 refine wp_block ?_
 refine wp_loop_m (fun m_ ac_ wl_ => ∃ k : Nat, m_ = L.length - k ∧ (k ≤ L.length) ∧ (∀ x ∈ L.take k, decide (x.addr = a) = false) ∧ Fm 28 [] [(1, Value.int .u32 a), (2, Value.pointer (some ⟨b1, 0, none⟩)), (4, Value.pointer (some ⟨b3, 0, none⟩)), (5, Value.int .i64 ((k : Nat) : Int))] ac_ ∧ Ws w No [Cel b3 #[Value.int .u64 0, Value.int .i64 0, Value.int .i64 0, Value.int .u64 0, Value.int .i64 0, Value.int .i64 0, Value.int .i64 0] 31, Cel b1 #[Value.slice A_L L.length c_L] 45] [roR A_L 8 enCell22 L] wl_) _ ⟨0, rfl, by omega, by intro x hx; simp at hx, hA.sub ⟨⟨by kernel_rfl, by kernel_rfl⟩, ⟨by kernel_rfl, by kernel_rfl⟩, ⟨by kernel_rfl, by kernel_rfl⟩, ⟨by kernel_rfl, by kernel_rfl⟩, trivial⟩, (hW.pick [0, 1] (by decide) rfl).pickG [0] rfl⟩ ?_
 clear hA ac hW; rintro m_ ac w5 ⟨k, rfl, hk, hn, hA, hW⟩
 refine wp_seq ?_
 refine wp_seq ?_
 refine wp_region_lit ?_
 refine st_p (Value.int .i64 ((k : Nat) : Int)) hA ?_; clear hA ac; intro ac hA
 refine st_p (Value.pointer (some ⟨b1, 0, none⟩)) hA ?_; clear hA ac; intro ac hA
 refine st_q (Value.slice A_L L.length c_L) hA hW.cls (Rd.load (b := b1) (i := 0) (by kernel_rfl) (fun _ hw => (hw.1).cel 1 rfl) (by kernel_rfl)) ?_; clear hA ac; intro ac hA
 refine st_p (Value.int .i64 ((L.length : Nat) : Int)) hA ?_; clear hA ac; intro ac hA
 refine st_p (Value.bool (decide ((((k : Nat) : Int) : Int) < (((L.length : Nat) : Int) : Int)))) hA ?_; clear hA ac; intro ac hA
 refine wpList_nil ?_
 refine thenN ?_
 refine wp_cond_split (t := decide ((((k : Nat) : Int) : Int) < (((L.length : Nat) : Int) : Int))) (hA.eval (by kernel_rfl)) (fun h6 => ?_) (fun h6 => ?_)
 · skip
   have h6 := of_decide_eq_true h6
   first
   | (exfalso; clear hA hW; omega)
   | (
     refine wp_skip ?_
     refine thenN ?_
     refine wp_seq ?_
     refine wp_block ?_
     refine wp_seq ?_
     refine wp_region_lit ?_
     refine st_p (Value.pointer (some ⟨b1, 0, none⟩)) hA ?_; clear hA ac; intro ac hA
     refine st_q (Value.slice A_L L.length c_L) hA hW.cls (Rd.load (b := b1) (i := 0) (by kernel_rfl) (fun _ hw => (hw.1).cel 1 rfl) (by kernel_rfl)) ?_; clear hA ac; intro ac hA
     refine st_p (Value.int .i64 ((k : Nat) : Int)) hA ?_; clear hA ac; intro ac hA
     obtain ⟨y7, hy7⟩ : ∃ y, L[k]? = some y := ⟨_, List.getElem?_eq_getElem (by first | omega | (simp; done) | (simp; omega))⟩
     obtain ⟨b8, o9, rfl, hbb8⟩ := row_some ((hW).getG 0 rfl) hy7
     refine st_q (Value.pointer (some ⟨b8, o9 + k * 8, none⟩)) hA hW.cls (Rd.indexAddr (e := 75) (sz := 8) (b := b8) (off := o9) (n := L.length) (c := c_L) (k := k) (by kernel_rfl) (by kernel_rfl) (by first | omega | (simp; done) | (simp; omega)) (fun _ => by kernel_rfl) (fun _ => by kernel_rfl)) ?_; clear hA ac; intro ac hA
     refine st_p (Value.pointer (some ⟨b8, o9 + k * 8, none⟩)) hA ?_; clear hA ac; intro ac hA
     refine st_q (Value.int .u32 y7.addr) hA hW.cls (Rd.loadRow (b := b8) (i := o9 + k * 8) (xs := [Value.int .u32 y7.addr]) (by kernel_rfl) (fun _ hw => row_ld ((hw.1).getG 0 rfl) hy7 (Fr.refl No _) (fun h => h) 0 1 (by kernel_rfl)) (by kernel_rfl)) ?_; clear hA ac; intro ac hA
     refine st_p (Value.int .u32 a) hA ?_; clear hA ac; intro ac hA
     refine st_p (Value.bool ((y7.addr : Int) == (a : Int))) hA ?_; clear hA ac; intro ac hA
     refine wpList_nil ?_
     refine thenN ?_
     refine wp_cond_split (t := (y7.addr : Int) == (a : Int)) (hA.eval (by kernel_rfl)) (fun h10 => ?_) (fun h10 => ?_)
     · skip
       have h10 := eq_of_beq h10
       first
       | (exfalso; clear hA hW; omega)
       | (
         refine wp_seq ?_
         refine wp_region_lit ?_
         refine st_p (Value.pointer (some ⟨b1, 0, none⟩)) hA ?_; clear hA ac; intro ac hA
         refine st_q (Value.slice (some ⟨b8, o9, none⟩) L.length c_L) hA hW.cls (Rd.load (b := b1) (i := 0) (by kernel_rfl) (fun _ hw => (hw.1).cel 1 rfl) (by kernel_rfl)) ?_; clear hA ac; intro ac hA
         refine st_p (Value.int .i64 ((k : Nat) : Int)) hA ?_; clear hA ac; intro ac hA
         refine st_q (Value.pointer (some ⟨b8, o9 + k * 8, none⟩)) hA hW.cls (Rd.indexAddr (e := 75) (sz := 8) (b := b8) (off := o9) (n := L.length) (c := c_L) (k := k) (by kernel_rfl) (by kernel_rfl) (by first | omega | (simp; done) | (simp; omega)) (fun _ => by kernel_rfl) (fun _ => by kernel_rfl)) ?_; clear hA ac; intro ac hA
         refine st_p (Value.pointer (some ⟨b8, o9 + k * 8 + 1, none⟩)) hA ?_; clear hA ac; intro ac hA
         refine st_q (Value.agg #[Value.int .u64 y7.x.wr, Value.int .i64 y7.x.ws.f, Value.int .i64 y7.x.ws.pc, Value.int .u64 y7.x.rd, Value.int .i64 y7.x.rs.f, Value.int .i64 y7.x.rs.pc, Value.int .i64 y7.x.vec]) hA hW.cls (Rd.loadRow (b := b8) (i := o9 + k * 8 + 1) (xs := [Value.int .u64 y7.x.wr, Value.int .i64 y7.x.ws.f, Value.int .i64 y7.x.ws.pc, Value.int .u64 y7.x.rd, Value.int .i64 y7.x.rs.f, Value.int .i64 y7.x.rs.pc, Value.int .i64 y7.x.vec]) (by kernel_rfl) (fun _ hw => row_ld ((hw.1).getG 0 rfl) hy7 (Fr.refl No _) (fun h => h) 1 7 (by kernel_rfl)) (by kernel_rfl)) ?_; clear hA ac; intro ac hA
         refine st_s hA (Runs.store (v := Value.agg #[Value.int .u64 y7.x.wr, Value.int .i64 y7.x.ws.f, Value.int .i64 y7.x.ws.pc, Value.int .u64 y7.x.rd, Value.int .i64 y7.x.rs.f, Value.int .i64 y7.x.rs.pc, Value.int .i64 y7.x.vec]) (b := b3) (j := 0) (n := 7) (cs' := #[Value.int .u64 y7.x.wr, Value.int .i64 y7.x.ws.f, Value.int .i64 y7.x.ws.pc, Value.int .u64 y7.x.rd, Value.int .i64 y7.x.rs.f, Value.int .i64 y7.x.rs.pc, Value.int .i64 y7.x.vec]) (H' := [Cel b3 #[Value.int .u64 y7.x.wr, Value.int .i64 y7.x.ws.f, Value.int .i64 y7.x.ws.pc, Value.int .u64 y7.x.rd, Value.int .i64 y7.x.rs.f, Value.int .i64 y7.x.rs.pc, Value.int .i64 y7.x.vec] 31, Cel b1 #[Value.slice (some ⟨b8, o9, none⟩) L.length c_L] 45]) (by kernel_rfl) (by kernel_rfl) (by kernel_rfl) (by kernel_rfl) (by kernel_rfl) hW 0 (by rfl) (Nat.le_of_ble_eq_true (by kernel_rfl)) (by kernel_rfl) (by rfl) ?_); clear hA ac hW; intro w11 hW ac hA
         refine wpList_nil ?_
         refine thenN ?_
         refine wp_ret ?_
         refine blkR ?_
         refine thenR ?_
         refine thenR ?_
         refine blkR ?_
         refine thenR ?_
         refine ret1 (v := Value.agg #[Value.int .u64 y7.x.wr, Value.int .i64 y7.x.ws.f, Value.int .i64 y7.x.ws.pc, Value.int .u64 y7.x.rd, Value.int .i64 y7.x.rs.f, Value.int .i64 y7.x.rs.pc, Value.int .i64 y7.x.vec]) (by rfl) hA (Got.cell (b := b3) (i := 0) hA (by kernel_rfl) (by kernel_rfl) (hW.cel 0 rfl) (by kernel_rfl)) ?_
         clear hA
         exact ⟨retv (by unfold atL; rw [find_some hn hy7 (decide_eq_true (by omega))]; rfl), hW.fr⟩)
     · skip
       have h10 := ne_of_beq_false h10
       first
       | (exfalso; clear hA hW; omega)
       | (
         refine wp_skip ?_
         refine blkN ?_
         refine thenN ?_
         refine wp_region_lit ?_
         refine st_p (Value.int .i64 ((k : Nat) : Int)) hA ?_; clear hA ac; intro ac hA
         refine st_q (Value.int .i64 ((k + 1 : Nat) : Int)) hA hW.cls (Rd.pureE (v0 := Value.int .i64 (IntKind.i64.wrap ((((k : Nat) : Int) : Int) + 1))) (fun _ => by kernel_rfl) (congrArg (Value.int .i64) ((w_i64 (x := (((k : Nat) : Int) : Int) + 1) (by omega) (by omega)).trans (by omega)))) ?_; clear hA ac; intro ac hA
         refine st_p (Value.int .i64 ((k + 1 : Nat) : Int)) hA ?_; clear hA ac; intro ac hA
         refine wpList_nil ?_
         refine thenN ?_
         exact ⟨L.length - (k + 1), by omega, k + 1, rfl, by omega, by intro x hx; rw [tk_snoc hy7] at hx; rcases List.mem_append.1 hx with hx | hx; exact hn x hx; (simp only [List.mem_singleton] at hx; subst hx; exact decide_eq_false (by first | assumption | omega)), hA.sub ⟨⟨by kernel_rfl, by kernel_rfl⟩, ⟨by kernel_rfl, by kernel_rfl⟩, ⟨by kernel_rfl, by kernel_rfl⟩, ⟨by kernel_rfl, by kernel_rfl⟩, trivial⟩, (hW.pick [0, 1] (by decide) rfl).pickG [0] rfl⟩))
 · skip
   have h6 := of_decide_eq_false h6
   first
   | (exfalso; clear hA hW; omega)
   | (
     refine wp_exit ?_
     refine thenX ?_
     refine thenX ?_
     refine blkX ?_
     refine thenN ?_
     refine wp_seq ?_
     refine wp_region_lit ?_
     refine st_p (Value.agg #[Value.int .u64 0, Value.int .i64 0, Value.int .i64 0, Value.int .u64 0, Value.int .i64 0, Value.int .i64 0, Value.int .i64 0]) hA ?_; clear hA ac; intro ac hA
     refine st_s hA (Runs.store (v := Value.agg #[Value.int .u64 0, Value.int .i64 0, Value.int .i64 0, Value.int .u64 0, Value.int .i64 0, Value.int .i64 0, Value.int .i64 0]) (b := b3) (j := 0) (n := 7) (cs' := #[Value.int .u64 0, Value.int .i64 0, Value.int .i64 0, Value.int .u64 0, Value.int .i64 0, Value.int .i64 0, Value.int .i64 0]) (H' := [Cel b3 #[Value.int .u64 0, Value.int .i64 0, Value.int .i64 0, Value.int .u64 0, Value.int .i64 0, Value.int .i64 0, Value.int .i64 0] 31, Cel b1 #[Value.slice A_L L.length c_L] 45]) (by kernel_rfl) (by kernel_rfl) (by kernel_rfl) (by kernel_rfl) (by kernel_rfl) hW 0 (by rfl) (Nat.le_of_ble_eq_true (by kernel_rfl)) (by kernel_rfl) (by rfl) ?_); clear hA ac hW; intro w12 hW ac hA
     refine wpList_nil ?_
     refine thenN ?_
     refine wp_ret ?_
     refine ret1 (v := Value.agg #[Value.int .u64 0, Value.int .i64 0, Value.int .i64 0, Value.int .u64 0, Value.int .i64 0, Value.int .i64 0, Value.int .i64 0]) (by rfl) hA (Got.cell (b := b3) (i := 0) hA (by kernel_rfl) (by kernel_rfl) (hW.cel 0 rfl) (by kernel_rfl)) ?_
     clear hA
     exact ⟨retv (by unfold atL; rw [find_no hn (by omega)]; rfl), hW.fr⟩)

set_option maxRecDepth 100000 in
theorem e_rall (A_L : Option Addr) (c_L : Nat) (L : List Rc22) (w : World) (hr_L : RowAt w A_L 8 enCell22 L) (hc_L : L.length ≤ c_L) (hl : L.length ≤ 1000) : Calls Try.prog 30 #[Value.agg #[Value.slice A_L L.length c_L]] w (fun e w' => ∃ O_ : List Rc22, ∃ (A_o : Option Addr) (c_o : Nat), e = .returned (Value.slice A_o (O_).length c_o) ∧ (O_ = allL L) ∧ (O_).length ≤ c_o ∧ Made (rowR 75 8 enCell22 (.slice A_o (O_).length c_o) O_) w w') := by
 have _hu := hc_L; have _hv := hr_L; clear _hu _hv
 have _hu := hl; clear _hu
 refine enter_E 29 Try.func30 rfl rfl (by kernel_rfl) (L := [(0, Value.agg #[Value.slice A_L L.length c_L])]) (by kernel_rfl) ?_
 intro ac hA
 have hW := Ws.start w No
 have hW := hW.arg hr_L
 refine wp_seq ?_
 refine wp_region_lit ?_
 refine st_s hA (Runs.cells (fun b => Value.pointer (some ⟨b, 0, none⟩)) #[Value.slice A_L L.length c_L] 45 (fun _ => by kernel_rfl) hW ?_); clear hA ac hW; intro b1 w2 hW hb1 hfw2 ac hA
 refine st_p (Value.slice none 0 0) hA ?_; clear hA ac; intro ac hA
 refine wpList_nil ?_
 refine thenN ?_
 refine wp_seq ?_
 refine wp_region_lit ?_
 refine st_p (Value.slice none 0 0) hA ?_; clear hA ac; intro ac hA
 refine wpList_nil ?_
 refine thenN ?_
 refine wp_seq ?_
 refine wp_seq ?_
 refine wp_region_lit ?_
 refine st_p (Value.int .i64 0) hA ?_; clear hA ac; intro ac hA
 refine wpList_nil ?_
 refine thenN ?_
 refine wp_block ?_
 have hW := hW.addNil 75 8 enCell22
 refine wp_loop_m (fun m_ ac_ wl_ => ∃ k : Nat, ∃ O : List Rc22, ∃ A : Option Addr, ∃ c : Nat, m_ = L.length - k ∧ (k ≤ L.length) ∧ (O = allL (L.take k)) ∧ (O.length ≤ k) ∧ (O.length ≤ c) ∧ Fm 29 [] [(1, Value.pointer (some ⟨b1, 0, none⟩)), (3, Value.slice A O.length c), (4, Value.int .i64 ((k : Nat) : Int))] ac_ ∧ Ws w No [rowR 75 8 enCell22 (Value.slice A O.length c) O, Cel b1 #[Value.slice A_L L.length c_L] 45] [roR A_L 8 enCell22 L] wl_) _ ⟨0, [], none, 0, rfl, by omega, by rfl, by simp, by simp, hA.sub ⟨⟨by kernel_rfl, by kernel_rfl⟩, ⟨by kernel_rfl, by kernel_rfl⟩, ⟨by kernel_rfl, by kernel_rfl⟩, trivial⟩, (hW.pick [0, 1] (by decide) rfl).pickG [0] rfl⟩ ?_
 clear hA ac hW; rintro m_ ac w3 ⟨k, O, A, c, rfl, hk, hO, hOl, hcO, hA, hW⟩
 refine wp_seq ?_
 refine wp_seq ?_
 refine wp_region_lit ?_
 refine st_p (Value.int .i64 ((k : Nat) : Int)) hA ?_; clear hA ac; intro ac hA
 refine st_p (Value.pointer (some ⟨b1, 0, none⟩)) hA ?_; clear hA ac; intro ac hA
 refine st_q (Value.slice A_L L.length c_L) hA hW.cls (Rd.load (b := b1) (i := 0) (by kernel_rfl) (fun _ hw => (hw.1).cel 1 rfl) (by kernel_rfl)) ?_; clear hA ac; intro ac hA
 refine st_p (Value.int .i64 ((L.length : Nat) : Int)) hA ?_; clear hA ac; intro ac hA
 refine st_p (Value.bool (decide ((((k : Nat) : Int) : Int) < (((L.length : Nat) : Int) : Int)))) hA ?_; clear hA ac; intro ac hA
 refine wpList_nil ?_
 refine thenN ?_
 refine wp_cond_split (t := decide ((((k : Nat) : Int) : Int) < (((L.length : Nat) : Int) : Int))) (hA.eval (by kernel_rfl)) (fun h4 => ?_) (fun h4 => ?_)
 · skip
   have h4 := of_decide_eq_true h4
   first
   | (exfalso; clear hA hW; omega)
   | (
     refine wp_skip ?_
     refine thenN ?_
     refine wp_seq ?_
     refine wp_block ?_
     refine wp_seq ?_
     refine wp_region_lit ?_
     refine st_p (Value.pointer (some ⟨b1, 0, none⟩)) hA ?_; clear hA ac; intro ac hA
     refine st_q (Value.slice A_L L.length c_L) hA hW.cls (Rd.load (b := b1) (i := 0) (by kernel_rfl) (fun _ hw => (hw.1).cel 1 rfl) (by kernel_rfl)) ?_; clear hA ac; intro ac hA
     refine st_p (Value.int .i64 ((k : Nat) : Int)) hA ?_; clear hA ac; intro ac hA
     obtain ⟨y5, hy5⟩ : ∃ y, L[k]? = some y := ⟨_, List.getElem?_eq_getElem (by first | omega | (simp; done) | (simp; omega))⟩
     obtain ⟨b6, o7, rfl, hbb6⟩ := row_some ((hW).getG 0 rfl) hy5
     refine st_q (Value.pointer (some ⟨b6, o7 + k * 8, none⟩)) hA hW.cls (Rd.indexAddr (e := 75) (sz := 8) (b := b6) (off := o7) (n := L.length) (c := c_L) (k := k) (by kernel_rfl) (by kernel_rfl) (by first | omega | (simp; done) | (simp; omega)) (fun _ => by kernel_rfl) (fun _ => by kernel_rfl)) ?_; clear hA ac; intro ac hA
     refine st_p (Value.pointer (some ⟨b6, o7 + k * 8 + 1, none⟩)) hA ?_; clear hA ac; intro ac hA
     refine st_q (Value.agg #[Value.int .u64 y5.x.wr, Value.int .i64 y5.x.ws.f, Value.int .i64 y5.x.ws.pc, Value.int .u64 y5.x.rd, Value.int .i64 y5.x.rs.f, Value.int .i64 y5.x.rs.pc, Value.int .i64 y5.x.vec]) hA hW.cls (Rd.loadRow (b := b6) (i := o7 + k * 8 + 1) (xs := [Value.int .u64 y5.x.wr, Value.int .i64 y5.x.ws.f, Value.int .i64 y5.x.ws.pc, Value.int .u64 y5.x.rd, Value.int .i64 y5.x.rs.f, Value.int .i64 y5.x.rs.pc, Value.int .i64 y5.x.vec]) (by kernel_rfl) (fun _ hw => row_ld ((hw.1).getG 0 rfl) hy5 (Fr.refl No _) (fun h => h) 1 7 (by kernel_rfl)) (by kernel_rfl)) ?_; clear hA ac; intro ac hA
     refine st_p (Value.agg #[Value.int .u64 0, Value.int .i64 0, Value.int .i64 0, Value.int .u64 0, Value.int .i64 0, Value.int .i64 0, Value.int .i64 0]) hA ?_; clear hA ac; intro ac hA
     refine st_q (Value.bool (!decide (y5.x = (⟨0, (⟨0, 0⟩ : Site), 0, (⟨0, 0⟩ : Site), 0⟩ : Shade)))) hA hW.cls (Rd.neS (u := y5.x.v) (v := (⟨0, (⟨0, 0⟩ : Site), 0, (⟨0, 0⟩ : Site), 0⟩ : Shade).v) (by kernel_rfl) (by kernel_rfl) rfl rfl (by kernel_rfl) (fun w => eq_Shade w y5.x (⟨0, (⟨0, 0⟩ : Site), 0, (⟨0, 0⟩ : Site), 0⟩ : Shade))) ?_; clear hA ac; intro ac hA
     refine wpList_nil ?_
     refine thenN ?_
     refine wp_cond_split (t := !decide (y5.x = (⟨0, (⟨0, 0⟩ : Site), 0, (⟨0, 0⟩ : Site), 0⟩ : Shade))) (hA.eval (by kernel_rfl)) (fun h8 => ?_) (fun h8 => ?_)
     · skip
       have h8 := not_t h8
       have h8 := of_decide_eq_false h8
       have h8e := fun e => h8 ((Shade.eqi _ _).2 e)
       first
       | (exfalso; clear hA hW; omega)
       | (
         refine wp_region_lit ?_
         refine st_p (Value.slice A O.length c) hA ?_; clear hA ac; intro ac hA
         refine st_p (Value.pointer (some ⟨b1, 0, none⟩)) hA ?_; clear hA ac; intro ac hA
         refine st_q (Value.slice (some ⟨b6, o7, none⟩) L.length c_L) hA hW.cls (Rd.load (b := b1) (i := 0) (by kernel_rfl) (fun _ hw => (hw.1).cel 1 rfl) (by kernel_rfl)) ?_; clear hA ac; intro ac hA
         refine st_p (Value.int .i64 ((k : Nat) : Int)) hA ?_; clear hA ac; intro ac hA
         refine st_q (Value.pointer (some ⟨b6, o7 + k * 8, none⟩)) hA hW.cls (Rd.indexAddr (e := 75) (sz := 8) (b := b6) (off := o7) (n := L.length) (c := c_L) (k := k) (by kernel_rfl) (by kernel_rfl) (by first | omega | (simp; done) | (simp; omega)) (fun _ => by kernel_rfl) (fun _ => by kernel_rfl)) ?_; clear hA ac; intro ac hA
         refine st_q (Value.agg #[Value.int .u32 y5.addr, Value.int .u64 y5.x.wr, Value.int .i64 y5.x.ws.f, Value.int .i64 y5.x.ws.pc, Value.int .u64 y5.x.rd, Value.int .i64 y5.x.rs.f, Value.int .i64 y5.x.rs.pc, Value.int .i64 y5.x.vec]) hA hW.cls (Rd.loadRow (b := b6) (i := o7 + k * 8) (xs := [Value.int .u32 y5.addr, Value.int .u64 y5.x.wr, Value.int .i64 y5.x.ws.f, Value.int .i64 y5.x.ws.pc, Value.int .u64 y5.x.rd, Value.int .i64 y5.x.rs.f, Value.int .i64 y5.x.rs.pc, Value.int .i64 y5.x.vec]) (by kernel_rfl) (fun _ hw => row_ld ((hw.1).getG 0 rfl) hy5 (Fr.refl No _) (fun h => h) 0 8 (by kernel_rfl)) (by kernel_rfl)) ?_; clear hA ac; intro ac hA
         refine st_s hA (Runs.cells (fun b => Value.slice (some ⟨b, 0, none⟩) 1 1) #[Value.int .u32 y5.addr, Value.int .u64 y5.x.wr, Value.int .i64 y5.x.ws.f, Value.int .i64 y5.x.ws.pc, Value.int .u64 y5.x.rd, Value.int .i64 y5.x.rs.f, Value.int .i64 y5.x.rs.pc, Value.int .i64 y5.x.vec] 75 (fun _ => by kernel_rfl) hW ?_); clear hA ac hW; intro b9 w10 hW hb9 hfw10 ac hA
         refine st_s hA (Runs.appOwn (B := (some ⟨b9, 0, none⟩)) (k := 1) (E := 75) (sz := 8) (en := enCell22) (l := O) (m := ([y5] : List Rc22)) (i := 1) (by kernel_rfl) (by kernel_rfl) elt_Rc22 (by kernel_rfl) hW rfl (rowAt_cel ((hW).cel 0 rfl) ([y5] : List Rc22) (by rfl) elt_Rc22.len) (by first | omega | (simp; done) | (simp; omega)) (by first | omega | (simp; done) | (simp; omega)) ?_); clear hA ac hW; intro A11 c12 w13 hW hcc12 ac hA
         refine st_p (Value.slice A11 (O ++ ([y5] : List Rc22)).length c12) hA ?_; clear hA ac; intro ac hA
         refine wpList_nil ?_
         refine blkN ?_
         refine thenN ?_
         refine wp_region_lit ?_
         refine st_p (Value.int .i64 ((k : Nat) : Int)) hA ?_; clear hA ac; intro ac hA
         refine st_q (Value.int .i64 ((k + 1 : Nat) : Int)) hA hW.cls (Rd.pureE (v0 := Value.int .i64 (IntKind.i64.wrap ((((k : Nat) : Int) : Int) + 1))) (fun _ => by kernel_rfl) (congrArg (Value.int .i64) ((w_i64 (x := (((k : Nat) : Int) : Int) + 1) (by omega) (by omega)).trans (by omega)))) ?_; clear hA ac; intro ac hA
         refine st_p (Value.int .i64 ((k + 1 : Nat) : Int)) hA ?_; clear hA ac; intro ac hA
         refine wpList_nil ?_
         refine thenN ?_
         exact ⟨L.length - (k + 1), by omega, k + 1, O ++ ([y5] : List Rc22), A11, c12, rfl, by omega, by rw [all_y hy5 h8, ← hO], by first | omega | (simp; omega), by exact hcc12, hA.sub ⟨⟨by kernel_rfl, by kernel_rfl⟩, ⟨by kernel_rfl, by kernel_rfl⟩, ⟨by kernel_rfl, by kernel_rfl⟩, trivial⟩, (hW.pick [1, 2] (by decide) rfl).pickG [0] rfl⟩)
     · skip
       have h8 := not_f h8
       have h8 := of_decide_eq_true h8
       have h8e := (Shade.eqi _ _).1 h8
       first
       | (exfalso; clear hA hW; omega)
       | (
         refine wp_skip ?_
         refine blkN ?_
         refine thenN ?_
         refine wp_region_lit ?_
         refine st_p (Value.int .i64 ((k : Nat) : Int)) hA ?_; clear hA ac; intro ac hA
         refine st_q (Value.int .i64 ((k + 1 : Nat) : Int)) hA hW.cls (Rd.pureE (v0 := Value.int .i64 (IntKind.i64.wrap ((((k : Nat) : Int) : Int) + 1))) (fun _ => by kernel_rfl) (congrArg (Value.int .i64) ((w_i64 (x := (((k : Nat) : Int) : Int) + 1) (by omega) (by omega)).trans (by omega)))) ?_; clear hA ac; intro ac hA
         refine st_p (Value.int .i64 ((k + 1 : Nat) : Int)) hA ?_; clear hA ac; intro ac hA
         refine wpList_nil ?_
         refine thenN ?_
         exact ⟨L.length - (k + 1), by omega, k + 1, O, A, c, rfl, by omega, by rw [all_n hy5 h8, ← hO], by first | omega | (simp; omega), by exact hcO, hA.sub ⟨⟨by kernel_rfl, by kernel_rfl⟩, ⟨by kernel_rfl, by kernel_rfl⟩, ⟨by kernel_rfl, by kernel_rfl⟩, trivial⟩, (hW.pick [0, 1] (by decide) rfl).pickG [0] rfl⟩))
 · skip
   have h4 := of_decide_eq_false h4
   first
   | (exfalso; clear hA hW; omega)
   | (
     refine wp_exit ?_
     refine thenX ?_
     refine thenX ?_
     refine blkX ?_
     refine thenN ?_
     refine wp_seq ?_
     refine wp_region_lit ?_
     refine st_p (Value.slice A O.length c) hA ?_; clear hA ac; intro ac hA
     refine st_p (Value.slice A O.length c) hA ?_; clear hA ac; intro ac hA
     refine wpList_nil ?_
     refine thenN ?_
     refine wp_ret ?_
     refine ret1 (v := Value.slice A O.length c) (by rfl) hA (Got.tmp hA (by kernel_rfl) (by kernel_rfl)) ?_
     clear hA
     rw [List.take_of_length_le (by omega)] at hO
     exact ⟨O, A, c, by first | rfl | (simp; done), by exact hO, (own_cap ((hW).get 0 rfl)), hW.madeRow 0 rfl⟩)

set_option maxRecDepth 100000 in
theorem e_rvec (A_L : Option Addr) (c_L : Nat) (L : List Rc22) (w : World) (hr_L : RowAt w A_L 8 enCell22 L) (hc_L : L.length ≤ c_L) (hl : L.length ≤ 1000) : Calls Try.prog 32 #[Value.agg #[Value.slice A_L L.length c_L]] w (fun e w' => ∃ O_ : List Int, ∃ (A_o : Option Addr) (c_o : Nat), e = .returned (Value.slice A_o (O_).length c_o) ∧ (O_ = vecL L) ∧ (O_).length ≤ c_o ∧ Made (rowR 35 1 enU4 (.slice A_o (O_).length c_o) O_) w w') := by
 have _hu := hc_L; have _hv := hr_L; clear _hu _hv
 have _hu := hl; clear _hu
 refine enter_E 30 Try.func32 rfl rfl (by kernel_rfl) (L := [(0, Value.agg #[Value.slice A_L L.length c_L])]) (by kernel_rfl) ?_
 intro ac hA
 have hW := Ws.start w No
 have hW := hW.arg hr_L
 refine wp_seq ?_
 refine wp_region_lit ?_
 refine st_s hA (Runs.cells (fun b => Value.pointer (some ⟨b, 0, none⟩)) #[Value.slice A_L L.length c_L] 45 (fun _ => by kernel_rfl) hW ?_); clear hA ac hW; intro b1 w2 hW hb1 hfw2 ac hA
 refine st_p (Value.slice none 0 0) hA ?_; clear hA ac; intro ac hA
 refine wpList_nil ?_
 refine thenN ?_
 refine wp_seq ?_
 refine wp_region_lit ?_
 refine st_p (Value.slice none 0 0) hA ?_; clear hA ac; intro ac hA
 refine wpList_nil ?_
 refine thenN ?_
 refine wp_seq ?_
 refine wp_seq ?_
 refine wp_region_lit ?_
 refine st_p (Value.int .i64 0) hA ?_; clear hA ac; intro ac hA
 refine wpList_nil ?_
 refine thenN ?_
 refine wp_block ?_
 have hW := hW.addNil 35 1 enU4
 refine wp_loop_m (fun m_ ac_ wl_ => ∃ k : Nat, ∃ O : List Int, ∃ A : Option Addr, ∃ c : Nat, m_ = L.length - k ∧ (k ≤ L.length) ∧ (O = vecL (L.take k)) ∧ (O.length ≤ k) ∧ (O.length ≤ c) ∧ Fm 30 [] [(1, Value.pointer (some ⟨b1, 0, none⟩)), (3, Value.slice A O.length c), (4, Value.int .i64 ((k : Nat) : Int))] ac_ ∧ Ws w No [rowR 35 1 enU4 (Value.slice A O.length c) O, Cel b1 #[Value.slice A_L L.length c_L] 45] [roR A_L 8 enCell22 L] wl_) _ ⟨0, [], none, 0, rfl, by omega, by rfl, by simp, by simp, hA.sub ⟨⟨by kernel_rfl, by kernel_rfl⟩, ⟨by kernel_rfl, by kernel_rfl⟩, ⟨by kernel_rfl, by kernel_rfl⟩, trivial⟩, (hW.pick [0, 1] (by decide) rfl).pickG [0] rfl⟩ ?_
 clear hA ac hW; rintro m_ ac w3 ⟨k, O, A, c, rfl, hk, hO, hOl, hcO, hA, hW⟩
 refine wp_seq ?_
 refine wp_seq ?_
 refine wp_region_lit ?_
 refine st_p (Value.int .i64 ((k : Nat) : Int)) hA ?_; clear hA ac; intro ac hA
 refine st_p (Value.pointer (some ⟨b1, 0, none⟩)) hA ?_; clear hA ac; intro ac hA
 refine st_q (Value.slice A_L L.length c_L) hA hW.cls (Rd.load (b := b1) (i := 0) (by kernel_rfl) (fun _ hw => (hw.1).cel 1 rfl) (by kernel_rfl)) ?_; clear hA ac; intro ac hA
 refine st_p (Value.int .i64 ((L.length : Nat) : Int)) hA ?_; clear hA ac; intro ac hA
 refine st_p (Value.bool (decide ((((k : Nat) : Int) : Int) < (((L.length : Nat) : Int) : Int)))) hA ?_; clear hA ac; intro ac hA
 refine wpList_nil ?_
 refine thenN ?_
 refine wp_cond_split (t := decide ((((k : Nat) : Int) : Int) < (((L.length : Nat) : Int) : Int))) (hA.eval (by kernel_rfl)) (fun h4 => ?_) (fun h4 => ?_)
 · skip
   have h4 := of_decide_eq_true h4
   first
   | (exfalso; clear hA hW; omega)
   | (
     refine wp_skip ?_
     refine thenN ?_
     refine wp_seq ?_
     refine wp_block ?_
     refine wp_seq ?_
     refine wp_region_lit ?_
     refine st_p (Value.pointer (some ⟨b1, 0, none⟩)) hA ?_; clear hA ac; intro ac hA
     refine st_q (Value.slice A_L L.length c_L) hA hW.cls (Rd.load (b := b1) (i := 0) (by kernel_rfl) (fun _ hw => (hw.1).cel 1 rfl) (by kernel_rfl)) ?_; clear hA ac; intro ac hA
     refine st_p (Value.int .i64 ((k : Nat) : Int)) hA ?_; clear hA ac; intro ac hA
     obtain ⟨y5, hy5⟩ : ∃ y, L[k]? = some y := ⟨_, List.getElem?_eq_getElem (by first | omega | (simp; done) | (simp; omega))⟩
     obtain ⟨b6, o7, rfl, hbb6⟩ := row_some ((hW).getG 0 rfl) hy5
     refine st_q (Value.pointer (some ⟨b6, o7 + k * 8, none⟩)) hA hW.cls (Rd.indexAddr (e := 75) (sz := 8) (b := b6) (off := o7) (n := L.length) (c := c_L) (k := k) (by kernel_rfl) (by kernel_rfl) (by first | omega | (simp; done) | (simp; omega)) (fun _ => by kernel_rfl) (fun _ => by kernel_rfl)) ?_; clear hA ac; intro ac hA
     refine st_p (Value.pointer (some ⟨b6, o7 + k * 8 + 1, none⟩)) hA ?_; clear hA ac; intro ac hA
     refine st_p (Value.pointer (some ⟨b6, o7 + k * 8 + 1 + 6, none⟩)) hA ?_; clear hA ac; intro ac hA
     refine st_q (Value.int .i64 y5.x.vec) hA hW.cls (Rd.loadRow (b := b6) (i := o7 + k * 8 + 1 + 6) (xs := [Value.int .i64 y5.x.vec]) (by kernel_rfl) (fun _ hw => row_ld ((hw.1).getG 0 rfl) hy5 (Fr.refl No _) (fun h => h) 7 1 (by kernel_rfl)) (by kernel_rfl)) ?_; clear hA ac; intro ac hA
     refine st_p (Value.bool (decide ((y5.x.vec : Int) > (0 : Int)))) hA ?_; clear hA ac; intro ac hA
     refine wpList_nil ?_
     refine thenN ?_
     refine wp_cond_split (t := decide ((y5.x.vec : Int) > (0 : Int))) (hA.eval (by kernel_rfl)) (fun h8 => ?_) (fun h8 => ?_)
     · skip
       have h8 := of_decide_eq_true h8
       first
       | (exfalso; clear hA hW; omega)
       | (
         refine wp_region_lit ?_
         refine st_p (Value.slice A O.length c) hA ?_; clear hA ac; intro ac hA
         refine st_p (Value.pointer (some ⟨b1, 0, none⟩)) hA ?_; clear hA ac; intro ac hA
         refine st_q (Value.slice (some ⟨b6, o7, none⟩) L.length c_L) hA hW.cls (Rd.load (b := b1) (i := 0) (by kernel_rfl) (fun _ hw => (hw.1).cel 1 rfl) (by kernel_rfl)) ?_; clear hA ac; intro ac hA
         refine st_p (Value.int .i64 ((k : Nat) : Int)) hA ?_; clear hA ac; intro ac hA
         refine st_q (Value.pointer (some ⟨b6, o7 + k * 8, none⟩)) hA hW.cls (Rd.indexAddr (e := 75) (sz := 8) (b := b6) (off := o7) (n := L.length) (c := c_L) (k := k) (by kernel_rfl) (by kernel_rfl) (by first | omega | (simp; done) | (simp; omega)) (fun _ => by kernel_rfl) (fun _ => by kernel_rfl)) ?_; clear hA ac; intro ac hA
         refine st_p (Value.pointer (some ⟨b6, o7 + k * 8, none⟩)) hA ?_; clear hA ac; intro ac hA
         refine st_q (Value.int .u32 y5.addr) hA hW.cls (Rd.loadRow (b := b6) (i := o7 + k * 8) (xs := [Value.int .u32 y5.addr]) (by kernel_rfl) (fun _ hw => row_ld ((hw.1).getG 0 rfl) hy5 (Fr.refl No _) (fun h => h) 0 1 (by kernel_rfl)) (by kernel_rfl)) ?_; clear hA ac; intro ac hA
         refine st_s hA (Runs.cells (fun b => Value.slice (some ⟨b, 0, none⟩) 1 1) #[Value.int .u32 y5.addr] 35 (fun _ => by kernel_rfl) hW ?_); clear hA ac hW; intro b9 w10 hW hb9 hfw10 ac hA
         refine st_s hA (Runs.appOwn (B := (some ⟨b9, 0, none⟩)) (k := 1) (E := 35) (sz := 1) (en := enU4) (l := O) (m := ([y5.addr] : List Int)) (i := 1) (by kernel_rfl) (by kernel_rfl) elt_U4 (by kernel_rfl) hW rfl (rowAt_cel ((hW).cel 0 rfl) ([y5.addr] : List Int) (by rfl) elt_U4.len) (by first | omega | (simp; done) | (simp; omega)) (by first | omega | (simp; done) | (simp; omega)) ?_); clear hA ac hW; intro A11 c12 w13 hW hcc12 ac hA
         refine st_p (Value.slice A11 (O ++ ([y5.addr] : List Int)).length c12) hA ?_; clear hA ac; intro ac hA
         refine wpList_nil ?_
         refine blkN ?_
         refine thenN ?_
         refine wp_region_lit ?_
         refine st_p (Value.int .i64 ((k : Nat) : Int)) hA ?_; clear hA ac; intro ac hA
         refine st_q (Value.int .i64 ((k + 1 : Nat) : Int)) hA hW.cls (Rd.pureE (v0 := Value.int .i64 (IntKind.i64.wrap ((((k : Nat) : Int) : Int) + 1))) (fun _ => by kernel_rfl) (congrArg (Value.int .i64) ((w_i64 (x := (((k : Nat) : Int) : Int) + 1) (by omega) (by omega)).trans (by omega)))) ?_; clear hA ac; intro ac hA
         refine st_p (Value.int .i64 ((k + 1 : Nat) : Int)) hA ?_; clear hA ac; intro ac hA
         refine wpList_nil ?_
         refine thenN ?_
         exact ⟨L.length - (k + 1), by omega, k + 1, O ++ ([y5.addr] : List Int), A11, c12, rfl, by omega, by rw [vec_y hy5 h8, ← hO], by first | omega | (simp; omega), by exact hcc12, hA.sub ⟨⟨by kernel_rfl, by kernel_rfl⟩, ⟨by kernel_rfl, by kernel_rfl⟩, ⟨by kernel_rfl, by kernel_rfl⟩, trivial⟩, (hW.pick [1, 2] (by decide) rfl).pickG [0] rfl⟩)
     · skip
       have h8 := of_decide_eq_false h8
       first
       | (exfalso; clear hA hW; omega)
       | (
         refine wp_skip ?_
         refine blkN ?_
         refine thenN ?_
         refine wp_region_lit ?_
         refine st_p (Value.int .i64 ((k : Nat) : Int)) hA ?_; clear hA ac; intro ac hA
         refine st_q (Value.int .i64 ((k + 1 : Nat) : Int)) hA hW.cls (Rd.pureE (v0 := Value.int .i64 (IntKind.i64.wrap ((((k : Nat) : Int) : Int) + 1))) (fun _ => by kernel_rfl) (congrArg (Value.int .i64) ((w_i64 (x := (((k : Nat) : Int) : Int) + 1) (by omega) (by omega)).trans (by omega)))) ?_; clear hA ac; intro ac hA
         refine st_p (Value.int .i64 ((k + 1 : Nat) : Int)) hA ?_; clear hA ac; intro ac hA
         refine wpList_nil ?_
         refine thenN ?_
         exact ⟨L.length - (k + 1), by omega, k + 1, O, A, c, rfl, by omega, by rw [vec_n hy5 h8, ← hO], by first | omega | (simp; omega), by exact hcO, hA.sub ⟨⟨by kernel_rfl, by kernel_rfl⟩, ⟨by kernel_rfl, by kernel_rfl⟩, ⟨by kernel_rfl, by kernel_rfl⟩, trivial⟩, (hW.pick [0, 1] (by decide) rfl).pickG [0] rfl⟩))
 · skip
   have h4 := of_decide_eq_false h4
   first
   | (exfalso; clear hA hW; omega)
   | (
     refine wp_exit ?_
     refine thenX ?_
     refine thenX ?_
     refine blkX ?_
     refine thenN ?_
     refine wp_seq ?_
     refine wp_region_lit ?_
     refine st_p (Value.slice A O.length c) hA ?_; clear hA ac; intro ac hA
     refine st_p (Value.slice A O.length c) hA ?_; clear hA ac; intro ac hA
     refine wpList_nil ?_
     refine thenN ?_
     refine wp_ret ?_
     refine ret1 (v := Value.slice A O.length c) (by rfl) hA (Got.tmp hA (by kernel_rfl) (by kernel_rfl)) ?_
     clear hA
     rw [List.take_of_length_le (by omega)] at hO
     exact ⟨O, A, c, by first | rfl | (simp; done), by exact hO, (own_cap ((hW).get 0 rfl)), hW.madeRow 0 rfl⟩)

set_option maxRecDepth 100000 in
theorem e_rpages (A_L : Option Addr) (c_L : Nat) (L : List Rc22) (w : World) (hr_L : RowAt w A_L 8 enCell22 L) (hc_L : L.length ≤ c_L) (hl : L.length ≤ 1000) (hL : ∀ x ∈ L, 0 ≤ x.addr ∧ x.addr ≤ 4294967295) : Calls Try.prog 31 #[Value.agg #[Value.slice A_L L.length c_L]] w (fun e w' => ∃ ks : List Int, ∃ (A_o : Option Addr) (c_o : Nat), e = .returned (Value.slice A_o (ks).length c_o) ∧ (ks = pagesM L) ∧ (ks).length ≤ c_o ∧ Made (rowR 35 1 enU4 (.slice A_o (ks).length c_o) ks) w w') := by
 have _hu := hc_L; have _hv := hr_L; clear _hu _hv
 have _hu := hl; clear _hu
 have _hu := hL; clear _hu
 refine enter_E 38 Try.func31 rfl rfl (by kernel_rfl) (L := [(0, Value.agg #[Value.slice A_L L.length c_L])]) (by kernel_rfl) ?_
 intro ac hA
 have hW := Ws.start w No
 have hW := hW.arg hr_L
 refine wp_seq ?_
 refine wp_region_lit ?_
 refine st_s hA (Runs.cells (fun b => Value.pointer (some ⟨b, 0, none⟩)) #[Value.slice A_L L.length c_L] 45 (fun _ => by kernel_rfl) hW ?_); clear hA ac hW; intro b1 w2 hW hb1 hfw2 ac hA
 refine st_p (Value.slice none 0 0) hA ?_; clear hA ac; intro ac hA
 refine wpList_nil ?_
 refine thenN ?_
 refine wp_seq ?_
 refine wp_region_lit ?_
 refine st_p (Value.slice none 0 0) hA ?_; clear hA ac; intro ac hA
 refine wpList_nil ?_
 refine thenN ?_
 refine wp_seq ?_
 refine wp_seq ?_
 refine wp_region_lit ?_
 refine st_p (Value.int .i64 0) hA ?_; clear hA ac; intro ac hA
 refine wpList_nil ?_
 refine thenN ?_
 refine wp_block ?_
 have hW := hW.addNil 35 1 enU4
 refine wp_loop_m (fun m_ ac_ wl_ => ∃ k : Nat, ∃ O : List Int, ∃ A : Option Addr, ∃ c : Nat, m_ = L.length - k ∧ (k ≤ L.length) ∧ (O = (L.take k).foldl pgStep []) ∧ (O.length ≤ k) ∧ (O.length ≤ c) ∧ Fm 38 [] [(1, Value.pointer (some ⟨b1, 0, none⟩)), (3, Value.slice A O.length c), (4, Value.int .i64 ((k : Nat) : Int))] ac_ ∧ Ws w No [rowR 35 1 enU4 (Value.slice A O.length c) O, Cel b1 #[Value.slice A_L L.length c_L] 45] [roR A_L 8 enCell22 L] wl_) _ ⟨0, [], none, 0, rfl, by omega, by rfl, by simp, by simp, hA.sub ⟨⟨by kernel_rfl, by kernel_rfl⟩, ⟨by kernel_rfl, by kernel_rfl⟩, ⟨by kernel_rfl, by kernel_rfl⟩, trivial⟩, (hW.pick [0, 1] (by decide) rfl).pickG [0] rfl⟩ ?_
 clear hA ac hW; rintro m_ ac w3 ⟨k, O, A, c, rfl, hk, hO, hOl, hcO, hA, hW⟩
 refine wp_seq ?_
 refine wp_seq ?_
 refine wp_region_lit ?_
 refine st_p (Value.int .i64 ((k : Nat) : Int)) hA ?_; clear hA ac; intro ac hA
 refine st_p (Value.pointer (some ⟨b1, 0, none⟩)) hA ?_; clear hA ac; intro ac hA
 refine st_q (Value.slice A_L L.length c_L) hA hW.cls (Rd.load (b := b1) (i := 0) (by kernel_rfl) (fun _ hw => (hw.1).cel 1 rfl) (by kernel_rfl)) ?_; clear hA ac; intro ac hA
 refine st_p (Value.int .i64 ((L.length : Nat) : Int)) hA ?_; clear hA ac; intro ac hA
 refine st_p (Value.bool (decide ((((k : Nat) : Int) : Int) < (((L.length : Nat) : Int) : Int)))) hA ?_; clear hA ac; intro ac hA
 refine wpList_nil ?_
 refine thenN ?_
 refine wp_cond_split (t := decide ((((k : Nat) : Int) : Int) < (((L.length : Nat) : Int) : Int))) (hA.eval (by kernel_rfl)) (fun h4 => ?_) (fun h4 => ?_)
 · skip
   have h4 := of_decide_eq_true h4
   first
   | (exfalso; clear hA hW; omega)
   | (
     refine wp_skip ?_
     refine thenN ?_
     refine wp_seq ?_
     refine wp_block ?_
     refine wp_seq ?_
     obtain ⟨y_, hy_⟩ : ∃ y, L[k]? = some y := ⟨_, List.getElem?_eq_getElem (by omega)⟩; have hya_ := hL _ (List.mem_of_getElem? hy_)
     refine wp_region_lit ?_
     refine st_p (Value.pointer (some ⟨b1, 0, none⟩)) hA ?_; clear hA ac; intro ac hA
     refine st_q (Value.slice A_L L.length c_L) hA hW.cls (Rd.load (b := b1) (i := 0) (by kernel_rfl) (fun _ hw => (hw.1).cel 1 rfl) (by kernel_rfl)) ?_; clear hA ac; intro ac hA
     refine st_p (Value.int .i64 ((k : Nat) : Int)) hA ?_; clear hA ac; intro ac hA
     obtain ⟨b5, o6, rfl, hbb5⟩ := row_some ((hW).getG 0 rfl) hy_
     refine st_q (Value.pointer (some ⟨b5, o6 + k * 8, none⟩)) hA hW.cls (Rd.indexAddr (e := 75) (sz := 8) (b := b5) (off := o6) (n := L.length) (c := c_L) (k := k) (by kernel_rfl) (by kernel_rfl) (by first | omega | (simp; done) | (simp; omega)) (fun _ => by kernel_rfl) (fun _ => by kernel_rfl)) ?_; clear hA ac; intro ac hA
     refine st_p (Value.pointer (some ⟨b5, o6 + k * 8, none⟩)) hA ?_; clear hA ac; intro ac hA
     refine st_q (Value.int .u32 y_.addr) hA hW.cls (Rd.loadRow (b := b5) (i := o6 + k * 8) (xs := [Value.int .u32 y_.addr]) (by kernel_rfl) (fun _ hw => row_ld ((hw.1).getG 0 rfl) hy_ (Fr.refl No _) (fun h => h) 0 1 (by kernel_rfl)) (by kernel_rfl)) ?_; clear hA ac; intro ac hA
     refine st_q (Value.int .u32 ((y_.addr : Int) / 4096)) hA hW.cls (Rd.pureE (v0 := Value.int .u32 (IntKind.u32.wrap (Int.tdiv (y_.addr : Int) 4096))) (fun _ => by kernel_rfl) (congrArg (Value.int .u32) ((congrArg IntKind.u32.wrap (quo_ (x := y_.addr) (by omega))).trans (w_u32 (by omega) (by omega))))) ?_; clear hA ac; intro ac hA
     refine st_p (Value.int .u32 ((y_.addr : Int) / 4096)) hA ?_; clear hA ac; intro ac hA
     refine wpList_nil ?_
     refine thenN ?_
     refine wp_seq ?_
     refine wp_region_lit ?_
     refine st_p (Value.slice A O.length c) hA ?_; clear hA ac; intro ac hA
     refine st_p (Value.int .i64 ((O.length : Nat) : Int)) hA ?_; clear hA ac; intro ac hA
     refine st_p (Value.bool ((((O.length : Nat) : Int) : Int) == (0 : Int))) hA ?_; clear hA ac; intro ac hA
     refine st_p (Value.bool ((((O.length : Nat) : Int) : Int) == (0 : Int))) hA ?_; clear hA ac; intro ac hA
     rcases Bool.eq_false_or_eq_true ((((O.length : Nat) : Int) : Int) == (0 : Int)) with h7 | h7
     · skip
       rw [h7] at hA
       have h7 := eq_of_beq h7
       first
       | (exfalso; clear hA hW; omega)
       | (
         refine st_k hA ?_; clear hA ac; intro ac hA
         refine st_k hA ?_; clear hA ac; intro ac hA
         refine st_k hA ?_; clear hA ac; intro ac hA
         refine st_k hA ?_; clear hA ac; intro ac hA
         refine st_k hA ?_; clear hA ac; intro ac hA
         refine st_k hA ?_; clear hA ac; intro ac hA
         refine st_k hA ?_; clear hA ac; intro ac hA
         refine st_k hA ?_; clear hA ac; intro ac hA
         refine st_p (Value.bool true) hA ?_; clear hA ac; intro ac hA
         refine wpList_nil ?_
         refine thenN ?_
         refine wp_cond_true (hA.eval (by kernel_rfl)) ?_
         refine wp_region_lit ?_
         refine st_p (Value.slice A O.length c) hA ?_; clear hA ac; intro ac hA
         refine st_p (Value.int .u32 ((y_.addr : Int) / 4096)) hA ?_; clear hA ac; intro ac hA
         refine st_s hA (Runs.cells (fun b => Value.slice (some ⟨b, 0, none⟩) 1 1) #[Value.int .u32 ((y_.addr : Int) / 4096)] 35 (fun _ => by kernel_rfl) hW ?_); clear hA ac hW; intro b8 w9 hW hb8 hfw9 ac hA
         refine st_s hA (Runs.appOwn (B := (some ⟨b8, 0, none⟩)) (k := 1) (E := 35) (sz := 1) (en := enU4) (l := O) (m := ([(y_.addr : Int) / 4096] : List Int)) (i := 1) (by kernel_rfl) (by kernel_rfl) elt_U4 (by kernel_rfl) hW rfl (rowAt_cel ((hW).cel 0 rfl) ([(y_.addr : Int) / 4096] : List Int) (by rfl) elt_U4.len) (by first | omega | (simp; done) | (simp; omega)) (by first | omega | (simp; done) | (simp; omega)) ?_); clear hA ac hW; intro A10 c11 w12 hW hcc11 ac hA
         refine st_p (Value.slice A10 (O ++ ([(y_.addr : Int) / 4096] : List Int)).length c11) hA ?_; clear hA ac; intro ac hA
         refine wpList_nil ?_
         refine blkN ?_
         refine thenN ?_
         refine wp_region_lit ?_
         refine st_p (Value.int .i64 ((k : Nat) : Int)) hA ?_; clear hA ac; intro ac hA
         refine st_q (Value.int .i64 ((k + 1 : Nat) : Int)) hA hW.cls (Rd.pureE (v0 := Value.int .i64 (IntKind.i64.wrap ((((k : Nat) : Int) : Int) + 1))) (fun _ => by kernel_rfl) (congrArg (Value.int .i64) ((w_i64 (x := (((k : Nat) : Int) : Int) + 1) (by omega) (by omega)).trans (by omega)))) ?_; clear hA ac; intro ac hA
         refine st_p (Value.int .i64 ((k + 1 : Nat) : Int)) hA ?_; clear hA ac; intro ac hA
         refine wpList_nil ?_
         refine thenN ?_
         exact ⟨L.length - (k + 1), by omega, k + 1, O ++ ([(y_.addr : Int) / 4096] : List Int), A10, c11, rfl, by omega, by rw [foldl_snoc hy_, ← hO]; unfold pgStep; rw [if_neg (by rw [show O = [] from List.eq_nil_of_length_eq_zero (by omega)]; simp)], by first | omega | (simp; omega), by exact hcc11, hA.sub ⟨⟨by kernel_rfl, by kernel_rfl⟩, ⟨by kernel_rfl, by kernel_rfl⟩, ⟨by kernel_rfl, by kernel_rfl⟩, trivial⟩, (hW.pick [1, 2] (by decide) rfl).pickG [0] rfl⟩)
     · skip
       rw [h7] at hA
       have h7 := ne_of_beq_false h7
       first
       | (exfalso; clear hA hW; omega)
       | (
         refine st_p (Value.slice A O.length c) hA ?_; clear hA ac; intro ac hA
         refine st_p (Value.slice A O.length c) hA ?_; clear hA ac; intro ac hA
         refine st_p (Value.int .i64 ((O.length : Nat) : Int)) hA ?_; clear hA ac; intro ac hA
         refine st_q (Value.int .i64 ((((O.length : Nat) : Int) : Int) - 1)) hA hW.cls (Rd.pureE (v0 := Value.int .i64 (IntKind.i64.wrap ((((O.length : Nat) : Int) : Int) - 1))) (fun _ => by kernel_rfl) (congrArg (Value.int .i64) ((w_i64 (x := (((O.length : Nat) : Int) : Int) - 1) (by omega) (by omega)).trans (by omega)))) ?_; clear hA ac; intro ac hA
         obtain ⟨y13, hy13⟩ : ∃ y, O[Int.toNat ((((O.length : Nat) : Int) : Int) - 1)]? = some y := ⟨_, List.getElem?_eq_getElem (by first | omega | (simp; done) | (simp; omega))⟩
         obtain ⟨b14, o15, rfl, hbb14⟩ := row_some (rowR_at ((hW).get 0 rfl) elt_U4.len) hy13
         refine st_q (Value.pointer (some ⟨b14, o15 + (Int.toNat ((((O.length : Nat) : Int) : Int) - 1)) * 1, none⟩)) hA hW.cls (Rd.indexAddrI (e := 35) (sz := 1) (b := b14) (off := o15) (n := O.length) (c := c) (k := (((O.length : Nat) : Int) : Int) - 1) (by kernel_rfl) (by kernel_rfl) (by omega) (by first | omega | (simp; done) | (simp; omega)) (fun _ => by kernel_rfl) (fun _ => by kernel_rfl)) ?_; clear hA ac; intro ac hA
         refine st_q (Value.int .u32 y13) hA hW.cls (Rd.loadRow (b := b14) (i := o15 + (Int.toNat ((((O.length : Nat) : Int) : Int) - 1)) * 1) (xs := [Value.int .u32 y13]) (by kernel_rfl) (fun _ hw => row_ld (rowR_at ((hw.1).get 0 rfl) elt_U4.len) hy13 (Fr.refl No _) (fun h => h) 0 1 (by kernel_rfl)) (by kernel_rfl)) ?_; clear hA ac; intro ac hA
         refine st_p (Value.int .u32 ((y_.addr : Int) / 4096)) hA ?_; clear hA ac; intro ac hA
         refine st_p (Value.bool ((y13 : Int) != ((y_.addr : Int) / 4096 : Int))) hA ?_; clear hA ac; intro ac hA
         refine st_p (Value.bool ((y13 : Int) != ((y_.addr : Int) / 4096 : Int))) hA ?_; clear hA ac; intro ac hA
         refine wpList_nil ?_
         refine thenN ?_
         refine wp_cond_split (t := (y13 : Int) != ((y_.addr : Int) / 4096 : Int)) (hA.eval (by kernel_rfl)) (fun h16 => ?_) (fun h16 => ?_)
         · skip
           have h16 := bne_iff_ne.1 h16
           first
           | (exfalso; clear hA hW; omega)
           | (
             refine wp_region_lit ?_
             refine st_p (Value.slice (some ⟨b14, o15, none⟩) O.length c) hA ?_; clear hA ac; intro ac hA
             refine st_p (Value.int .u32 ((y_.addr : Int) / 4096)) hA ?_; clear hA ac; intro ac hA
             refine st_s hA (Runs.cells (fun b => Value.slice (some ⟨b, 0, none⟩) 1 1) #[Value.int .u32 ((y_.addr : Int) / 4096)] 35 (fun _ => by kernel_rfl) hW ?_); clear hA ac hW; intro b17 w18 hW hb17 hfw18 ac hA
             refine st_s hA (Runs.appOwn (B := (some ⟨b17, 0, none⟩)) (k := 1) (E := 35) (sz := 1) (en := enU4) (l := O) (m := ([(y_.addr : Int) / 4096] : List Int)) (i := 1) (by kernel_rfl) (by kernel_rfl) elt_U4 (by kernel_rfl) hW rfl (rowAt_cel ((hW).cel 0 rfl) ([(y_.addr : Int) / 4096] : List Int) (by rfl) elt_U4.len) (by first | omega | (simp; done) | (simp; omega)) (by first | omega | (simp; done) | (simp; omega)) ?_); clear hA ac hW; intro A19 c20 w21 hW hcc20 ac hA
             refine st_p (Value.slice A19 (O ++ ([(y_.addr : Int) / 4096] : List Int)).length c20) hA ?_; clear hA ac; intro ac hA
             refine wpList_nil ?_
             refine blkN ?_
             refine thenN ?_
             refine wp_region_lit ?_
             refine st_p (Value.int .i64 ((k : Nat) : Int)) hA ?_; clear hA ac; intro ac hA
             refine st_q (Value.int .i64 ((k + 1 : Nat) : Int)) hA hW.cls (Rd.pureE (v0 := Value.int .i64 (IntKind.i64.wrap ((((k : Nat) : Int) : Int) + 1))) (fun _ => by kernel_rfl) (congrArg (Value.int .i64) ((w_i64 (x := (((k : Nat) : Int) : Int) + 1) (by omega) (by omega)).trans (by omega)))) ?_; clear hA ac; intro ac hA
             refine st_p (Value.int .i64 ((k + 1 : Nat) : Int)) hA ?_; clear hA ac; intro ac hA
             refine wpList_nil ?_
             refine thenN ?_
             exact ⟨L.length - (k + 1), by omega, k + 1, O ++ ([(y_.addr : Int) / 4096] : List Int), A19, c20, rfl, by omega, by rw [foldl_snoc hy_, ← hO]; unfold pgStep; rw [if_neg (by rw [last_z hy13]; simp; omega)], by first | omega | (simp; omega), by exact hcc20, hA.sub ⟨⟨by kernel_rfl, by kernel_rfl⟩, ⟨by kernel_rfl, by kernel_rfl⟩, ⟨by kernel_rfl, by kernel_rfl⟩, trivial⟩, (hW.pick [1, 2] (by decide) rfl).pickG [0] rfl⟩)
         · skip
           have h16 := of_bne_f h16
           first
           | (exfalso; clear hA hW; omega)
           | (
             refine wp_skip ?_
             refine blkN ?_
             refine thenN ?_
             refine wp_region_lit ?_
             refine st_p (Value.int .i64 ((k : Nat) : Int)) hA ?_; clear hA ac; intro ac hA
             refine st_q (Value.int .i64 ((k + 1 : Nat) : Int)) hA hW.cls (Rd.pureE (v0 := Value.int .i64 (IntKind.i64.wrap ((((k : Nat) : Int) : Int) + 1))) (fun _ => by kernel_rfl) (congrArg (Value.int .i64) ((w_i64 (x := (((k : Nat) : Int) : Int) + 1) (by omega) (by omega)).trans (by omega)))) ?_; clear hA ac; intro ac hA
             refine st_p (Value.int .i64 ((k + 1 : Nat) : Int)) hA ?_; clear hA ac; intro ac hA
             refine wpList_nil ?_
             refine thenN ?_
             exact ⟨L.length - (k + 1), by omega, k + 1, O, (some ⟨b14, o15, none⟩), c, rfl, by omega, by rw [foldl_snoc hy_, ← hO]; unfold pgStep; rw [if_pos (by rw [last_z hy13]; simp; omega)], by first | omega | (simp; omega), by exact hcO, hA.sub ⟨⟨by kernel_rfl, by kernel_rfl⟩, ⟨by kernel_rfl, by kernel_rfl⟩, ⟨by kernel_rfl, by kernel_rfl⟩, trivial⟩, (hW.pick [0, 1] (by decide) rfl).pickG [0] rfl⟩)))
 · skip
   have h4 := of_decide_eq_false h4
   first
   | (exfalso; clear hA hW; omega)
   | (
     refine wp_exit ?_
     refine thenX ?_
     refine thenX ?_
     refine blkX ?_
     refine thenN ?_
     refine wp_seq ?_
     refine wp_region_lit ?_
     refine st_p (Value.slice A O.length c) hA ?_; clear hA ac; intro ac hA
     refine st_p (Value.slice A O.length c) hA ?_; clear hA ac; intro ac hA
     refine wpList_nil ?_
     refine thenN ?_
     refine wp_ret ?_
     refine ret1 (v := Value.slice A O.length c) (by rfl) hA (Got.tmp hA (by kernel_rfl) (by kernel_rfl)) ?_
     clear hA
     rw [List.take_of_length_le (by omega)] at hO
     exact ⟨O, A, c, by first | rfl | (simp; done), by exact hO, (own_cap ((hW).get 0 rfl)), hW.madeRow 0 rfl⟩)

set_option maxRecDepth 100000 in
theorem e_rlay (A_L : Option Addr) (c_L : Nat) (L : List Rc22) (a : Int) (x : Shade) (w : World) (hr_L : RowAt w A_L 8 enCell22 L) (hc_L : L.length ≤ c_L) (hl : L.length ≤ 1000) (hr : Rise22 L) : Calls Try.prog 28 #[Value.agg #[Value.slice A_L L.length c_L], Value.int .u32 a, x.v] w (fun e w' => ∃ L' : List Rc22, ∃ (A_o : Option Addr) (c_o : Nat), e = .returned (Value.agg #[Value.slice A_o (L').length c_o]) ∧ (L' = layL L a x) ∧ (L').length ≤ c_o ∧ (roR A_o 8 enCell22 L').from_ [roR A_L 8 enCell22 L] w w' ∧ Fr No w w') := by
 have _hu := hc_L; have _hv := hr_L; clear _hu _hv
 have _hu := hl; clear _hu
 have _hu := hr; clear _hu
 refine enter_E 61 Try.func28 rfl rfl (by kernel_rfl) (L := [(0, Value.agg #[Value.slice A_L L.length c_L]), (1, Value.int .u32 a), (2, x.v)]) (by kernel_rfl) ?_
 intro ac hA
 have hW := Ws.start w No
 have hW := hW.arg hr_L
 refine wp_seq ?_
 refine wp_region_lit ?_
 refine st_s hA (Runs.cells (fun b => Value.pointer (some ⟨b, 0, none⟩)) #[Value.slice A_L L.length c_L] 45 (fun _ => by kernel_rfl) hW ?_); clear hA ac hW; intro b1 w2 hW hb1 hfw2 ac hA
 refine st_s hA (Runs.cells (fun b => Value.pointer (some ⟨b, 0, none⟩)) #[Value.int .u64 x.wr, Value.int .i64 x.ws.f, Value.int .i64 x.ws.pc, Value.int .u64 x.rd, Value.int .i64 x.rs.f, Value.int .i64 x.rs.pc, Value.int .i64 x.vec] 31 (fun _ => by kernel_rfl) hW ?_); clear hA ac hW; intro b3 w4 hW hb3 hfw4 ac hA
 refine st_s hA (Runs.cells (fun b => Value.pointer (some ⟨b, 0, none⟩)) #[Value.slice none 0 0] 45 (fun _ => by kernel_rfl) hW ?_); clear hA ac hW; intro b5 w6 hW hb5 hfw6 ac hA
 refine wpList_nil ?_
 refine thenN ?_
 refine wp_seq ?_
 refine wp_region_lit ?_
 refine st_p (Value.int .i64 0) hA ?_; clear hA ac; intro ac hA
 refine wpList_nil ?_
 refine thenN ?_
 refine wp_seq ?_
 refine wp_cut (fun ac_ wl_ => ∃ k : Nat, (k ≤ L.length) ∧ (∀ x ∈ L.take k, x.addr < a) ∧ (L.length ≤ k ∨ ∃ y, L[k]? = some y ∧ ¬ y.addr < a) ∧ Fm 61 [] [(1, Value.int .u32 a), (3, Value.pointer (some ⟨b1, 0, none⟩)), (5, Value.pointer (some ⟨b3, 0, none⟩)), (6, Value.pointer (some ⟨b5, 0, none⟩)), (7, Value.int .i64 ((k : Nat) : Int))] ac_ ∧ Ws w No [Cel b5 #[Value.slice none 0 0] 45, Cel b3 #[Value.int .u64 x.wr, Value.int .i64 x.ws.f, Value.int .i64 x.ws.pc, Value.int .u64 x.rd, Value.int .i64 x.rs.f, Value.int .i64 x.rs.pc, Value.int .i64 x.vec] 31, Cel b1 #[Value.slice A_L L.length c_L] 45] [roR A_L 8 enCell22 L] wl_) ?_ ?_
 · skip
   refine wp_block ?_
   refine wp_loop_m (fun m_ ac_ wl_ => ∃ k : Nat, m_ = L.length - k ∧ (k ≤ L.length) ∧ (∀ x ∈ L.take k, x.addr < a) ∧ Fm 61 [] [(1, Value.int .u32 a), (3, Value.pointer (some ⟨b1, 0, none⟩)), (5, Value.pointer (some ⟨b3, 0, none⟩)), (6, Value.pointer (some ⟨b5, 0, none⟩)), (7, Value.int .i64 ((k : Nat) : Int))] ac_ ∧ Ws w No [Cel b5 #[Value.slice none 0 0] 45, Cel b3 #[Value.int .u64 x.wr, Value.int .i64 x.ws.f, Value.int .i64 x.ws.pc, Value.int .u64 x.rd, Value.int .i64 x.rs.f, Value.int .i64 x.rs.pc, Value.int .i64 x.vec] 31, Cel b1 #[Value.slice A_L L.length c_L] 45] [roR A_L 8 enCell22 L] wl_) _ ⟨0, rfl, by omega, by intro x hx; simp at hx, hA.sub ⟨⟨by kernel_rfl, by kernel_rfl⟩, ⟨by kernel_rfl, by kernel_rfl⟩, ⟨by kernel_rfl, by kernel_rfl⟩, ⟨by kernel_rfl, by kernel_rfl⟩, ⟨by kernel_rfl, by kernel_rfl⟩, trivial⟩, (hW.pick [0, 1, 2] (by decide) rfl).pickG [0] rfl⟩ ?_
   clear hA ac hW; rintro m_ ac w7 ⟨k, rfl, hk, hn, hA, hW⟩
   refine wp_seq ?_
   refine wp_seq ?_
   refine wp_region_lit ?_
   refine st_p (Value.int .i64 ((k : Nat) : Int)) hA ?_; clear hA ac; intro ac hA
   refine st_p (Value.pointer (some ⟨b1, 0, none⟩)) hA ?_; clear hA ac; intro ac hA
   refine st_q (Value.slice A_L L.length c_L) hA hW.cls (Rd.load (b := b1) (i := 0) (by kernel_rfl) (fun _ hw => (hw.1).cel 2 rfl) (by kernel_rfl)) ?_; clear hA ac; intro ac hA
   refine st_p (Value.int .i64 ((L.length : Nat) : Int)) hA ?_; clear hA ac; intro ac hA
   refine st_p (Value.bool (decide ((((k : Nat) : Int) : Int) < (((L.length : Nat) : Int) : Int)))) hA ?_; clear hA ac; intro ac hA
   refine st_p (Value.bool (decide ((((k : Nat) : Int) : Int) < (((L.length : Nat) : Int) : Int)))) hA ?_; clear hA ac; intro ac hA
   rcases Bool.eq_false_or_eq_true (decide ((((k : Nat) : Int) : Int) < (((L.length : Nat) : Int) : Int))) with h8 | h8
   · skip
     rw [h8] at hA
     have h8 := of_decide_eq_true h8
     first
     | (exfalso; clear hA hW; omega)
     | (
       refine st_p (Value.pointer (some ⟨b1, 0, none⟩)) hA ?_; clear hA ac; intro ac hA
       refine st_q (Value.slice A_L L.length c_L) hA hW.cls (Rd.load (b := b1) (i := 0) (by kernel_rfl) (fun _ hw => (hw.1).cel 2 rfl) (by kernel_rfl)) ?_; clear hA ac; intro ac hA
       refine st_p (Value.int .i64 ((k : Nat) : Int)) hA ?_; clear hA ac; intro ac hA
       obtain ⟨y9, hy9⟩ : ∃ y, L[k]? = some y := ⟨_, List.getElem?_eq_getElem (by first | omega | (simp; done) | (simp; omega))⟩
       obtain ⟨b10, o11, rfl, hbb10⟩ := row_some ((hW).getG 0 rfl) hy9
       refine st_q (Value.pointer (some ⟨b10, o11 + k * 8, none⟩)) hA hW.cls (Rd.indexAddr (e := 75) (sz := 8) (b := b10) (off := o11) (n := L.length) (c := c_L) (k := k) (by kernel_rfl) (by kernel_rfl) (by first | omega | (simp; done) | (simp; omega)) (fun _ => by kernel_rfl) (fun _ => by kernel_rfl)) ?_; clear hA ac; intro ac hA
       refine st_p (Value.pointer (some ⟨b10, o11 + k * 8, none⟩)) hA ?_; clear hA ac; intro ac hA
       refine st_q (Value.int .u32 y9.addr) hA hW.cls (Rd.loadRow (b := b10) (i := o11 + k * 8) (xs := [Value.int .u32 y9.addr]) (by kernel_rfl) (fun _ hw => row_ld ((hw.1).getG 0 rfl) hy9 (Fr.refl No _) (fun h => h) 0 1 (by kernel_rfl)) (by kernel_rfl)) ?_; clear hA ac; intro ac hA
       refine st_p (Value.int .u32 a) hA ?_; clear hA ac; intro ac hA
       refine st_p (Value.bool (decide ((y9.addr : Int) < (a : Int)))) hA ?_; clear hA ac; intro ac hA
       refine st_p (Value.bool (decide ((y9.addr : Int) < (a : Int)))) hA ?_; clear hA ac; intro ac hA
       refine wpList_nil ?_
       refine thenN ?_
       refine wp_cond_split (t := decide ((y9.addr : Int) < (a : Int))) (hA.eval (by kernel_rfl)) (fun h12 => ?_) (fun h12 => ?_)
       · skip
         have h12 := of_decide_eq_true h12
         first
         | (exfalso; clear hA hW; omega)
         | (
           refine wp_skip ?_
           refine thenN ?_
           refine wp_block ?_
           refine wp_region_lit ?_
           refine st_p (Value.int .i64 ((k : Nat) : Int)) hA ?_; clear hA ac; intro ac hA
           refine st_q (Value.int .i64 ((k + 1 : Nat) : Int)) hA hW.cls (Rd.pureE (v0 := Value.int .i64 (IntKind.i64.wrap ((((k : Nat) : Int) : Int) + 1))) (fun _ => by kernel_rfl) (congrArg (Value.int .i64) ((w_i64 (x := (((k : Nat) : Int) : Int) + 1) (by omega) (by omega)).trans (by omega)))) ?_; clear hA ac; intro ac hA
           refine st_p (Value.int .i64 ((k + 1 : Nat) : Int)) hA ?_; clear hA ac; intro ac hA
           refine wpList_nil ?_
           refine blkN ?_
           refine thenN ?_
           exact ⟨L.length - (k + 1), by omega, k + 1, rfl, by omega, by intro x hx; rw [tk_snoc hy9] at hx; rcases List.mem_append.1 hx with hx | hx; exact hn x hx; (simp only [List.mem_singleton] at hx; subst hx; omega), hA.sub ⟨⟨by kernel_rfl, by kernel_rfl⟩, ⟨by kernel_rfl, by kernel_rfl⟩, ⟨by kernel_rfl, by kernel_rfl⟩, ⟨by kernel_rfl, by kernel_rfl⟩, ⟨by kernel_rfl, by kernel_rfl⟩, trivial⟩, (hW.pick [0, 1, 2] (by decide) rfl).pickG [0] rfl⟩)
       · skip
         have h12 := of_decide_eq_false h12
         first
         | (exfalso; clear hA hW; omega)
         | (
           refine wp_exit ?_
           refine thenX ?_
           refine thenX ?_
           refine blkX ?_
           exact ⟨k, by omega, by exact hn, by exact .inr ⟨_, hy9, by omega⟩, hA.sub ⟨⟨by kernel_rfl, by kernel_rfl⟩, ⟨by kernel_rfl, by kernel_rfl⟩, ⟨by kernel_rfl, by kernel_rfl⟩, ⟨by kernel_rfl, by kernel_rfl⟩, ⟨by kernel_rfl, by kernel_rfl⟩, trivial⟩, (hW.pick [0, 1, 2] (by decide) rfl).pickG [0] rfl⟩))
   · skip
     rw [h8] at hA
     have h8 := of_decide_eq_false h8
     first
     | (exfalso; clear hA hW; omega)
     | (
       refine st_k hA ?_; clear hA ac; intro ac hA
       refine st_k hA ?_; clear hA ac; intro ac hA
       refine st_k hA ?_; clear hA ac; intro ac hA
       refine st_k hA ?_; clear hA ac; intro ac hA
       refine st_k hA ?_; clear hA ac; intro ac hA
       refine st_k hA ?_; clear hA ac; intro ac hA
       refine st_k hA ?_; clear hA ac; intro ac hA
       refine st_k hA ?_; clear hA ac; intro ac hA
       refine st_p (Value.bool false) hA ?_; clear hA ac; intro ac hA
       refine wpList_nil ?_
       refine thenN ?_
       refine wp_cond_false (hA.eval (by kernel_rfl)) ?_
       refine wp_exit ?_
       refine thenX ?_
       refine thenX ?_
       refine blkX ?_
       exact ⟨k, by omega, by exact hn, by exact .inl (by omega), hA.sub ⟨⟨by kernel_rfl, by kernel_rfl⟩, ⟨by kernel_rfl, by kernel_rfl⟩, ⟨by kernel_rfl, by kernel_rfl⟩, ⟨by kernel_rfl, by kernel_rfl⟩, ⟨by kernel_rfl, by kernel_rfl⟩, trivial⟩, (hW.pick [0, 1, 2] (by decide) rfl).pickG [0] rfl⟩)
 · skip
   clear hA ac hW; rintro ac w13 ⟨k, hk, hn, he, hA, hW⟩
   refine thenN ?_
   refine wp_seq ?_
   refine wp_region_lit ?_
   refine st_p (Value.int .i64 ((k : Nat) : Int)) hA ?_; clear hA ac; intro ac hA
   refine st_p (Value.int .i64 ((k : Nat) : Int)) hA ?_; clear hA ac; intro ac hA
   refine wpList_nil ?_
   refine thenN ?_
   refine wp_seq ?_
   refine wp_cut (fun ac_ wl_ => ∃ j : Nat, (j ≤ L.length ∧ k ≤ L.length) ∧ (L.take k ++ [(⟨a, x⟩ : Cell22)] ++ L.drop j = layL L a x) ∧ Fm 61 [] [(1, Value.int .u32 a), (3, Value.pointer (some ⟨b1, 0, none⟩)), (5, Value.pointer (some ⟨b3, 0, none⟩)), (6, Value.pointer (some ⟨b5, 0, none⟩)), (7, Value.int .i64 ((k : Nat) : Int)), (8, Value.int .i64 ((j : Nat) : Int))] ac_ ∧ Ws w No [Cel b5 #[Value.slice none 0 0] 45, Cel b3 #[Value.int .u64 x.wr, Value.int .i64 x.ws.f, Value.int .i64 x.ws.pc, Value.int .u64 x.rd, Value.int .i64 x.rs.f, Value.int .i64 x.rs.pc, Value.int .i64 x.vec] 31, Cel b1 #[Value.slice A_L L.length c_L] 45] [roR A_L 8 enCell22 L] wl_) ?_ ?_
   · skip
     refine wp_seq ?_
     refine wp_region_lit ?_
     refine st_p (Value.int .i64 ((k : Nat) : Int)) hA ?_; clear hA ac; intro ac hA
     refine st_p (Value.pointer (some ⟨b1, 0, none⟩)) hA ?_; clear hA ac; intro ac hA
     refine st_q (Value.slice A_L L.length c_L) hA hW.cls (Rd.load (b := b1) (i := 0) (by kernel_rfl) (fun _ hw => (hw.1).cel 2 rfl) (by kernel_rfl)) ?_; clear hA ac; intro ac hA
     refine st_p (Value.int .i64 ((L.length : Nat) : Int)) hA ?_; clear hA ac; intro ac hA
     refine st_p (Value.bool (decide ((((k : Nat) : Int) : Int) < (((L.length : Nat) : Int) : Int)))) hA ?_; clear hA ac; intro ac hA
     refine st_p (Value.bool (decide ((((k : Nat) : Int) : Int) < (((L.length : Nat) : Int) : Int)))) hA ?_; clear hA ac; intro ac hA
     rcases Bool.eq_false_or_eq_true (decide ((((k : Nat) : Int) : Int) < (((L.length : Nat) : Int) : Int))) with h14 | h14
     · skip
       rw [h14] at hA
       have h14 := of_decide_eq_true h14
       first
       | (exfalso; clear hA hW; omega)
       | (
         refine st_p (Value.pointer (some ⟨b1, 0, none⟩)) hA ?_; clear hA ac; intro ac hA
         refine st_q (Value.slice A_L L.length c_L) hA hW.cls (Rd.load (b := b1) (i := 0) (by kernel_rfl) (fun _ hw => (hw.1).cel 2 rfl) (by kernel_rfl)) ?_; clear hA ac; intro ac hA
         refine st_p (Value.int .i64 ((k : Nat) : Int)) hA ?_; clear hA ac; intro ac hA
         obtain ⟨y15, hy15⟩ : ∃ y, L[k]? = some y := ⟨_, List.getElem?_eq_getElem (by first | omega | (simp; done) | (simp; omega))⟩
         obtain ⟨b16, o17, rfl, hbb16⟩ := row_some ((hW).getG 0 rfl) hy15
         refine st_q (Value.pointer (some ⟨b16, o17 + k * 8, none⟩)) hA hW.cls (Rd.indexAddr (e := 75) (sz := 8) (b := b16) (off := o17) (n := L.length) (c := c_L) (k := k) (by kernel_rfl) (by kernel_rfl) (by first | omega | (simp; done) | (simp; omega)) (fun _ => by kernel_rfl) (fun _ => by kernel_rfl)) ?_; clear hA ac; intro ac hA
         refine st_p (Value.pointer (some ⟨b16, o17 + k * 8, none⟩)) hA ?_; clear hA ac; intro ac hA
         refine st_q (Value.int .u32 y15.addr) hA hW.cls (Rd.loadRow (b := b16) (i := o17 + k * 8) (xs := [Value.int .u32 y15.addr]) (by kernel_rfl) (fun _ hw => row_ld ((hw.1).getG 0 rfl) hy15 (Fr.refl No _) (fun h => h) 0 1 (by kernel_rfl)) (by kernel_rfl)) ?_; clear hA ac; intro ac hA
         refine st_p (Value.int .u32 a) hA ?_; clear hA ac; intro ac hA
         refine st_p (Value.bool ((y15.addr : Int) == (a : Int))) hA ?_; clear hA ac; intro ac hA
         refine st_p (Value.bool ((y15.addr : Int) == (a : Int))) hA ?_; clear hA ac; intro ac hA
         refine wpList_nil ?_
         refine thenN ?_
         refine wp_cond_split (t := (y15.addr : Int) == (a : Int)) (hA.eval (by kernel_rfl)) (fun h18 => ?_) (fun h18 => ?_)
         · skip
           have h18 := eq_of_beq h18
           first
           | (exfalso; clear hA hW; omega)
           | (
             refine wp_region_lit ?_
             refine st_p (Value.int .i64 ((k : Nat) : Int)) hA ?_; clear hA ac; intro ac hA
             refine st_q (Value.int .i64 ((k + 1 : Nat) : Int)) hA hW.cls (Rd.pureE (v0 := Value.int .i64 (IntKind.i64.wrap ((((k : Nat) : Int) : Int) + 1))) (fun _ => by kernel_rfl) (congrArg (Value.int .i64) ((w_i64 (x := (((k : Nat) : Int) : Int) + 1) (by omega) (by omega)).trans (by omega)))) ?_; clear hA ac; intro ac hA
             refine st_p (Value.int .i64 ((k + 1 : Nat) : Int)) hA ?_; clear hA ac; intro ac hA
             refine wpList_nil ?_
             exact ⟨k + 1, by omega, by exact lay_at' hr hn hy15 (by omega), hA.sub ⟨⟨by kernel_rfl, by kernel_rfl⟩, ⟨by kernel_rfl, by kernel_rfl⟩, ⟨by kernel_rfl, by kernel_rfl⟩, ⟨by kernel_rfl, by kernel_rfl⟩, ⟨by kernel_rfl, by kernel_rfl⟩, ⟨by kernel_rfl, by kernel_rfl⟩, trivial⟩, (hW.pick [0, 1, 2] (by decide) rfl).pickG [0] rfl⟩)
         · skip
           have h18 := ne_of_beq_false h18
           first
           | (exfalso; clear hA hW; omega)
           | (
             refine wp_skip ?_
             exact ⟨k, by omega, by rcases he with h_ | ⟨y_, hy_, hl_⟩; (exfalso; omega); (have q_ := Option.some.inj (hy_.symm.trans hy15); subst q_; exact lay_at hr hn (.inr ⟨_, hy_, by omega⟩)), hA.sub ⟨⟨by kernel_rfl, by kernel_rfl⟩, ⟨by kernel_rfl, by kernel_rfl⟩, ⟨by kernel_rfl, by kernel_rfl⟩, ⟨by kernel_rfl, by kernel_rfl⟩, ⟨by kernel_rfl, by kernel_rfl⟩, ⟨by kernel_rfl, by kernel_rfl⟩, trivial⟩, (hW.pick [0, 1, 2] (by decide) rfl).pickG [0] rfl⟩))
     · skip
       rw [h14] at hA
       have h14 := of_decide_eq_false h14
       first
       | (exfalso; clear hA hW; omega)
       | (
         refine st_k hA ?_; clear hA ac; intro ac hA
         refine st_k hA ?_; clear hA ac; intro ac hA
         refine st_k hA ?_; clear hA ac; intro ac hA
         refine st_k hA ?_; clear hA ac; intro ac hA
         refine st_k hA ?_; clear hA ac; intro ac hA
         refine st_k hA ?_; clear hA ac; intro ac hA
         refine st_k hA ?_; clear hA ac; intro ac hA
         refine st_k hA ?_; clear hA ac; intro ac hA
         refine st_p (Value.bool false) hA ?_; clear hA ac; intro ac hA
         refine wpList_nil ?_
         refine thenN ?_
         refine wp_cond_false (hA.eval (by kernel_rfl)) ?_
         refine wp_skip ?_
         exact ⟨k, by omega, by exact lay_at hr hn (.inl (by omega)), hA.sub ⟨⟨by kernel_rfl, by kernel_rfl⟩, ⟨by kernel_rfl, by kernel_rfl⟩, ⟨by kernel_rfl, by kernel_rfl⟩, ⟨by kernel_rfl, by kernel_rfl⟩, ⟨by kernel_rfl, by kernel_rfl⟩, ⟨by kernel_rfl, by kernel_rfl⟩, trivial⟩, (hW.pick [0, 1, 2] (by decide) rfl).pickG [0] rfl⟩)
   · skip
     clear hA ac hW; rintro ac w19 ⟨j, hj, hly, hA, hW⟩
     refine thenN ?_
     refine wp_seq ?_
     refine wp_cut (fun ac_ wl_ => ∃ Ar7_10 : Option Addr, ∃ Ar7_15 : Option Addr, ∃ Ar7_5 : Option Addr, ∃ br7_0 : Nat, ∃ br7_9 : Nat, ∃ cr7_10 : Nat, ∃ cr7_15 : Nat, ∃ cr7_5 : Nat, (((([] : List Rc22) ++ (L.take k)) ++ ([(⟨a, x⟩ : Rc22)] : List Rc22)).length ≤ cr7_10) ∧ ((((([] : List Rc22) ++ (L.take k)) ++ ([(⟨a, x⟩ : Rc22)] : List Rc22)) ++ (L.drop j)).length ≤ cr7_15) ∧ ((([] : List Rc22) ++ (L.take k)).length ≤ cr7_5) ∧ Fm 61 [] [(1, Value.int .u32 a), (3, Value.pointer (some ⟨b1, 0, none⟩)), (6, Value.pointer (some ⟨b5, 0, none⟩)), (7, Value.int .i64 ((k : Nat) : Int)), (8, Value.int .i64 ((j : Nat) : Int))] ac_ ∧ Ws w No [Cel br7_9 #[Value.int .u32 a, Value.int .u64 x.wr, Value.int .i64 x.ws.f, Value.int .i64 x.ws.pc, Value.int .u64 x.rd, Value.int .i64 x.rs.f, Value.int .i64 x.rs.pc, Value.int .i64 x.vec] 75, rowR 75 8 enCell22 (Value.slice Ar7_15 (((([] : List Rc22) ++ (L.take k)) ++ ([(⟨a, x⟩ : Rc22)] : List Rc22)) ++ (L.drop j)).length cr7_15) (((([] : List Rc22) ++ (L.take k)) ++ ([(⟨a, x⟩ : Rc22)] : List Rc22)) ++ (L.drop j)), Cel b5 #[Value.slice Ar7_15 (((([] : List Rc22) ++ (L.take k)) ++ ([(⟨a, x⟩ : Rc22)] : List Rc22)) ++ (L.drop j)).length cr7_15] 45, Cel b3 #[Value.int .u64 x.wr, Value.int .i64 x.ws.f, Value.int .i64 x.ws.pc, Value.int .u64 x.rd, Value.int .i64 x.rs.f, Value.int .i64 x.rs.pc, Value.int .i64 x.vec] 31, Cel b1 #[Value.slice A_L L.length c_L] 45] [roR A_L 8 enCell22 L] wl_) ?_ ?_
     · refine sr_region (m := 18) (C := Ws w No [Cel b5 #[Value.slice none 0 0] 45, Cel b3 #[Value.int .u64 x.wr, Value.int .i64 x.ws.f, Value.int .i64 x.ws.pc, Value.int .u64 x.rd, Value.int .i64 x.rs.f, Value.int .i64 x.rs.pc, Value.int .i64 x.vec] 31, Cel b1 #[Value.slice A_L L.length c_L] 45] [roR A_L 8 enCell22 L]) (fun i => [2, 7, 12].contains i) (fun i => [0, 2, 5, 7, 9, 10, 12].contains i) (fun i => [1, 3, 4, 6, 8, 11, 13, 14, 16].contains i) (by kernel_rfl) (by kernel_rfl) (by kernel_rfl) (by kernel_rfl) hW ?_; clear hW; intro w20 hW hfw20 hR; have hC : Ws w No [Cel b5 #[Value.slice none 0 0] 45, Cel b3 #[Value.int .u64 x.wr, Value.int .i64 x.ws.f, Value.int .i64 x.ws.pc, Value.int .u64 x.rd, Value.int .i64 x.rs.f, Value.int .i64 x.rs.pc, Value.int .i64 x.vec] 31, Cel b1 #[Value.slice A_L L.length c_L] 45] [roR A_L 8 enCell22 L] w20 := hW.pick [0, 1, 2] (by decide) rfl
       refine sr_p 1 (Value.pointer (some ⟨b1, 0, none⟩)) hR rfl hA ?_; clear hA ac; intro ac hA
       refine sr_t 2 (Value.slice A_L L.length c_L) hR rfl hA hC (Rd.load (b := b1) (i := 0) (by kernel_rfl) (fun _ hw => (hw).cel 2 rfl) (by kernel_rfl)) ?_; clear hA ac; intro ac hA
       refine sr_p 3 (Value.int .i64 ((k : Nat) : Int)) hR rfl hA ?_; clear hA ac; intro ac hA
       refine sr_q 4 (Value.slice A_L (L.take k).length c_L) hR rfl hA ((Rd.slice (E := 75) (A := A_L) (n := L.length) (c := c_L) (l := 0) (h := k) (m := c_L) (sz := 8) (by kernel_rfl) (fun _ => by kernel_rfl) (fun _ => by kernel_rfl) (fun w => bounds_hi (by omega) w)).cast (slice_eq (addr_zero _ _ _) (by first | omega | (simp; done) | (simp; omega)) (by first | omega | (simp; done) | (simp; omega)))) ?_; clear hA ac; intro ac hA
       refine sr_p 6 (Value.int .u32 a) hR rfl hA ?_; clear hA ac; intro ac hA
       refine sr_t 7 (Value.agg #[Value.int .u64 x.wr, Value.int .i64 x.ws.f, Value.int .i64 x.ws.pc, Value.int .u64 x.rd, Value.int .i64 x.rs.f, Value.int .i64 x.rs.pc, Value.int .i64 x.vec]) hR rfl hA hC (Rd.load (b := b3) (i := 0) (by kernel_rfl) (fun _ hw => (hw).cel 1 rfl) (by kernel_rfl)) ?_; clear hA ac; intro ac hA
       refine sr_p 8 (Value.agg #[Value.int .u32 a, Value.int .u64 x.wr, Value.int .i64 x.ws.f, Value.int .i64 x.ws.pc, Value.int .u64 x.rd, Value.int .i64 x.rs.f, Value.int .i64 x.rs.pc, Value.int .i64 x.vec]) hR rfl hA ?_; clear hA ac; intro ac hA
       refine sr_p 11 (Value.pointer (some ⟨b1, 0, none⟩)) hR rfl hA ?_; clear hA ac; intro ac hA
       refine sr_t 12 (Value.slice A_L L.length c_L) hR rfl hA hC (Rd.load (b := b1) (i := 0) (by kernel_rfl) (fun _ hw => (hw).cel 2 rfl) (by kernel_rfl)) ?_; clear hA ac; intro ac hA
       refine sr_p 13 (Value.int .i64 ((j : Nat) : Int)) hR rfl hA ?_; clear hA ac; intro ac hA
       refine sr_q 14 (Value.slice (if c_L = j then (A_L : Option Addr) else Option.map (fun a_ => Addr.add a_ (j * 8)) (A_L : Option Addr)) (L.drop j).length (c_L - j)) hR rfl hA ((Rd.slice (E := 75) (A := A_L) (n := L.length) (c := c_L) (l := j) (h := L.length) (m := c_L) (sz := 8) (by kernel_rfl) (fun _ => by kernel_rfl) (fun _ => by kernel_rfl) (fun w => bounds_lo (by omega) w)).cast (slice_eq rfl (by first | omega | (simp; done) | (simp; omega)) rfl)) ?_; clear hA ac; intro ac hA
       refine sr_two (i := 0) (j := 9) (by kernel_rfl) ?_ ?_
       · skip
         refine (sr_d rfl hA (Runs.cells (fun b => Value.slice (some ⟨b, 0, none⟩) 0 0) #[] 75 (fun _ => by kernel_rfl) hW ?_)); clear hA ac hW; intro br7_0 w21 hW hbr7_0 hfw21 ac hA
         refine ⟨⟨fun _ => (hW.pick [1, 2, 3] (by decide) rfl).pickG [0] rfl, fun h => absurd h (by decide)⟩, ?_⟩; have hC : Ws w No [Cel b5 #[Value.slice none 0 0] 45, Cel b3 #[Value.int .u64 x.wr, Value.int .i64 x.ws.f, Value.int .i64 x.ws.pc, Value.int .u64 x.rd, Value.int .i64 x.rs.f, Value.int .i64 x.rs.pc, Value.int .i64 x.vec] 31, Cel b1 #[Value.slice A_L L.length c_L] 45] [roR A_L 8 enCell22 L] w21 := (hW.pick [1, 2, 3] (by decide) rfl).pickG [0] rfl
         refine sr_two (i := 5) (j := 9) (by kernel_rfl) ?_ ?_
         · skip
           have hW := hW.celRow (en := enCell22) (H' := [rowR 75 8 enCell22 (Value.slice (some ⟨br7_0, 0, none⟩) ([] : List Rc22).length ([] : List Rc22).length) ([] : List Rc22), Cel b5 #[Value.slice none 0 0] 45, Cel b3 #[Value.int .u64 x.wr, Value.int .i64 x.ws.f, Value.int .i64 x.ws.pc, Value.int .u64 x.rd, Value.int .i64 x.rs.f, Value.int .i64 x.rs.pc, Value.int .i64 x.vec] 31, Cel b1 #[Value.slice A_L L.length c_L] 45]) 0 rfl ([] : List Rc22) (by rfl) elt_Rc22.len (by decide) rfl
           refine (sr_d rfl hA (Runs.appOwn (B := A_L) (k := c_L) (E := 75) (sz := 8) (en := enCell22) (l := ([] : List Rc22)) (m := (L.take k)) (i := 0) (by kernel_rfl) (by kernel_rfl) elt_Rc22 (by kernel_rfl) hW rfl (((hW).getG 0 rfl).takeE k) (by first | omega | (simp; done) | (simp; omega)) (by first | omega | (simp; done) | (simp; omega)) ?_)); clear hA ac hW; intro Ar7_5 cr7_5 w22 hW hccr7_5 ac hA
           refine ⟨⟨fun _ => (hW.pick [1, 2, 3] (by decide) rfl).pickG [0] rfl, fun h => absurd h (by decide)⟩, ?_⟩; have hC : Ws w No [Cel b5 #[Value.slice none 0 0] 45, Cel b3 #[Value.int .u64 x.wr, Value.int .i64 x.ws.f, Value.int .i64 x.ws.pc, Value.int .u64 x.rd, Value.int .i64 x.rs.f, Value.int .i64 x.rs.pc, Value.int .i64 x.vec] 31, Cel b1 #[Value.slice A_L L.length c_L] 45] [roR A_L 8 enCell22 L] w22 := (hW.pick [1, 2, 3] (by decide) rfl).pickG [0] rfl
           refine sr_one (i := 9) (by kernel_rfl) (sr_d rfl hA (Runs.cells (fun b => Value.slice (some ⟨b, 0, none⟩) 1 1) #[Value.int .u32 a, Value.int .u64 x.wr, Value.int .i64 x.ws.f, Value.int .i64 x.ws.pc, Value.int .u64 x.rd, Value.int .i64 x.rs.f, Value.int .i64 x.rs.pc, Value.int .i64 x.vec] 75 (fun _ => by kernel_rfl) hW ?_)); clear hA ac hW; intro br7_9 w23 hW hbr7_9 hfw23 ac hA
           refine ⟨⟨fun _ => (hW.pick [2, 3, 4] (by decide) rfl).pickG [0] rfl, fun h => absurd h (by decide)⟩, ?_⟩; have hC : Ws w No [Cel b5 #[Value.slice none 0 0] 45, Cel b3 #[Value.int .u64 x.wr, Value.int .i64 x.ws.f, Value.int .i64 x.ws.pc, Value.int .u64 x.rd, Value.int .i64 x.rs.f, Value.int .i64 x.rs.pc, Value.int .i64 x.vec] 31, Cel b1 #[Value.slice A_L L.length c_L] 45] [roR A_L 8 enCell22 L] w23 := (hW.pick [2, 3, 4] (by decide) rfl).pickG [0] rfl
           refine sr_one (i := 10) (by kernel_rfl) (sr_d rfl hA (Runs.appOwn (B := (some ⟨br7_9, 0, none⟩)) (k := 1) (E := 75) (sz := 8) (en := enCell22) (l := (([] : List Rc22) ++ (L.take k))) (m := ([(⟨a, x⟩ : Rc22)] : List Rc22)) (i := 1) (by kernel_rfl) (by kernel_rfl) elt_Rc22 (by kernel_rfl) hW rfl (rowAt_cel ((hW).cel 0 rfl) ([(⟨a, x⟩ : Rc22)] : List Rc22) (by rfl) elt_Rc22.len) (by first | omega | (simp; done) | (simp; omega)) (by first | omega | (simp; done) | (simp; omega)) ?_)); clear hA ac hW; intro Ar7_10 cr7_10 w24 hW hccr7_10 ac hA
           refine ⟨⟨fun _ => (hW.pick [2, 3, 4] (by decide) rfl).pickG [0] rfl, fun h => absurd h (by decide)⟩, ?_⟩; have hC : Ws w No [Cel b5 #[Value.slice none 0 0] 45, Cel b3 #[Value.int .u64 x.wr, Value.int .i64 x.ws.f, Value.int .i64 x.ws.pc, Value.int .u64 x.rd, Value.int .i64 x.rs.f, Value.int .i64 x.rs.pc, Value.int .i64 x.vec] 31, Cel b1 #[Value.slice A_L L.length c_L] 45] [roR A_L 8 enCell22 L] w24 := (hW.pick [2, 3, 4] (by decide) rfl).pickG [0] rfl
           refine sr_one (i := 15) (by kernel_rfl) (sr_d rfl hA (Runs.appOwn (B := (if c_L = j then (A_L : Option Addr) else Option.map (fun a_ => Addr.add a_ (j * 8)) (A_L : Option Addr))) (k := c_L - j) (E := 75) (sz := 8) (en := enCell22) (l := ((([] : List Rc22) ++ (L.take k)) ++ ([(⟨a, x⟩ : Rc22)] : List Rc22))) (m := (L.drop j)) (i := 1) (by kernel_rfl) (by kernel_rfl) elt_Rc22 (by kernel_rfl) hW rfl (((hW).getG 0 rfl).dropE (by first | assumption | omega | (simp; omega) | simp) j) (by first | omega | (simp; done) | (simp; omega)) (by first | omega | (simp; done) | (simp; omega)) ?_)); clear hA ac hW; intro Ar7_15 cr7_15 w25 hW hccr7_15 ac hA
           refine ⟨⟨fun h => absurd h (by decide), fun h => absurd h (by decide)⟩, ?_⟩
           refine sr_p 16 (Value.agg #[Value.slice Ar7_15 (((([] : List Rc22) ++ (L.take k)) ++ ([(⟨a, x⟩ : Rc22)] : List Rc22)) ++ (L.drop j)).length cr7_15]) hR rfl hA ?_; clear hA ac; intro ac hA
           refine sr_one (i := 17) (by kernel_rfl) (sr_d rfl hA (Runs.store (v := Value.agg #[Value.slice Ar7_15 (((([] : List Rc22) ++ (L.take k)) ++ ([(⟨a, x⟩ : Rc22)] : List Rc22)) ++ (L.drop j)).length cr7_15]) (b := b5) (j := 0) (n := 1) (cs' := #[Value.slice Ar7_15 (((([] : List Rc22) ++ (L.take k)) ++ ([(⟨a, x⟩ : Rc22)] : List Rc22)) ++ (L.drop j)).length cr7_15]) (H' := [Cel br7_9 #[Value.int .u32 a, Value.int .u64 x.wr, Value.int .i64 x.ws.f, Value.int .i64 x.ws.pc, Value.int .u64 x.rd, Value.int .i64 x.rs.f, Value.int .i64 x.rs.pc, Value.int .i64 x.vec] 75, rowR 75 8 enCell22 (Value.slice Ar7_15 (((([] : List Rc22) ++ (L.take k)) ++ ([(⟨a, x⟩ : Rc22)] : List Rc22)) ++ (L.drop j)).length cr7_15) (((([] : List Rc22) ++ (L.take k)) ++ ([(⟨a, x⟩ : Rc22)] : List Rc22)) ++ (L.drop j)), Cel b5 #[Value.slice Ar7_15 (((([] : List Rc22) ++ (L.take k)) ++ ([(⟨a, x⟩ : Rc22)] : List Rc22)) ++ (L.drop j)).length cr7_15] 45, Cel b3 #[Value.int .u64 x.wr, Value.int .i64 x.ws.f, Value.int .i64 x.ws.pc, Value.int .u64 x.rd, Value.int .i64 x.rs.f, Value.int .i64 x.rs.pc, Value.int .i64 x.vec] 31, Cel b1 #[Value.slice A_L L.length c_L] 45]) (by kernel_rfl) (by kernel_rfl) (by kernel_rfl) (by kernel_rfl) (by kernel_rfl) hW 2 (by rfl) (Nat.le_of_ble_eq_true (by kernel_rfl)) (by kernel_rfl) (by rfl) ?_)); clear hA ac hW; intro w26 hW ac hA
           refine ⟨⟨fun h => absurd h (by decide), fun h => absurd h (by decide)⟩, ?_⟩
           refine sr_done (by kernel_rfl) ?_ _
           exact ⟨Ar7_10, Ar7_15, Ar7_5, br7_0, br7_9, cr7_10, cr7_15, cr7_5, hccr7_10, hccr7_15, hccr7_5, hA.sub ⟨⟨by kernel_rfl, by kernel_rfl⟩, ⟨by kernel_rfl, by kernel_rfl⟩, ⟨by kernel_rfl, by kernel_rfl⟩, ⟨by kernel_rfl, by kernel_rfl⟩, ⟨by kernel_rfl, by kernel_rfl⟩, trivial⟩, (hW.pick [0, 1, 2, 3, 4] (by decide) rfl).pickG [0] rfl⟩
         · skip
           refine (sr_d rfl hA (Runs.cells (fun b => Value.slice (some ⟨b, 0, none⟩) 1 1) #[Value.int .u32 a, Value.int .u64 x.wr, Value.int .i64 x.ws.f, Value.int .i64 x.ws.pc, Value.int .u64 x.rd, Value.int .i64 x.rs.f, Value.int .i64 x.rs.pc, Value.int .i64 x.vec] 75 (fun _ => by kernel_rfl) hW ?_)); clear hA ac hW; intro br7_9 w27 hW hbr7_9 hfw27 ac hA
           refine ⟨⟨fun _ => (hW.pick [2, 3, 4] (by decide) rfl).pickG [0] rfl, fun h => absurd h (by decide)⟩, ?_⟩; have hC : Ws w No [Cel b5 #[Value.slice none 0 0] 45, Cel b3 #[Value.int .u64 x.wr, Value.int .i64 x.ws.f, Value.int .i64 x.ws.pc, Value.int .u64 x.rd, Value.int .i64 x.rs.f, Value.int .i64 x.rs.pc, Value.int .i64 x.vec] 31, Cel b1 #[Value.slice A_L L.length c_L] 45] [roR A_L 8 enCell22 L] w27 := (hW.pick [2, 3, 4] (by decide) rfl).pickG [0] rfl
           have hW := hW.celRow (en := enCell22) (H' := [Cel br7_9 #[Value.int .u32 a, Value.int .u64 x.wr, Value.int .i64 x.ws.f, Value.int .i64 x.ws.pc, Value.int .u64 x.rd, Value.int .i64 x.rs.f, Value.int .i64 x.rs.pc, Value.int .i64 x.vec] 75, rowR 75 8 enCell22 (Value.slice (some ⟨br7_0, 0, none⟩) ([] : List Rc22).length ([] : List Rc22).length) ([] : List Rc22), Cel b5 #[Value.slice none 0 0] 45, Cel b3 #[Value.int .u64 x.wr, Value.int .i64 x.ws.f, Value.int .i64 x.ws.pc, Value.int .u64 x.rd, Value.int .i64 x.rs.f, Value.int .i64 x.rs.pc, Value.int .i64 x.vec] 31, Cel b1 #[Value.slice A_L L.length c_L] 45]) 1 rfl ([] : List Rc22) (by rfl) elt_Rc22.len (by decide) rfl
           refine sr_one (i := 5) (by kernel_rfl) (sr_d rfl hA (Runs.appOwn (B := A_L) (k := c_L) (E := 75) (sz := 8) (en := enCell22) (l := ([] : List Rc22)) (m := (L.take k)) (i := 1) (by kernel_rfl) (by kernel_rfl) elt_Rc22 (by kernel_rfl) hW rfl (((hW).getG 0 rfl).takeE k) (by first | omega | (simp; done) | (simp; omega)) (by first | omega | (simp; done) | (simp; omega)) ?_)); clear hA ac hW; intro Ar7_5 cr7_5 w28 hW hccr7_5 ac hA
           refine ⟨⟨fun _ => (hW.pick [2, 3, 4] (by decide) rfl).pickG [0] rfl, fun h => absurd h (by decide)⟩, ?_⟩; have hC : Ws w No [Cel b5 #[Value.slice none 0 0] 45, Cel b3 #[Value.int .u64 x.wr, Value.int .i64 x.ws.f, Value.int .i64 x.ws.pc, Value.int .u64 x.rd, Value.int .i64 x.rs.f, Value.int .i64 x.rs.pc, Value.int .i64 x.vec] 31, Cel b1 #[Value.slice A_L L.length c_L] 45] [roR A_L 8 enCell22 L] w28 := (hW.pick [2, 3, 4] (by decide) rfl).pickG [0] rfl
           refine sr_one (i := 10) (by kernel_rfl) (sr_d rfl hA (Runs.appOwn (B := (some ⟨br7_9, 0, none⟩)) (k := 1) (E := 75) (sz := 8) (en := enCell22) (l := (([] : List Rc22) ++ (L.take k))) (m := ([(⟨a, x⟩ : Rc22)] : List Rc22)) (i := 1) (by kernel_rfl) (by kernel_rfl) elt_Rc22 (by kernel_rfl) hW rfl (rowAt_cel ((hW).cel 0 rfl) ([(⟨a, x⟩ : Rc22)] : List Rc22) (by rfl) elt_Rc22.len) (by first | omega | (simp; done) | (simp; omega)) (by first | omega | (simp; done) | (simp; omega)) ?_)); clear hA ac hW; intro Ar7_10 cr7_10 w29 hW hccr7_10 ac hA
           refine ⟨⟨fun _ => (hW.pick [2, 3, 4] (by decide) rfl).pickG [0] rfl, fun h => absurd h (by decide)⟩, ?_⟩; have hC : Ws w No [Cel b5 #[Value.slice none 0 0] 45, Cel b3 #[Value.int .u64 x.wr, Value.int .i64 x.ws.f, Value.int .i64 x.ws.pc, Value.int .u64 x.rd, Value.int .i64 x.rs.f, Value.int .i64 x.rs.pc, Value.int .i64 x.vec] 31, Cel b1 #[Value.slice A_L L.length c_L] 45] [roR A_L 8 enCell22 L] w29 := (hW.pick [2, 3, 4] (by decide) rfl).pickG [0] rfl
           refine sr_one (i := 15) (by kernel_rfl) (sr_d rfl hA (Runs.appOwn (B := (if c_L = j then (A_L : Option Addr) else Option.map (fun a_ => Addr.add a_ (j * 8)) (A_L : Option Addr))) (k := c_L - j) (E := 75) (sz := 8) (en := enCell22) (l := ((([] : List Rc22) ++ (L.take k)) ++ ([(⟨a, x⟩ : Rc22)] : List Rc22))) (m := (L.drop j)) (i := 1) (by kernel_rfl) (by kernel_rfl) elt_Rc22 (by kernel_rfl) hW rfl (((hW).getG 0 rfl).dropE (by first | assumption | omega | (simp; omega) | simp) j) (by first | omega | (simp; done) | (simp; omega)) (by first | omega | (simp; done) | (simp; omega)) ?_)); clear hA ac hW; intro Ar7_15 cr7_15 w30 hW hccr7_15 ac hA
           refine ⟨⟨fun h => absurd h (by decide), fun h => absurd h (by decide)⟩, ?_⟩
           refine sr_p 16 (Value.agg #[Value.slice Ar7_15 (((([] : List Rc22) ++ (L.take k)) ++ ([(⟨a, x⟩ : Rc22)] : List Rc22)) ++ (L.drop j)).length cr7_15]) hR rfl hA ?_; clear hA ac; intro ac hA
           refine sr_one (i := 17) (by kernel_rfl) (sr_d rfl hA (Runs.store (v := Value.agg #[Value.slice Ar7_15 (((([] : List Rc22) ++ (L.take k)) ++ ([(⟨a, x⟩ : Rc22)] : List Rc22)) ++ (L.drop j)).length cr7_15]) (b := b5) (j := 0) (n := 1) (cs' := #[Value.slice Ar7_15 (((([] : List Rc22) ++ (L.take k)) ++ ([(⟨a, x⟩ : Rc22)] : List Rc22)) ++ (L.drop j)).length cr7_15]) (H' := [Cel br7_9 #[Value.int .u32 a, Value.int .u64 x.wr, Value.int .i64 x.ws.f, Value.int .i64 x.ws.pc, Value.int .u64 x.rd, Value.int .i64 x.rs.f, Value.int .i64 x.rs.pc, Value.int .i64 x.vec] 75, rowR 75 8 enCell22 (Value.slice Ar7_15 (((([] : List Rc22) ++ (L.take k)) ++ ([(⟨a, x⟩ : Rc22)] : List Rc22)) ++ (L.drop j)).length cr7_15) (((([] : List Rc22) ++ (L.take k)) ++ ([(⟨a, x⟩ : Rc22)] : List Rc22)) ++ (L.drop j)), Cel b5 #[Value.slice Ar7_15 (((([] : List Rc22) ++ (L.take k)) ++ ([(⟨a, x⟩ : Rc22)] : List Rc22)) ++ (L.drop j)).length cr7_15] 45, Cel b3 #[Value.int .u64 x.wr, Value.int .i64 x.ws.f, Value.int .i64 x.ws.pc, Value.int .u64 x.rd, Value.int .i64 x.rs.f, Value.int .i64 x.rs.pc, Value.int .i64 x.vec] 31, Cel b1 #[Value.slice A_L L.length c_L] 45]) (by kernel_rfl) (by kernel_rfl) (by kernel_rfl) (by kernel_rfl) (by kernel_rfl) hW 2 (by rfl) (Nat.le_of_ble_eq_true (by kernel_rfl)) (by kernel_rfl) (by rfl) ?_)); clear hA ac hW; intro w31 hW ac hA
           refine ⟨⟨fun h => absurd h (by decide), fun h => absurd h (by decide)⟩, ?_⟩
           refine sr_done (by kernel_rfl) ?_ _
           exact ⟨Ar7_10, Ar7_15, Ar7_5, br7_0, br7_9, cr7_10, cr7_15, cr7_5, hccr7_10, hccr7_15, hccr7_5, hA.sub ⟨⟨by kernel_rfl, by kernel_rfl⟩, ⟨by kernel_rfl, by kernel_rfl⟩, ⟨by kernel_rfl, by kernel_rfl⟩, ⟨by kernel_rfl, by kernel_rfl⟩, ⟨by kernel_rfl, by kernel_rfl⟩, trivial⟩, (hW.pick [0, 1, 2, 3, 4] (by decide) rfl).pickG [0] rfl⟩
       · skip
         refine (sr_d rfl hA (Runs.cells (fun b => Value.slice (some ⟨b, 0, none⟩) 1 1) #[Value.int .u32 a, Value.int .u64 x.wr, Value.int .i64 x.ws.f, Value.int .i64 x.ws.pc, Value.int .u64 x.rd, Value.int .i64 x.rs.f, Value.int .i64 x.rs.pc, Value.int .i64 x.vec] 75 (fun _ => by kernel_rfl) hW ?_)); clear hA ac hW; intro br7_9 w32 hW hbr7_9 hfw32 ac hA
         refine ⟨⟨fun _ => (hW.pick [1, 2, 3] (by decide) rfl).pickG [0] rfl, fun h => absurd h (by decide)⟩, ?_⟩; have hC : Ws w No [Cel b5 #[Value.slice none 0 0] 45, Cel b3 #[Value.int .u64 x.wr, Value.int .i64 x.ws.f, Value.int .i64 x.ws.pc, Value.int .u64 x.rd, Value.int .i64 x.rs.f, Value.int .i64 x.rs.pc, Value.int .i64 x.vec] 31, Cel b1 #[Value.slice A_L L.length c_L] 45] [roR A_L 8 enCell22 L] w32 := (hW.pick [1, 2, 3] (by decide) rfl).pickG [0] rfl
         refine sr_one (i := 0) (by kernel_rfl) (sr_d rfl hA (Runs.cells (fun b => Value.slice (some ⟨b, 0, none⟩) 0 0) #[] 75 (fun _ => by kernel_rfl) hW ?_)); clear hA ac hW; intro br7_0 w33 hW hbr7_0 hfw33 ac hA
         refine ⟨⟨fun _ => (hW.pick [2, 3, 4] (by decide) rfl).pickG [0] rfl, fun h => absurd h (by decide)⟩, ?_⟩; have hC : Ws w No [Cel b5 #[Value.slice none 0 0] 45, Cel b3 #[Value.int .u64 x.wr, Value.int .i64 x.ws.f, Value.int .i64 x.ws.pc, Value.int .u64 x.rd, Value.int .i64 x.rs.f, Value.int .i64 x.rs.pc, Value.int .i64 x.vec] 31, Cel b1 #[Value.slice A_L L.length c_L] 45] [roR A_L 8 enCell22 L] w33 := (hW.pick [2, 3, 4] (by decide) rfl).pickG [0] rfl
         have hW := hW.celRow (en := enCell22) (H' := [rowR 75 8 enCell22 (Value.slice (some ⟨br7_0, 0, none⟩) ([] : List Rc22).length ([] : List Rc22).length) ([] : List Rc22), Cel br7_9 #[Value.int .u32 a, Value.int .u64 x.wr, Value.int .i64 x.ws.f, Value.int .i64 x.ws.pc, Value.int .u64 x.rd, Value.int .i64 x.rs.f, Value.int .i64 x.rs.pc, Value.int .i64 x.vec] 75, Cel b5 #[Value.slice none 0 0] 45, Cel b3 #[Value.int .u64 x.wr, Value.int .i64 x.ws.f, Value.int .i64 x.ws.pc, Value.int .u64 x.rd, Value.int .i64 x.rs.f, Value.int .i64 x.rs.pc, Value.int .i64 x.vec] 31, Cel b1 #[Value.slice A_L L.length c_L] 45]) 0 rfl ([] : List Rc22) (by rfl) elt_Rc22.len (by decide) rfl
         refine sr_one (i := 5) (by kernel_rfl) (sr_d rfl hA (Runs.appOwn (B := A_L) (k := c_L) (E := 75) (sz := 8) (en := enCell22) (l := ([] : List Rc22)) (m := (L.take k)) (i := 0) (by kernel_rfl) (by kernel_rfl) elt_Rc22 (by kernel_rfl) hW rfl (((hW).getG 0 rfl).takeE k) (by first | omega | (simp; done) | (simp; omega)) (by first | omega | (simp; done) | (simp; omega)) ?_)); clear hA ac hW; intro Ar7_5 cr7_5 w34 hW hccr7_5 ac hA
         refine ⟨⟨fun _ => (hW.pick [2, 3, 4] (by decide) rfl).pickG [0] rfl, fun h => absurd h (by decide)⟩, ?_⟩; have hC : Ws w No [Cel b5 #[Value.slice none 0 0] 45, Cel b3 #[Value.int .u64 x.wr, Value.int .i64 x.ws.f, Value.int .i64 x.ws.pc, Value.int .u64 x.rd, Value.int .i64 x.rs.f, Value.int .i64 x.rs.pc, Value.int .i64 x.vec] 31, Cel b1 #[Value.slice A_L L.length c_L] 45] [roR A_L 8 enCell22 L] w34 := (hW.pick [2, 3, 4] (by decide) rfl).pickG [0] rfl
         refine sr_one (i := 10) (by kernel_rfl) (sr_d rfl hA (Runs.appOwn (B := (some ⟨br7_9, 0, none⟩)) (k := 1) (E := 75) (sz := 8) (en := enCell22) (l := (([] : List Rc22) ++ (L.take k))) (m := ([(⟨a, x⟩ : Rc22)] : List Rc22)) (i := 0) (by kernel_rfl) (by kernel_rfl) elt_Rc22 (by kernel_rfl) hW rfl (rowAt_cel ((hW).cel 1 rfl) ([(⟨a, x⟩ : Rc22)] : List Rc22) (by rfl) elt_Rc22.len) (by first | omega | (simp; done) | (simp; omega)) (by first | omega | (simp; done) | (simp; omega)) ?_)); clear hA ac hW; intro Ar7_10 cr7_10 w35 hW hccr7_10 ac hA
         refine ⟨⟨fun _ => (hW.pick [2, 3, 4] (by decide) rfl).pickG [0] rfl, fun h => absurd h (by decide)⟩, ?_⟩; have hC : Ws w No [Cel b5 #[Value.slice none 0 0] 45, Cel b3 #[Value.int .u64 x.wr, Value.int .i64 x.ws.f, Value.int .i64 x.ws.pc, Value.int .u64 x.rd, Value.int .i64 x.rs.f, Value.int .i64 x.rs.pc, Value.int .i64 x.vec] 31, Cel b1 #[Value.slice A_L L.length c_L] 45] [roR A_L 8 enCell22 L] w35 := (hW.pick [2, 3, 4] (by decide) rfl).pickG [0] rfl
         refine sr_one (i := 15) (by kernel_rfl) (sr_d rfl hA (Runs.appOwn (B := (if c_L = j then (A_L : Option Addr) else Option.map (fun a_ => Addr.add a_ (j * 8)) (A_L : Option Addr))) (k := c_L - j) (E := 75) (sz := 8) (en := enCell22) (l := ((([] : List Rc22) ++ (L.take k)) ++ ([(⟨a, x⟩ : Rc22)] : List Rc22))) (m := (L.drop j)) (i := 0) (by kernel_rfl) (by kernel_rfl) elt_Rc22 (by kernel_rfl) hW rfl (((hW).getG 0 rfl).dropE (by first | assumption | omega | (simp; omega) | simp) j) (by first | omega | (simp; done) | (simp; omega)) (by first | omega | (simp; done) | (simp; omega)) ?_)); clear hA ac hW; intro Ar7_15 cr7_15 w36 hW hccr7_15 ac hA
         refine ⟨⟨fun h => absurd h (by decide), fun h => absurd h (by decide)⟩, ?_⟩
         refine sr_p 16 (Value.agg #[Value.slice Ar7_15 (((([] : List Rc22) ++ (L.take k)) ++ ([(⟨a, x⟩ : Rc22)] : List Rc22)) ++ (L.drop j)).length cr7_15]) hR rfl hA ?_; clear hA ac; intro ac hA
         refine sr_one (i := 17) (by kernel_rfl) (sr_d rfl hA (Runs.store (v := Value.agg #[Value.slice Ar7_15 (((([] : List Rc22) ++ (L.take k)) ++ ([(⟨a, x⟩ : Rc22)] : List Rc22)) ++ (L.drop j)).length cr7_15]) (b := b5) (j := 0) (n := 1) (cs' := #[Value.slice Ar7_15 (((([] : List Rc22) ++ (L.take k)) ++ ([(⟨a, x⟩ : Rc22)] : List Rc22)) ++ (L.drop j)).length cr7_15]) (H' := [rowR 75 8 enCell22 (Value.slice Ar7_15 (((([] : List Rc22) ++ (L.take k)) ++ ([(⟨a, x⟩ : Rc22)] : List Rc22)) ++ (L.drop j)).length cr7_15) (((([] : List Rc22) ++ (L.take k)) ++ ([(⟨a, x⟩ : Rc22)] : List Rc22)) ++ (L.drop j)), Cel br7_9 #[Value.int .u32 a, Value.int .u64 x.wr, Value.int .i64 x.ws.f, Value.int .i64 x.ws.pc, Value.int .u64 x.rd, Value.int .i64 x.rs.f, Value.int .i64 x.rs.pc, Value.int .i64 x.vec] 75, Cel b5 #[Value.slice Ar7_15 (((([] : List Rc22) ++ (L.take k)) ++ ([(⟨a, x⟩ : Rc22)] : List Rc22)) ++ (L.drop j)).length cr7_15] 45, Cel b3 #[Value.int .u64 x.wr, Value.int .i64 x.ws.f, Value.int .i64 x.ws.pc, Value.int .u64 x.rd, Value.int .i64 x.rs.f, Value.int .i64 x.rs.pc, Value.int .i64 x.vec] 31, Cel b1 #[Value.slice A_L L.length c_L] 45]) (by kernel_rfl) (by kernel_rfl) (by kernel_rfl) (by kernel_rfl) (by kernel_rfl) hW 2 (by rfl) (Nat.le_of_ble_eq_true (by kernel_rfl)) (by kernel_rfl) (by rfl) ?_)); clear hA ac hW; intro w37 hW ac hA
         refine ⟨⟨fun h => absurd h (by decide), fun h => absurd h (by decide)⟩, ?_⟩
         refine sr_done (by kernel_rfl) ?_ _
         exact ⟨Ar7_10, Ar7_15, Ar7_5, br7_0, br7_9, cr7_10, cr7_15, cr7_5, hccr7_10, hccr7_15, hccr7_5, hA.sub ⟨⟨by kernel_rfl, by kernel_rfl⟩, ⟨by kernel_rfl, by kernel_rfl⟩, ⟨by kernel_rfl, by kernel_rfl⟩, ⟨by kernel_rfl, by kernel_rfl⟩, ⟨by kernel_rfl, by kernel_rfl⟩, trivial⟩, (hW.pick [1, 0, 2, 3, 4] (by decide) rfl).pickG [0] rfl⟩
     clear hA ac hW; rintro ac w38 ⟨Ar7_10, Ar7_15, Ar7_5, br7_0, br7_9, cr7_10, cr7_15, cr7_5, hccr7_10, hccr7_15, hccr7_5, hA, hW⟩
     refine thenN ?_
     refine wp_ret ?_
     refine ret1 (v := Value.agg #[Value.slice Ar7_15 (((([] : List Rc22) ++ (L.take k)) ++ ([(⟨a, x⟩ : Rc22)] : List Rc22)) ++ (L.drop j)).length cr7_15]) (by rfl) hA (Got.cell (b := b5) (i := 0) hA (by kernel_rfl) (by kernel_rfl) (hW.cel 2 rfl) (by kernel_rfl)) ?_
     clear hA
     exact ⟨((([] : List Rc22) ++ (L.take k)) ++ ([(⟨a, x⟩ : Rc22)] : List Rc22)) ++ (L.drop j), Ar7_15, cr7_15, by first | rfl | (simp; done), by simpa using hly, (own_cap ((hW).get 1 rfl)), (hW.outRow 1 rfl elt_Rc22.len (fun _ h => h)), hW.fr⟩

set_option maxRecDepth 100000 in
theorem e_rsame (A_L : Option Addr) (c_L : Nat) (L : List Rc22) (A_R : Option Addr) (c_R : Nat) (R : List Rc22) (w : World) (hr_L : RowAt w A_L 8 enCell22 L) (hc_L : L.length ≤ c_L) (hr_R : RowAt w A_R 8 enCell22 R) (hc_R : R.length ≤ c_R) (hl : L.length ≤ 1000 ∧ R.length ≤ 1000) (hL : ∀ x ∈ L, 0 ≤ x.addr ∧ x.addr ≤ 4294967295) (hR_ : ∀ x ∈ R, 0 ≤ x.addr ∧ x.addr ≤ 4294967295) : Calls Try.prog 16 #[Value.agg #[Value.slice A_L L.length c_L], Value.agg #[Value.slice A_R R.length c_R]] w (fun e w' => e = .returned (Value.bool (decide (allL L = allL R) && decide (pagesM L = pagesM R))) ∧ Fr No w w') := by
 have _hu := hc_L; have _hv := hr_L; clear _hu _hv
 have _hu := hc_R; have _hv := hr_R; clear _hu _hv
 have _hu := hl; clear _hu
 have _hu := hL; clear _hu
 have _hu := hR_; clear _hu
 refine enter_E 40 Try.func16 rfl rfl (by kernel_rfl) (L := [(0, Value.agg #[Value.slice A_L L.length c_L]), (1, Value.agg #[Value.slice A_R R.length c_R])]) (by kernel_rfl) ?_
 intro ac hA
 have hW := Ws.start w No
 have hW := hW.arg hr_L
 have hW := hW.arg hr_R
 refine wp_seq ?_
 refine wp_region_lit ?_
 refine st_s hA (Runs.cells (fun b => Value.pointer (some ⟨b, 0, none⟩)) #[Value.slice A_L L.length c_L] 45 (fun _ => by kernel_rfl) hW ?_); clear hA ac hW; intro b1 w2 hW hb1 hfw2 ac hA
 refine st_s hA (Runs.cells (fun b => Value.pointer (some ⟨b, 0, none⟩)) #[Value.slice A_R R.length c_R] 45 (fun _ => by kernel_rfl) hW ?_); clear hA ac hW; intro b3 w4 hW hb3 hfw4 ac hA
 refine st_p (Value.bool false) hA ?_; clear hA ac; intro ac hA
 refine wpList_nil ?_
 refine thenN ?_
 refine wp_seq ?_
 refine wp_cut (fun ac_ wl_ => ∃ Aor1_1 : Option Addr, ∃ Aor1_3 : Option Addr, ∃ cor1_1 : Nat, ∃ cor1_3 : Nat, ∃ g0r1_1 : List Rc22, ∃ g0r1_3 : List Rc22, ((g0r1_1).length ≤ cor1_1) ∧ ((g0r1_3).length ≤ cor1_3) ∧ (g0r1_1 = allL L) ∧ (g0r1_3 = allL R) ∧ Fm 40 [] [(0, Value.agg #[Value.slice A_L L.length c_L]), (1, Value.agg #[Value.slice A_R R.length c_R]), (2, Value.pointer (some ⟨b1, 0, none⟩)), (3, Value.pointer (some ⟨b3, 0, none⟩)), (4, Value.bool false), (5, Value.slice Aor1_1 (g0r1_1).length cor1_1), (6, Value.slice Aor1_3 (g0r1_3).length cor1_3)] ac_ ∧ Ws w No [rowR 75 8 enCell22 (Value.slice Aor1_3 (g0r1_3).length cor1_3) g0r1_3, rowR 75 8 enCell22 (Value.slice Aor1_1 (g0r1_1).length cor1_1) g0r1_1, Cel b3 #[Value.slice A_R R.length c_R] 45, Cel b1 #[Value.slice A_L L.length c_L] 45] [roR A_R 8 enCell22 R, roR A_L 8 enCell22 L] wl_) ?_ ?_
 · refine sr_region (m := 6) (C := Ws w No [Cel b3 #[Value.slice A_R R.length c_R] 45, Cel b1 #[Value.slice A_L L.length c_L] 45] [roR A_R 8 enCell22 R, roR A_L 8 enCell22 L]) (fun i => [0, 2].contains i) (fun i => [0, 1, 2].contains i) (fun i => [4, 5].contains i) (by kernel_rfl) (by kernel_rfl) (by kernel_rfl) (by kernel_rfl) hW ?_; clear hW; intro w5 hW hfw5 hR; have hC : Ws w No [Cel b3 #[Value.slice A_R R.length c_R] 45, Cel b1 #[Value.slice A_L L.length c_L] 45] [roR A_R 8 enCell22 R, roR A_L 8 enCell22 L] w5 := hW.pick [0, 1] (by decide) rfl
   refine sr_t 0 (Value.agg #[Value.slice A_L L.length c_L]) hR rfl hA hC (Rd.load (b := b1) (i := 0) (by kernel_rfl) (fun _ hw => (hw).cel 1 rfl) (by kernel_rfl)) ?_; clear hA ac; intro ac hA
   refine sr_t 2 (Value.agg #[Value.slice A_R R.length c_R]) hR rfl hA hC (Rd.load (b := b3) (i := 0) (by kernel_rfl) (fun _ hw => (hw).cel 0 rfl) (by kernel_rfl)) ?_; clear hA ac; intro ac hA
   refine sr_one (i := 1) (by kernel_rfl) (sr_d rfl hA (Runs.call (fun _ => by kernel_rfl) (e_rall A_L c_L L w5 ((hW).getG 1 rfl) (by first | assumption | omega | (simp; omega) | simp) (by first | omega | assumption | (constructor <;> first | omega | (subst_vars; have := pagesM_len L; have := pagesM_len R; omega)))) ?_))
   rintro _ w6 ⟨g0r1_1, Aor1_1, cor1_1, rfl, hr1_1_hp, hccor1_1, hu_⟩; refine ⟨_, rfl, ?_⟩; replace hW := hW.made hu_; clear hA ac; intro ac hA
   refine ⟨⟨fun _ => (hW.pick [1, 2] (by decide) rfl).pickG [0, 1] rfl, fun h => absurd h (by decide)⟩, ?_⟩; have hC : Ws w No [Cel b3 #[Value.slice A_R R.length c_R] 45, Cel b1 #[Value.slice A_L L.length c_L] 45] [roR A_R 8 enCell22 R, roR A_L 8 enCell22 L] w6 := (hW.pick [1, 2] (by decide) rfl).pickG [0, 1] rfl
   refine sr_one (i := 3) (by kernel_rfl) (sr_d rfl hA (Runs.call (fun _ => by kernel_rfl) (e_rall A_R c_R R w6 ((hW).getG 0 rfl) (by first | assumption | omega | (simp; omega) | simp) (by first | omega | assumption | (constructor <;> first | omega | (subst_vars; have := pagesM_len L; have := pagesM_len R; omega)))) ?_))
   rintro _ w7 ⟨g0r1_3, Aor1_3, cor1_3, rfl, hr1_3_hp, hccor1_3, hu_⟩; refine ⟨_, rfl, ?_⟩; replace hW := hW.made hu_; clear hA ac; intro ac hA
   refine ⟨⟨fun h => absurd h (by decide), fun h => absurd h (by decide)⟩, ?_⟩
   refine sr_p 4 (Value.slice Aor1_1 (g0r1_1).length cor1_1) hR rfl hA ?_; clear hA ac; intro ac hA
   refine sr_p 5 (Value.slice Aor1_3 (g0r1_3).length cor1_3) hR rfl hA ?_; clear hA ac; intro ac hA
   refine sr_done (by kernel_rfl) ?_ _
   exact ⟨Aor1_1, Aor1_3, cor1_1, cor1_3, g0r1_1, g0r1_3, hccor1_1, hccor1_3, hr1_1_hp, hr1_3_hp, hA.sub ⟨⟨by kernel_rfl, by kernel_rfl⟩, ⟨by kernel_rfl, by kernel_rfl⟩, ⟨by kernel_rfl, by kernel_rfl⟩, ⟨by kernel_rfl, by kernel_rfl⟩, ⟨by kernel_rfl, by kernel_rfl⟩, ⟨by kernel_rfl, by kernel_rfl⟩, ⟨by kernel_rfl, by kernel_rfl⟩, trivial⟩, (hW.pick [0, 1, 2, 3] (by decide) rfl).pickG [0, 1] rfl⟩
 clear hA ac hW; rintro ac w8 ⟨Aor1_1, Aor1_3, cor1_1, cor1_3, g0r1_1, g0r1_3, hccor1_1, hccor1_3, hr1_1_hp, hr1_3_hp, hA, hW⟩
 refine thenN ?_
 refine wp_seq ?_
 refine wp_seq ?_
 have hal_ : g0r1_1.length ≤ 1000 := by rw [hr1_1_hp]; have := allL_len L; omega
 have har_ : g0r1_3.length ≤ 1000 := by rw [hr1_3_hp]; have := allL_len R; omega
 rcases Bool.eq_false_or_eq_true (decide (g0r1_1.length = g0r1_3.length)) with h9 | h9
 · skip
   have h9 := of_decide_eq_true h9
   first
   | (exfalso; clear hA hW; omega)
   | (
     have hal_ : g0r1_1.length ≤ 1000 := by rw [hr1_1_hp]; have := allL_len L; omega
     have har_ : g0r1_3.length ≤ 1000 := by rw [hr1_3_hp]; have := allL_len R; omega
     refine wp_cut (fun ac_ wl_ => ∃ Aor2_7 : Option Addr, ∃ Aor2_9 : Option Addr, ∃ cor2_7 : Nat, ∃ cor2_9 : Nat, ∃ g0r2_7 : List Int, ∃ g0r2_9 : List Int, ((g0r2_7).length ≤ cor2_7) ∧ ((g0r2_9).length ≤ cor2_9) ∧ (g0r2_7 = pagesM L) ∧ (g0r2_9 = pagesM R) ∧ Fm 40 [] [(0, Value.agg #[Value.slice A_L L.length c_L]), (1, Value.agg #[Value.slice A_R R.length c_R]), (2, Value.pointer (some ⟨b1, 0, none⟩)), (3, Value.pointer (some ⟨b3, 0, none⟩)), (4, Value.bool false), (5, Value.slice Aor1_1 (g0r1_1).length cor1_1), (6, Value.slice Aor1_3 (g0r1_3).length cor1_3), (24, Value.bool (!(decide (g0r2_7 = g0r2_9))))] ac_ ∧ Ws w No [rowR 35 1 enU4 (Value.slice Aor2_9 (g0r2_9).length cor2_9) g0r2_9, rowR 35 1 enU4 (Value.slice Aor2_7 (g0r2_7).length cor2_7) g0r2_7, rowR 75 8 enCell22 (Value.slice Aor1_3 (g0r1_3).length cor1_3) g0r1_3, rowR 75 8 enCell22 (Value.slice Aor1_1 (g0r1_1).length cor1_1) g0r1_1, Cel b3 #[Value.slice A_R R.length c_R] 45, Cel b1 #[Value.slice A_L L.length c_L] 45] [roR A_R 8 enCell22 R, roR A_L 8 enCell22 L] wl_) ?_ ?_
     · refine sr_region (m := 13) (C := Ws w No [rowR 75 8 enCell22 (Value.slice Aor1_3 (g0r1_3).length cor1_3) g0r1_3, rowR 75 8 enCell22 (Value.slice Aor1_1 (g0r1_1).length cor1_1) g0r1_1, Cel b3 #[Value.slice A_R R.length c_R] 45, Cel b1 #[Value.slice A_L L.length c_L] 45] [roR A_R 8 enCell22 R, roR A_L 8 enCell22 L]) (fun i => [6, 8].contains i) (fun i => [6, 7, 8].contains i) (fun i => [0, 1, 2, 3, 4, 5, 11, 12].contains i) (by kernel_rfl) (by kernel_rfl) (by kernel_rfl) (by kernel_rfl) hW ?_; clear hW; intro w10 hW hfw10 hR; have hC : Ws w No [rowR 75 8 enCell22 (Value.slice Aor1_3 (g0r1_3).length cor1_3) g0r1_3, rowR 75 8 enCell22 (Value.slice Aor1_1 (g0r1_1).length cor1_1) g0r1_1, Cel b3 #[Value.slice A_R R.length c_R] 45, Cel b1 #[Value.slice A_L L.length c_L] 45] [roR A_R 8 enCell22 R, roR A_L 8 enCell22 L] w10 := hW.pick [0, 1, 2, 3] (by decide) rfl
       refine sr_p 0 (Value.slice Aor1_1 (g0r1_1).length cor1_1) hR rfl hA ?_; clear hA ac; intro ac hA
       refine sr_p 1 (Value.int .i64 (((g0r1_1).length : Nat) : Int)) hR rfl hA ?_; clear hA ac; intro ac hA
       refine sr_p 2 (Value.slice Aor1_3 (g0r1_3).length cor1_3) hR rfl hA ?_; clear hA ac; intro ac hA
       refine sr_p 3 (Value.int .i64 (((g0r1_3).length : Nat) : Int)) hR rfl hA ?_; clear hA ac; intro ac hA
       refine sr_p 4 (Value.bool (((((g0r1_1).length : Nat) : Int) : Int) != ((((g0r1_3).length : Nat) : Int) : Int))) hR rfl hA ?_; clear hA ac; intro ac hA
       refine sr_p 5 (Value.bool (((((g0r1_1).length : Nat) : Int) : Int) != ((((g0r1_3).length : Nat) : Int) : Int))) hR rfl hA ?_; clear hA ac; intro ac hA
       rw [show (((((g0r1_1).length : Nat) : Int) : Int) != ((((g0r1_3).length : Nat) : Int) : Int)) = false from (by first | (simp; omega) | (simp [h9]; done) | (simp; exact_mod_cast h9))] at hA
       refine sr_t 6 (Value.agg #[Value.slice A_L L.length c_L]) hR rfl hA hC (Rd.load (b := b1) (i := 0) (by kernel_rfl) (fun _ hw => (hw).cel 3 rfl) (by kernel_rfl)) ?_; clear hA ac; intro ac hA
       refine sr_t 8 (Value.agg #[Value.slice A_R R.length c_R]) hR rfl hA hC (Rd.load (b := b3) (i := 0) (by kernel_rfl) (fun _ hw => (hw).cel 2 rfl) (by kernel_rfl)) ?_; clear hA ac; intro ac hA
       refine sr_one (i := 7) (by kernel_rfl) (sr_d rfl hA (Runs.call (fun _ => by kernel_rfl) (e_rpages A_L c_L L w10 ((hW).getG 1 rfl) (by first | assumption | omega | (simp; omega) | simp) (by first | omega | assumption | (constructor <;> first | omega | (subst_vars; have := pagesM_len L; have := pagesM_len R; omega))) (by first | omega | assumption | (constructor <;> first | omega | (subst_vars; have := pagesM_len L; have := pagesM_len R; omega)))) ?_))
       rintro _ w11 ⟨g0r2_7, Aor2_7, cor2_7, rfl, hr2_7_hp, hccor2_7, hu_⟩; refine ⟨_, rfl, ?_⟩; replace hW := hW.made hu_; clear hA ac; intro ac hA
       refine ⟨⟨fun _ => (hW.pick [1, 2, 3, 4] (by decide) rfl).pickG [0, 1] rfl, fun h => absurd h (by decide)⟩, ?_⟩; have hC : Ws w No [rowR 75 8 enCell22 (Value.slice Aor1_3 (g0r1_3).length cor1_3) g0r1_3, rowR 75 8 enCell22 (Value.slice Aor1_1 (g0r1_1).length cor1_1) g0r1_1, Cel b3 #[Value.slice A_R R.length c_R] 45, Cel b1 #[Value.slice A_L L.length c_L] 45] [roR A_R 8 enCell22 R, roR A_L 8 enCell22 L] w11 := (hW.pick [1, 2, 3, 4] (by decide) rfl).pickG [0, 1] rfl
       refine sr_one (i := 9) (by kernel_rfl) (sr_d rfl hA (Runs.call (fun _ => by kernel_rfl) (e_rpages A_R c_R R w11 ((hW).getG 0 rfl) (by first | assumption | omega | (simp; omega) | simp) (by first | omega | assumption | (constructor <;> first | omega | (subst_vars; have := pagesM_len L; have := pagesM_len R; omega))) (by first | omega | assumption | (constructor <;> first | omega | (subst_vars; have := pagesM_len L; have := pagesM_len R; omega)))) ?_))
       rintro _ w12 ⟨g0r2_9, Aor2_9, cor2_9, rfl, hr2_9_hp, hccor2_9, hu_⟩; refine ⟨_, rfl, ?_⟩; replace hW := hW.made hu_; clear hA ac; intro ac hA
       refine ⟨⟨fun h => absurd h (by decide), fun h => absurd h (by decide)⟩, ?_⟩
       refine sr_one (i := 10) (by kernel_rfl) (sr_d rfl hA (Runs.callN (v := Value.bool (decide (g0r2_7 = g0r2_9))) (fun _ => by kernel_rfl) hW (e_rwords Aor2_7 cor2_7 g0r2_7 Aor2_9 cor2_9 g0r2_9 w12 (rowR_at ((hW).get 1 rfl) elt_U4.len) (own_cap ((hW).get 1 rfl)) (rowR_at ((hW).get 0 rfl) elt_U4.len) (own_cap ((hW).get 0 rfl)) (by first | omega | assumption | (constructor <;> first | omega | (subst_vars; have := pagesM_len L; have := pagesM_len R; omega)))) ?_)); clear hA ac hW; intro w13 hW hfw13 ac hA
       refine ⟨⟨fun h => absurd h (by decide), fun h => absurd h (by decide)⟩, ?_⟩
       refine sr_p 11 (Value.bool (!(decide (g0r2_7 = g0r2_9)))) hR rfl hA ?_; clear hA ac; intro ac hA
       refine sr_p 12 (Value.bool (!(decide (g0r2_7 = g0r2_9)))) hR rfl hA ?_; clear hA ac; intro ac hA
       refine sr_done (by kernel_rfl) ?_ _
       exact ⟨Aor2_7, Aor2_9, cor2_7, cor2_9, g0r2_7, g0r2_9, hccor2_7, hccor2_9, hr2_7_hp, hr2_9_hp, hA.sub ⟨⟨by kernel_rfl, by kernel_rfl⟩, ⟨by kernel_rfl, by kernel_rfl⟩, ⟨by kernel_rfl, by kernel_rfl⟩, ⟨by kernel_rfl, by kernel_rfl⟩, ⟨by kernel_rfl, by kernel_rfl⟩, ⟨by kernel_rfl, by kernel_rfl⟩, ⟨by kernel_rfl, by kernel_rfl⟩, ⟨by kernel_rfl, by kernel_rfl⟩, trivial⟩, (hW.pick [0, 1, 2, 3, 4, 5] (by decide) rfl).pickG [0, 1] rfl⟩
     clear hA ac hW; rintro ac w14 ⟨Aor2_7, Aor2_9, cor2_7, cor2_9, g0r2_7, g0r2_9, hccor2_7, hccor2_9, hr2_7_hp, hr2_9_hp, hA, hW⟩
     refine thenN ?_
     refine wp_cond_split (t := !(decide (g0r2_7 = g0r2_9))) (hA.eval (by kernel_rfl)) (fun h15 => ?_) (fun h15 => ?_)
     · skip
       have h15 := not_t h15
       have h15 := of_decide_eq_false h15
       first
       | (exfalso; clear hA hW; omega)
       | (
         refine wp_seq ?_
         refine wp_region_lit ?_
         refine st_p (Value.bool false) hA ?_; clear hA ac; intro ac hA
         refine wpList_nil ?_
         refine thenN ?_
         refine wp_ret ?_
         refine thenR ?_
         refine ret1 (v := Value.bool false) (by rfl) hA (Got.tmp hA (by kernel_rfl) (by kernel_rfl)) ?_
         clear hA
         refine ⟨retv (congrArg Value.bool ?_), hW.fr⟩; rw [← hr2_7_hp, ← hr2_9_hp, show decide (g0r2_7 = g0r2_9) = false from decide_eq_false (by first | exact h15 | assumption), Bool.and_false])
     · skip
       have h15 := not_f h15
       have h15 := of_decide_eq_true h15
       first
       | (exfalso; clear hA hW; omega)
       | (
         refine wp_skip ?_
         refine thenN ?_
         refine wp_seq ?_
         refine wp_seq ?_
         refine wp_region_lit ?_
         refine st_p (Value.int .i64 0) hA ?_; clear hA ac; intro ac hA
         refine wpList_nil ?_
         refine thenN ?_
         refine wp_block ?_
         refine wp_loop_m (fun m_ ac_ wl_ => ∃ k : Nat, m_ = g0r1_1.length - k ∧ (k ≤ g0r1_1.length) ∧ (g0r1_1.take k = g0r1_3.take k) ∧ Fm 40 [] [(5, Value.slice Aor1_1 (g0r1_1).length cor1_1), (6, Value.slice Aor1_3 (g0r1_3).length cor1_3), (7, Value.int .i64 ((k : Nat) : Int))] ac_ ∧ Ws w No [rowR 35 1 enU4 (Value.slice Aor2_9 (g0r2_9).length cor2_9) g0r2_9, rowR 35 1 enU4 (Value.slice Aor2_7 (g0r2_7).length cor2_7) g0r2_7, rowR 75 8 enCell22 (Value.slice Aor1_3 (g0r1_3).length cor1_3) g0r1_3, rowR 75 8 enCell22 (Value.slice Aor1_1 (g0r1_1).length cor1_1) g0r1_1, Cel b3 #[Value.slice A_R R.length c_R] 45, Cel b1 #[Value.slice A_L L.length c_L] 45] [roR A_R 8 enCell22 R, roR A_L 8 enCell22 L] wl_) _ ⟨0, rfl, by omega, by rfl, hA.sub ⟨⟨by kernel_rfl, by kernel_rfl⟩, ⟨by kernel_rfl, by kernel_rfl⟩, ⟨by kernel_rfl, by kernel_rfl⟩, trivial⟩, (hW.pick [0, 1, 2, 3, 4, 5] (by decide) rfl).pickG [0, 1] rfl⟩ ?_
         clear hA ac hW; rintro m_ ac w16 ⟨k, rfl, hk, hn, hA, hW⟩
         refine wp_seq ?_
         refine wp_seq ?_
         refine wp_region_lit ?_
         refine st_p (Value.int .i64 ((k : Nat) : Int)) hA ?_; clear hA ac; intro ac hA
         refine st_p (Value.slice Aor1_1 (g0r1_1).length cor1_1) hA ?_; clear hA ac; intro ac hA
         refine st_p (Value.int .i64 (((g0r1_1).length : Nat) : Int)) hA ?_; clear hA ac; intro ac hA
         refine st_p (Value.bool (decide ((((k : Nat) : Int) : Int) < ((((g0r1_1).length : Nat) : Int) : Int)))) hA ?_; clear hA ac; intro ac hA
         refine wpList_nil ?_
         refine thenN ?_
         refine wp_cond_split (t := decide ((((k : Nat) : Int) : Int) < ((((g0r1_1).length : Nat) : Int) : Int))) (hA.eval (by kernel_rfl)) (fun h17 => ?_) (fun h17 => ?_)
         · skip
           have h17 := of_decide_eq_true h17
           first
           | (exfalso; clear hA hW; omega)
           | (
             refine wp_skip ?_
             refine thenN ?_
             refine wp_seq ?_
             refine wp_block ?_
             refine wp_seq ?_
             refine q_region (by kernel_rfl) (by kernel_rfl) hW ?_
             refine sq_p (Value.slice Aor1_1 (g0r1_1).length cor1_1) hA ?_; clear hA ac; intro ac hA
             refine sq_p (Value.int .i64 ((k : Nat) : Int)) hA ?_; clear hA ac; intro ac hA
             obtain ⟨y18, hy18⟩ : ∃ y, g0r1_1[k]? = some y := ⟨_, List.getElem?_eq_getElem (by first | omega | (simp; done) | (simp; omega))⟩
             obtain ⟨b19, o20, rfl, hbb19⟩ := row_some (rowR_at ((hW).get 3 rfl) elt_Rc22.len) hy18
             refine sq_q (Value.pointer (some ⟨b19, o20 + k * 8, none⟩)) hA (Rd.indexAddr (e := 75) (sz := 8) (b := b19) (off := o20) (n := (g0r1_1).length) (c := cor1_1) (k := k) (by kernel_rfl) (by kernel_rfl) (by first | omega | (simp; done) | (simp; omega)) (fun _ => by kernel_rfl) (fun _ => by kernel_rfl)) ?_; clear hA ac; intro ac hA
             refine sq_q (Value.agg #[Value.int .u32 y18.addr, Value.int .u64 y18.x.wr, Value.int .i64 y18.x.ws.f, Value.int .i64 y18.x.ws.pc, Value.int .u64 y18.x.rd, Value.int .i64 y18.x.rs.f, Value.int .i64 y18.x.rs.pc, Value.int .i64 y18.x.vec]) hA (Rd.loadRow (b := b19) (i := o20 + k * 8) (xs := [Value.int .u32 y18.addr, Value.int .u64 y18.x.wr, Value.int .i64 y18.x.ws.f, Value.int .i64 y18.x.ws.pc, Value.int .u64 y18.x.rd, Value.int .i64 y18.x.rs.f, Value.int .i64 y18.x.rs.pc, Value.int .i64 y18.x.vec]) (by kernel_rfl) (fun _ hw => row_ld (rowR_at ((hw.1).get 3 rfl) elt_Rc22.len) hy18 (Fr.refl No _) (fun h => h) 0 8 (by kernel_rfl)) (by kernel_rfl)) ?_; clear hA ac; intro ac hA
             refine sq_p (Value.slice Aor1_3 (g0r1_3).length cor1_3) hA ?_; clear hA ac; intro ac hA
             refine sq_p (Value.int .i64 ((k : Nat) : Int)) hA ?_; clear hA ac; intro ac hA
             obtain ⟨y21, hy21⟩ : ∃ y, g0r1_3[k]? = some y := ⟨_, List.getElem?_eq_getElem (by first | omega | (simp; done) | (simp; omega))⟩
             obtain ⟨b22, o23, rfl, hbb22⟩ := row_some (rowR_at ((hW).get 2 rfl) elt_Rc22.len) hy21
             refine sq_q (Value.pointer (some ⟨b22, o23 + k * 8, none⟩)) hA (Rd.indexAddr (e := 75) (sz := 8) (b := b22) (off := o23) (n := (g0r1_3).length) (c := cor1_3) (k := k) (by kernel_rfl) (by kernel_rfl) (by first | omega | (simp; done) | (simp; omega)) (fun _ => by kernel_rfl) (fun _ => by kernel_rfl)) ?_; clear hA ac; intro ac hA
             refine sq_q (Value.agg #[Value.int .u32 y21.addr, Value.int .u64 y21.x.wr, Value.int .i64 y21.x.ws.f, Value.int .i64 y21.x.ws.pc, Value.int .u64 y21.x.rd, Value.int .i64 y21.x.rs.f, Value.int .i64 y21.x.rs.pc, Value.int .i64 y21.x.vec]) hA (Rd.loadRow (b := b22) (i := o23 + k * 8) (xs := [Value.int .u32 y21.addr, Value.int .u64 y21.x.wr, Value.int .i64 y21.x.ws.f, Value.int .i64 y21.x.ws.pc, Value.int .u64 y21.x.rd, Value.int .i64 y21.x.rs.f, Value.int .i64 y21.x.rs.pc, Value.int .i64 y21.x.vec]) (by kernel_rfl) (fun _ hw => row_ld (rowR_at ((hw.1).get 2 rfl) elt_Rc22.len) hy21 (Fr.refl No _) (fun h => h) 0 8 (by kernel_rfl)) (by kernel_rfl)) ?_; clear hA ac; intro ac hA
             refine sq_q (Value.bool (!decide (y18 = y21))) hA (Rd.neS (u := y18.v) (v := y21.v) (by kernel_rfl) (by kernel_rfl) rfl rfl (by kernel_rfl) (fun w => eq_Rc22 w y18 y21)) ?_; clear hA ac; intro ac hA
             refine sq_nil ?_; intro w24 hww24; have hW := hww24.1; have hfw24 := hww24.2; clear hww24
             refine thenN ?_
             refine wp_cond_split (t := !decide (y18 = y21)) (hA.eval (by kernel_rfl)) (fun h25 => ?_) (fun h25 => ?_)
             · skip
               have h25 := not_t h25
               have h25 := of_decide_eq_false h25
               have h25e := fun e => h25 ((Rc22.eqi _ _).2 e)
               first
               | (exfalso; clear hA hW; omega)
               | (
                 refine wp_seq ?_
                 refine wp_region_lit ?_
                 refine st_p (Value.bool false) hA ?_; clear hA ac; intro ac hA
                 refine wpList_nil ?_
                 refine thenN ?_
                 refine wp_ret ?_
                 refine blkR ?_
                 refine thenR ?_
                 refine thenR ?_
                 refine blkR ?_
                 refine thenR ?_
                 refine ret1 (v := Value.bool false) (by rfl) hA (Got.tmp hA (by kernel_rfl) (by kernel_rfl)) ?_
                 clear hA
                 refine ⟨retv (congrArg Value.bool ?_), hW.fr⟩; rw [← hr1_1_hp, ← hr1_3_hp, decide_eq_false (by intro e_; rw [e_, hy21] at hy18; exact h25 (Option.some.inj hy18).symm)]; rfl)
             · skip
               have h25 := not_f h25
               have h25 := of_decide_eq_true h25
               have h25e := (Rc22.eqi _ _).1 h25
               first
               | (exfalso; clear hA hW; omega)
               | (
                 refine wp_skip ?_
                 refine blkN ?_
                 refine thenN ?_
                 refine wp_region_lit ?_
                 refine st_p (Value.int .i64 ((k : Nat) : Int)) hA ?_; clear hA ac; intro ac hA
                 refine st_q (Value.int .i64 ((k + 1 : Nat) : Int)) hA hW.cls (Rd.pureE (v0 := Value.int .i64 (IntKind.i64.wrap ((((k : Nat) : Int) : Int) + 1))) (fun _ => by kernel_rfl) (congrArg (Value.int .i64) ((w_i64 (x := (((k : Nat) : Int) : Int) + 1) (by omega) (by omega)).trans (by omega)))) ?_; clear hA ac; intro ac hA
                 refine st_p (Value.int .i64 ((k + 1 : Nat) : Int)) hA ?_; clear hA ac; intro ac hA
                 refine wpList_nil ?_
                 refine thenN ?_
                 exact ⟨g0r1_1.length - (k + 1), by omega, k + 1, rfl, by omega, by rw [tk_snoc hy18, tk_snoc hy21, hn, show y18 = y21 from by first | assumption | (apply Decidable.byContradiction; assumption)], hA.sub ⟨⟨by kernel_rfl, by kernel_rfl⟩, ⟨by kernel_rfl, by kernel_rfl⟩, ⟨by kernel_rfl, by kernel_rfl⟩, trivial⟩, (hW.pick [0, 1, 2, 3, 4, 5] (by decide) rfl).pickG [0, 1] rfl⟩))
         · skip
           have h17 := of_decide_eq_false h17
           first
           | (exfalso; clear hA hW; omega)
           | (
             refine wp_exit ?_
             refine thenX ?_
             refine thenX ?_
             refine blkX ?_
             refine thenN ?_
             refine wp_seq ?_
             refine wp_region_lit ?_
             refine st_p (Value.bool true) hA ?_; clear hA ac; intro ac hA
             refine wpList_nil ?_
             refine thenN ?_
             refine wp_ret ?_
             refine ret1 (v := Value.bool true) (by rfl) hA (Got.tmp hA (by kernel_rfl) (by kernel_rfl)) ?_
             clear hA
             refine ⟨retv (congrArg Value.bool ?_), hW.fr⟩; rw [List.take_of_length_le (by omega), List.take_of_length_le (by omega)] at hn; rw [← hr1_1_hp, ← hr1_3_hp, ← hr2_7_hp, ← hr2_9_hp, decide_eq_true hn, decide_eq_true (by first | exact h15 | assumption)]; rfl)))
 · skip
   have h9 := of_decide_eq_false h9
   first
   | (exfalso; clear hA hW; omega)
   | (
     have hal_ : g0r1_1.length ≤ 1000 := by rw [hr1_1_hp]; have := allL_len L; omega
     have har_ : g0r1_3.length ≤ 1000 := by rw [hr1_3_hp]; have := allL_len R; omega
     refine wp_cut (fun ac_ wl_ => Fm 40 [] [(0, Value.agg #[Value.slice A_L L.length c_L]), (1, Value.agg #[Value.slice A_R R.length c_R]), (2, Value.pointer (some ⟨b1, 0, none⟩)), (3, Value.pointer (some ⟨b3, 0, none⟩)), (4, Value.bool false), (5, Value.slice Aor1_1 (g0r1_1).length cor1_1), (6, Value.slice Aor1_3 (g0r1_3).length cor1_3), (24, Value.bool true)] ac_ ∧ Ws w No [rowR 75 8 enCell22 (Value.slice Aor1_3 (g0r1_3).length cor1_3) g0r1_3, rowR 75 8 enCell22 (Value.slice Aor1_1 (g0r1_1).length cor1_1) g0r1_1, Cel b3 #[Value.slice A_R R.length c_R] 45, Cel b1 #[Value.slice A_L L.length c_L] 45] [roR A_R 8 enCell22 R, roR A_L 8 enCell22 L] wl_) ?_ ?_
     · refine sr_region (m := 13) (C := Ws w No [rowR 75 8 enCell22 (Value.slice Aor1_3 (g0r1_3).length cor1_3) g0r1_3, rowR 75 8 enCell22 (Value.slice Aor1_1 (g0r1_1).length cor1_1) g0r1_1, Cel b3 #[Value.slice A_R R.length c_R] 45, Cel b1 #[Value.slice A_L L.length c_L] 45] [roR A_R 8 enCell22 R, roR A_L 8 enCell22 L]) (fun i => [6, 8].contains i) (fun i => [6, 7, 8].contains i) (fun i => [0, 1, 2, 3, 4, 5, 11, 12].contains i) (by kernel_rfl) (by kernel_rfl) (by kernel_rfl) (by kernel_rfl) hW ?_; clear hW; intro w26 hW hfw26 hR; have hC : Ws w No [rowR 75 8 enCell22 (Value.slice Aor1_3 (g0r1_3).length cor1_3) g0r1_3, rowR 75 8 enCell22 (Value.slice Aor1_1 (g0r1_1).length cor1_1) g0r1_1, Cel b3 #[Value.slice A_R R.length c_R] 45, Cel b1 #[Value.slice A_L L.length c_L] 45] [roR A_R 8 enCell22 R, roR A_L 8 enCell22 L] w26 := hW.pick [0, 1, 2, 3] (by decide) rfl
       refine sr_p 0 (Value.slice Aor1_1 (g0r1_1).length cor1_1) hR rfl hA ?_; clear hA ac; intro ac hA
       refine sr_p 1 (Value.int .i64 (((g0r1_1).length : Nat) : Int)) hR rfl hA ?_; clear hA ac; intro ac hA
       refine sr_p 2 (Value.slice Aor1_3 (g0r1_3).length cor1_3) hR rfl hA ?_; clear hA ac; intro ac hA
       refine sr_p 3 (Value.int .i64 (((g0r1_3).length : Nat) : Int)) hR rfl hA ?_; clear hA ac; intro ac hA
       refine sr_p 4 (Value.bool (((((g0r1_1).length : Nat) : Int) : Int) != ((((g0r1_3).length : Nat) : Int) : Int))) hR rfl hA ?_; clear hA ac; intro ac hA
       refine sr_p 5 (Value.bool (((((g0r1_1).length : Nat) : Int) : Int) != ((((g0r1_3).length : Nat) : Int) : Int))) hR rfl hA ?_; clear hA ac; intro ac hA
       rw [show (((((g0r1_1).length : Nat) : Int) : Int) != ((((g0r1_3).length : Nat) : Int) : Int)) = true from (by first | (simp; omega) | (simp [h9]; done) | (simp; exact_mod_cast h9))] at hA
       refine sr_skip (i := 6) hR (by kernel_rfl) rfl (by kernel_rfl) (by kernel_rfl) (by kernel_rfl) (fun _ _ _ h => h.elim) hA (by kernel_rfl) (by kernel_rfl) hC ?_; clear hA ac; intro ac hA
       refine sr_skip (i := 8) hR (by kernel_rfl) rfl (by kernel_rfl) (by kernel_rfl) (by kernel_rfl) (fun _ _ _ h => h.elim) hA (by kernel_rfl) (by kernel_rfl) hC ?_; clear hA ac; intro ac hA
       refine sr_one (i := 7) (by kernel_rfl) (sr_pass rfl hA (by kernel_rfl) (by kernel_rfl) ?_); clear hA ac; intro ac hA
       refine ⟨⟨fun _ => (hW.pick [0, 1, 2, 3] (by decide) rfl).pickG [0, 1] rfl, fun h => absurd h (by decide)⟩, ?_⟩; have hC : Ws w No [rowR 75 8 enCell22 (Value.slice Aor1_3 (g0r1_3).length cor1_3) g0r1_3, rowR 75 8 enCell22 (Value.slice Aor1_1 (g0r1_1).length cor1_1) g0r1_1, Cel b3 #[Value.slice A_R R.length c_R] 45, Cel b1 #[Value.slice A_L L.length c_L] 45] [roR A_R 8 enCell22 R, roR A_L 8 enCell22 L] w26 := (hW.pick [0, 1, 2, 3] (by decide) rfl).pickG [0, 1] rfl
       refine sr_one (i := 9) (by kernel_rfl) (sr_pass rfl hA (by kernel_rfl) (by kernel_rfl) ?_); clear hA ac; intro ac hA
       refine ⟨⟨fun h => absurd h (by decide), fun h => absurd h (by decide)⟩, ?_⟩
       refine sr_one (i := 10) (by kernel_rfl) (sr_pass rfl hA (by kernel_rfl) (by kernel_rfl) ?_); clear hA ac; intro ac hA
       refine ⟨⟨fun h => absurd h (by decide), fun h => absurd h (by decide)⟩, ?_⟩
       refine sr_skipP (i := 11) hR (by kernel_rfl) rfl (by kernel_rfl) (by kernel_rfl) (fun _ _ _ h => h.elim) hA (by kernel_rfl) (by kernel_rfl) ?_; clear hA ac; intro ac hA
       refine sr_p 12 (Value.bool true) hR rfl hA ?_; clear hA ac; intro ac hA
       refine sr_done (by kernel_rfl) ?_ _
       exact ⟨hA.sub ⟨⟨by kernel_rfl, by kernel_rfl⟩, ⟨by kernel_rfl, by kernel_rfl⟩, ⟨by kernel_rfl, by kernel_rfl⟩, ⟨by kernel_rfl, by kernel_rfl⟩, ⟨by kernel_rfl, by kernel_rfl⟩, ⟨by kernel_rfl, by kernel_rfl⟩, ⟨by kernel_rfl, by kernel_rfl⟩, ⟨by kernel_rfl, by kernel_rfl⟩, trivial⟩, (hW.pick [0, 1, 2, 3] (by decide) rfl).pickG [0, 1] rfl⟩
     clear hA ac hW; rintro ac w27 ⟨hA, hW⟩
     refine thenN ?_
     refine wp_cond_true (hA.eval (by kernel_rfl)) ?_
     refine wp_seq ?_
     refine wp_region_lit ?_
     refine st_p (Value.bool false) hA ?_; clear hA ac; intro ac hA
     refine wpList_nil ?_
     refine thenN ?_
     refine wp_ret ?_
     refine thenR ?_
     refine ret1 (v := Value.bool false) (by rfl) hA (Got.tmp hA (by kernel_rfl) (by kernel_rfl)) ?_
     clear hA
     refine ⟨retv (congrArg Value.bool ?_), hW.fr⟩; rw [← hr1_1_hp, ← hr1_3_hp, show decide (g0r1_1 = g0r1_3) = false from decide_eq_false (fun e_ => by have := congrArg List.length e_; omega)]; rfl)

end Go.Proofs.Ytcgcippmbeileaa.L
