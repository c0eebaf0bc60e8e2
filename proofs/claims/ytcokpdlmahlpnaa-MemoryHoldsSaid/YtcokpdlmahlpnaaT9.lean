/- Contracts, walked by program over the engine's laws. -/
import Derived.Test.YtcokpdlmahlpnaaProg
import Derived.Test.YtcokpdlmahlpnaaT8
namespace Go.Proofs.Ytcokpdlmahlpnaa.L
open Go.RowKit

theorem last_z {O : List Int} {z : Int} (h : O[Int.toNat (((O.length : Nat) : Int) - 1)]? = some z) : O.getLast? = some z := by
  rw [List.getLast?_eq_getElem?, ← h]; congr 1; omega
set_option maxRecDepth 100000 in
theorem e_rpages (A_L : Option Addr) (c_L : Nat) (L : List Cell6) (w : World) (hr_L : RowAt w A_L 2 enCell6 L) (hc_L : L.length ≤ c_L) (hl : L.length ≤ 100000) (hL : ∀ x ∈ L, 0 ≤ x.addr ∧ x.addr ≤ 4294967295) : Calls Try.prog 37 #[Value.agg #[Value.slice A_L L.length c_L]] w (fun e w' => ∃ ks : List Int, ∃ (A_o : Option Addr) (c_o : Nat), e = .returned (Value.slice A_o (ks).length c_o) ∧ (ks = pagesM L) ∧ (ks).length ≤ c_o ∧ Made (rowR 28 1 enU4 (.slice A_o (ks).length c_o) ks) w w') := by
 have _hu := hc_L; have _hv := hr_L; clear _hu _hv
 have _hu := hl; clear _hu
 have _hu := hL; clear _hu
 refine enter_E 38 Try.func37 rfl rfl (by kernel_rfl) (L := [(0, Value.agg #[Value.slice A_L L.length c_L])]) (by kernel_rfl) ?_
 intro ac hA
 have hW := Ws.start w No
 have hW := hW.arg hr_L
 refine wp_seq ?_
 refine wp_region_lit ?_
 refine st hA (by kernel_rfl) (by kernel_rfl) (by kernel_rfl) (Runs.cells (fun b => Value.pointer (some ⟨b, 0, none⟩)) #[Value.slice A_L L.length c_L] 38 (fun _ => by kernel_rfl) hW ?_); clear hA ac hW; intro b1 w2 hW hb1 hfw2 ac hA
 refine st_rd (v := Value.slice none 0 0) hA (by kernel_rfl) (by kernel_rfl) (by kernel_rfl) hW.cls (Rd.pure fun _ => by kernel_rfl) ?_; clear hA ac; intro ac hA
 refine wpList_nil ?_
 refine thenN ?_
 refine wp_seq ?_
 refine wp_region_lit ?_
 refine st_rd (v := Value.slice none 0 0) hA (by kernel_rfl) (by kernel_rfl) (by kernel_rfl) hW.cls (Rd.pure fun _ => by kernel_rfl) ?_; clear hA ac; intro ac hA
 refine wpList_nil ?_
 refine thenN ?_
 refine wp_seq ?_
 refine wp_seq ?_
 refine wp_region_lit ?_
 refine st_rd (v := Value.int .i64 0) hA (by kernel_rfl) (by kernel_rfl) (by kernel_rfl) hW.cls (Rd.pure fun _ => by kernel_rfl) ?_; clear hA ac; intro ac hA
 refine wpList_nil ?_
 refine thenN ?_
 refine wp_block ?_
 have hW := hW.addNil 28 1 enU4
 refine wp_loop_m (fun m_ ac_ wl_ => ∃ k : Nat, ∃ O : List Int, ∃ A : Option Addr, ∃ c : Nat, m_ = L.length - k ∧ (k ≤ L.length) ∧ (O = (L.take k).foldl pgStep []) ∧ (O.length ≤ k) ∧ (O.length ≤ c) ∧ Fm 38 [] [(1, Value.pointer (some ⟨b1, 0, none⟩)), (3, Value.slice A O.length c), (4, Value.int .i64 ((k : Nat) : Int))] ac_ ∧ Ws w No [rowR 28 1 enU4 (Value.slice A O.length c) O, Cel b1 #[Value.slice A_L L.length c_L] 38] [roR A_L 2 enCell6 L] wl_) _ ⟨0, [], none, 0, rfl, by omega, by rfl, by simp, by simp, hA.sub ⟨⟨by kernel_rfl, by kernel_rfl⟩, ⟨by kernel_rfl, by kernel_rfl⟩, ⟨by kernel_rfl, by kernel_rfl⟩, trivial⟩, (hW.pick [0, 1] (by decide) rfl).pickG [0] rfl⟩ ?_
 clear hA ac hW; rintro m_ ac w3 ⟨k, O, A, c, rfl, hk, hO, hOl, hcO, hA, hW⟩
 refine wp_seq ?_
 refine wp_seq ?_
 refine wp_region_lit ?_
 refine st_rd (v := Value.int .i64 ((k : Nat) : Int)) hA (by kernel_rfl) (by kernel_rfl) (by kernel_rfl) hW.cls (Rd.pure fun _ => by kernel_rfl) ?_; clear hA ac; intro ac hA
 refine st_rd (v := Value.pointer (some ⟨b1, 0, none⟩)) hA (by kernel_rfl) (by kernel_rfl) (by kernel_rfl) hW.cls (Rd.pure fun _ => by kernel_rfl) ?_; clear hA ac; intro ac hA
 refine st_rd (v := Value.slice A_L L.length c_L) hA (by kernel_rfl) (by kernel_rfl) (by kernel_rfl) hW.cls (Rd.load (b := b1) (i := 0) (by kernel_rfl) (fun _ hw => (hw.1).cel 1 rfl) (by kernel_rfl)) ?_; clear hA ac; intro ac hA
 refine st_rd (v := Value.int .i64 ((L.length : Nat) : Int)) hA (by kernel_rfl) (by kernel_rfl) (by kernel_rfl) hW.cls (Rd.pure fun _ => by kernel_rfl) ?_; clear hA ac; intro ac hA
 refine st_rd (v := Value.bool (decide ((((k : Nat) : Int) : Int) < (((L.length : Nat) : Int) : Int)))) hA (by kernel_rfl) (by kernel_rfl) (by kernel_rfl) hW.cls (Rd.pure fun _ => by kernel_rfl) ?_; clear hA ac; intro ac hA
 refine wpList_nil ?_
 refine thenN ?_
 refine wp_cond_split (t := decide ((((k : Nat) : Int) : Int) < (((L.length : Nat) : Int) : Int))) (hA.eval (by kernel_rfl)) (fun h4 => ?_) (fun h4 => ?_)
 · skip
   have h4 := of_decide_eq_true h4
   first
   | (exfalso; clear hA hW; omega)
   | (
     refine wp_skip ?_
     refine thenN ?_
     refine wp_seq ?_
     refine wp_block ?_
     refine wp_seq ?_
     obtain ⟨y_, hy_⟩ : ∃ y, L[k]? = some y := ⟨_, List.getElem?_eq_getElem (by omega)⟩; have hya_ := hL _ (List.mem_of_getElem? hy_)
     refine wp_region_lit ?_
     refine st_rd (v := Value.pointer (some ⟨b1, 0, none⟩)) hA (by kernel_rfl) (by kernel_rfl) (by kernel_rfl) hW.cls (Rd.pure fun _ => by kernel_rfl) ?_; clear hA ac; intro ac hA
     refine st_rd (v := Value.slice A_L L.length c_L) hA (by kernel_rfl) (by kernel_rfl) (by kernel_rfl) hW.cls (Rd.load (b := b1) (i := 0) (by kernel_rfl) (fun _ hw => (hw.1).cel 1 rfl) (by kernel_rfl)) ?_; clear hA ac; intro ac hA
     refine st_rd (v := Value.int .i64 ((k : Nat) : Int)) hA (by kernel_rfl) (by kernel_rfl) (by kernel_rfl) hW.cls (Rd.pure fun _ => by kernel_rfl) ?_; clear hA ac; intro ac hA
     obtain ⟨b5, o6, rfl, hbb5⟩ := row_some ((hW).getG 0 rfl) hy_
     refine st_rd (v := Value.pointer (some ⟨b5, o6 + k * 2, none⟩)) hA (by kernel_rfl) (by kernel_rfl) (by kernel_rfl) hW.cls (Rd.indexAddr (e := 30) (sz := 2) (b := b5) (off := o6) (n := L.length) (c := c_L) (k := k) (by kernel_rfl) (by kernel_rfl) (by first | omega | (simp; done) | (simp; omega)) (fun _ => by kernel_rfl) (fun _ => by kernel_rfl)) ?_; clear hA ac; intro ac hA
     refine st_rd (v := Value.pointer (some ⟨b5, o6 + k * 2, none⟩)) hA (by kernel_rfl) (by kernel_rfl) (by kernel_rfl) hW.cls (Rd.pure fun _ => by kernel_rfl) ?_; clear hA ac; intro ac hA
     refine st_rd (v := Value.int .u32 y_.addr) hA (by kernel_rfl) (by kernel_rfl) (by kernel_rfl) hW.cls (Rd.loadRow (b := b5) (i := o6 + k * 2) (xs := [Value.int .u32 y_.addr]) (by kernel_rfl) (fun _ hw => row_ld ((hw.1).getG 0 rfl) hy_ (Fr.refl No _) (fun h => h) 0 1 (by kernel_rfl)) (by kernel_rfl)) ?_; clear hA ac; intro ac hA
     refine st_rd (v := Value.int .u32 ((y_.addr : Int) / 4096)) hA (by kernel_rfl) (by kernel_rfl) (by kernel_rfl) hW.cls (Rd.pureE (v0 := Value.int .u32 (IntKind.u32.wrap (Int.tdiv (y_.addr : Int) 4096))) (fun _ => by kernel_rfl) (congrArg (Value.int .u32) ((congrArg IntKind.u32.wrap (quo_ (x := y_.addr) (by omega))).trans (w_u32 (by omega) (by omega))))) ?_; clear hA ac; intro ac hA
     refine st_rd (v := Value.int .u32 ((y_.addr : Int) / 4096)) hA (by kernel_rfl) (by kernel_rfl) (by kernel_rfl) hW.cls (Rd.pure fun _ => by kernel_rfl) ?_; clear hA ac; intro ac hA
     refine wpList_nil ?_
     refine thenN ?_
     refine wp_seq ?_
     refine wp_region_lit ?_
     refine st_rd (v := Value.slice A O.length c) hA (by kernel_rfl) (by kernel_rfl) (by kernel_rfl) hW.cls (Rd.pure fun _ => by kernel_rfl) ?_; clear hA ac; intro ac hA
     refine st_rd (v := Value.int .i64 ((O.length : Nat) : Int)) hA (by kernel_rfl) (by kernel_rfl) (by kernel_rfl) hW.cls (Rd.pure fun _ => by kernel_rfl) ?_; clear hA ac; intro ac hA
     refine st_rd (v := Value.bool ((((O.length : Nat) : Int) : Int) == (0 : Int))) hA (by kernel_rfl) (by kernel_rfl) (by kernel_rfl) hW.cls (Rd.pure fun _ => by kernel_rfl) ?_; clear hA ac; intro ac hA
     refine st_rd (v := Value.bool ((((O.length : Nat) : Int) : Int) == (0 : Int))) hA (by kernel_rfl) (by kernel_rfl) (by kernel_rfl) hW.cls (Rd.pure fun _ => by kernel_rfl) ?_; clear hA ac; intro ac hA
     rcases Bool.eq_false_or_eq_true ((((O.length : Nat) : Int) : Int) == (0 : Int)) with h7 | h7
     · skip
       rw [h7] at hA
       have h7 := eq_of_beq h7
       first
       | (exfalso; clear hA hW; omega)
       | (
         refine st_skip hA (by kernel_rfl) (by kernel_rfl) ?_; clear hA ac; intro ac hA
         refine st_skip hA (by kernel_rfl) (by kernel_rfl) ?_; clear hA ac; intro ac hA
         refine st_skip hA (by kernel_rfl) (by kernel_rfl) ?_; clear hA ac; intro ac hA
         refine st_skip hA (by kernel_rfl) (by kernel_rfl) ?_; clear hA ac; intro ac hA
         refine st_skip hA (by kernel_rfl) (by kernel_rfl) ?_; clear hA ac; intro ac hA
         refine st_skip hA (by kernel_rfl) (by kernel_rfl) ?_; clear hA ac; intro ac hA
         refine st_skip hA (by kernel_rfl) (by kernel_rfl) ?_; clear hA ac; intro ac hA
         refine st_skip hA (by kernel_rfl) (by kernel_rfl) ?_; clear hA ac; intro ac hA
         refine st_rd (v := Value.bool true) hA (by kernel_rfl) (by kernel_rfl) (by kernel_rfl) hW.cls (Rd.pure fun _ => by kernel_rfl) ?_; clear hA ac; intro ac hA
         refine wpList_nil ?_
         refine thenN ?_
         refine wp_cond_true (hA.eval (by kernel_rfl)) ?_
         refine wp_region_lit ?_
         refine st_rd (v := Value.slice A O.length c) hA (by kernel_rfl) (by kernel_rfl) (by kernel_rfl) hW.cls (Rd.pure fun _ => by kernel_rfl) ?_; clear hA ac; intro ac hA
         refine st_rd (v := Value.int .u32 ((y_.addr : Int) / 4096)) hA (by kernel_rfl) (by kernel_rfl) (by kernel_rfl) hW.cls (Rd.pure fun _ => by kernel_rfl) ?_; clear hA ac; intro ac hA
         refine st hA (by kernel_rfl) (by kernel_rfl) (by kernel_rfl) (Runs.cells (fun b => Value.slice (some ⟨b, 0, none⟩) 1 1) #[Value.int .u32 ((y_.addr : Int) / 4096)] 28 (fun _ => by kernel_rfl) hW ?_); clear hA ac hW; intro b8 w9 hW hb8 hfw9 ac hA
         refine st hA (by kernel_rfl) (by kernel_rfl) (by kernel_rfl) (Runs.appOwn (B := (some ⟨b8, 0, none⟩)) (k := 1) (E := 28) (sz := 1) (en := enU4) (l := O) (m := ([(y_.addr : Int) / 4096] : List Int)) (i := 1) (by kernel_rfl) (by kernel_rfl) elt_U4 (by kernel_rfl) hW rfl (rowAt_cel ((hW).cel 0 rfl) ([(y_.addr : Int) / 4096] : List Int) (by rfl) elt_U4.len) (by first | omega | (simp; done) | (simp; omega)) (by first | omega | (simp; done) | (simp; omega)) ?_); clear hA ac hW; intro A10 c11 w12 hW hcc11 ac hA
         refine st_rd (v := Value.slice A10 (O ++ ([(y_.addr : Int) / 4096] : List Int)).length c11) hA (by kernel_rfl) (by kernel_rfl) (by kernel_rfl) hW.cls (Rd.pure fun _ => by kernel_rfl) ?_; clear hA ac; intro ac hA
         refine wpList_nil ?_
         refine blkN ?_
         refine thenN ?_
         refine wp_region_lit ?_
         refine st_rd (v := Value.int .i64 ((k : Nat) : Int)) hA (by kernel_rfl) (by kernel_rfl) (by kernel_rfl) hW.cls (Rd.pure fun _ => by kernel_rfl) ?_; clear hA ac; intro ac hA
         refine st_rd (v := Value.int .i64 ((k + 1 : Nat) : Int)) hA (by kernel_rfl) (by kernel_rfl) (by kernel_rfl) hW.cls (Rd.pureE (v0 := Value.int .i64 (IntKind.i64.wrap ((((k : Nat) : Int) : Int) + 1))) (fun _ => by kernel_rfl) (congrArg (Value.int .i64) ((w_i64 (x := (((k : Nat) : Int) : Int) + 1) (by omega) (by omega)).trans (by omega)))) ?_; clear hA ac; intro ac hA
         refine st_rd (v := Value.int .i64 ((k + 1 : Nat) : Int)) hA (by kernel_rfl) (by kernel_rfl) (by kernel_rfl) hW.cls (Rd.pure fun _ => by kernel_rfl) ?_; clear hA ac; intro ac hA
         refine wpList_nil ?_
         refine thenN ?_
         exact ⟨L.length - (k + 1), by omega, k + 1, O ++ ([(y_.addr : Int) / 4096] : List Int), A10, c11, rfl, by omega, by rw [foldl_snoc hy_, ← hO]; unfold pgStep; rw [if_neg (by rw [show O = [] from List.eq_nil_of_length_eq_zero (by omega)]; simp)], by first | omega | (simp; omega), by exact hcc11, hA.sub ⟨⟨by kernel_rfl, by kernel_rfl⟩, ⟨by kernel_rfl, by kernel_rfl⟩, ⟨by kernel_rfl, by kernel_rfl⟩, trivial⟩, (hW.pick [1, 2] (by decide) rfl).pickG [0] rfl⟩)
     · skip
       rw [h7] at hA
       have h7 := ne_of_beq_false h7
       first
       | (exfalso; clear hA hW; omega)
       | (
         refine st_rd (v := Value.slice A O.length c) hA (by kernel_rfl) (by kernel_rfl) (by kernel_rfl) hW.cls (Rd.pure fun _ => by kernel_rfl) ?_; clear hA ac; intro ac hA
         refine st_rd (v := Value.slice A O.length c) hA (by kernel_rfl) (by kernel_rfl) (by kernel_rfl) hW.cls (Rd.pure fun _ => by kernel_rfl) ?_; clear hA ac; intro ac hA
         refine st_rd (v := Value.int .i64 ((O.length : Nat) : Int)) hA (by kernel_rfl) (by kernel_rfl) (by kernel_rfl) hW.cls (Rd.pure fun _ => by kernel_rfl) ?_; clear hA ac; intro ac hA
         refine st_rd (v := Value.int .i64 ((((O.length : Nat) : Int) : Int) - 1)) hA (by kernel_rfl) (by kernel_rfl) (by kernel_rfl) hW.cls (Rd.pureE (v0 := Value.int .i64 (IntKind.i64.wrap ((((O.length : Nat) : Int) : Int) - 1))) (fun _ => by kernel_rfl) (congrArg (Value.int .i64) ((w_i64 (x := (((O.length : Nat) : Int) : Int) - 1) (by omega) (by omega)).trans (by omega)))) ?_; clear hA ac; intro ac hA
         obtain ⟨y13, hy13⟩ : ∃ y, O[Int.toNat ((((O.length : Nat) : Int) : Int) - 1)]? = some y := ⟨_, List.getElem?_eq_getElem (by first | omega | (simp; done) | (simp; omega))⟩
         obtain ⟨b14, o15, rfl, hbb14⟩ := row_some (rowR_at ((hW).get 0 rfl) elt_U4.len) hy13
         refine st_rd (v := Value.pointer (some ⟨b14, o15 + (Int.toNat ((((O.length : Nat) : Int) : Int) - 1)) * 1, none⟩)) hA (by kernel_rfl) (by kernel_rfl) (by kernel_rfl) hW.cls (Rd.indexAddrI (e := 28) (sz := 1) (b := b14) (off := o15) (n := O.length) (c := c) (k := (((O.length : Nat) : Int) : Int) - 1) (by kernel_rfl) (by kernel_rfl) (by omega) (by first | omega | (simp; done) | (simp; omega)) (fun _ => by kernel_rfl) (fun _ => by kernel_rfl)) ?_; clear hA ac; intro ac hA
         refine st_rd (v := Value.int .u32 y13) hA (by kernel_rfl) (by kernel_rfl) (by kernel_rfl) hW.cls (Rd.loadRow (b := b14) (i := o15 + (Int.toNat ((((O.length : Nat) : Int) : Int) - 1)) * 1) (xs := [Value.int .u32 y13]) (by kernel_rfl) (fun _ hw => row_ld (rowR_at ((hw.1).get 0 rfl) elt_U4.len) hy13 (Fr.refl No _) (fun h => h) 0 1 (by kernel_rfl)) (by kernel_rfl)) ?_; clear hA ac; intro ac hA
         refine st_rd (v := Value.int .u32 ((y_.addr : Int) / 4096)) hA (by kernel_rfl) (by kernel_rfl) (by kernel_rfl) hW.cls (Rd.pure fun _ => by kernel_rfl) ?_; clear hA ac; intro ac hA
         refine st_rd (v := Value.bool ((y13 : Int) != ((y_.addr : Int) / 4096 : Int))) hA (by kernel_rfl) (by kernel_rfl) (by kernel_rfl) hW.cls (Rd.pure fun _ => by kernel_rfl) ?_; clear hA ac; intro ac hA
         refine st_rd (v := Value.bool ((y13 : Int) != ((y_.addr : Int) / 4096 : Int))) hA (by kernel_rfl) (by kernel_rfl) (by kernel_rfl) hW.cls (Rd.pure fun _ => by kernel_rfl) ?_; clear hA ac; intro ac hA
         refine wpList_nil ?_
         refine thenN ?_
         refine wp_cond_split (t := (y13 : Int) != ((y_.addr : Int) / 4096 : Int)) (hA.eval (by kernel_rfl)) (fun h16 => ?_) (fun h16 => ?_)
         · skip
           have h16 := bne_iff_ne.1 h16
           first
           | (exfalso; clear hA hW; omega)
           | (
             refine wp_region_lit ?_
             refine st_rd (v := Value.slice (some ⟨b14, o15, none⟩) O.length c) hA (by kernel_rfl) (by kernel_rfl) (by kernel_rfl) hW.cls (Rd.pure fun _ => by kernel_rfl) ?_; clear hA ac; intro ac hA
             refine st_rd (v := Value.int .u32 ((y_.addr : Int) / 4096)) hA (by kernel_rfl) (by kernel_rfl) (by kernel_rfl) hW.cls (Rd.pure fun _ => by kernel_rfl) ?_; clear hA ac; intro ac hA
             refine st hA (by kernel_rfl) (by kernel_rfl) (by kernel_rfl) (Runs.cells (fun b => Value.slice (some ⟨b, 0, none⟩) 1 1) #[Value.int .u32 ((y_.addr : Int) / 4096)] 28 (fun _ => by kernel_rfl) hW ?_); clear hA ac hW; intro b17 w18 hW hb17 hfw18 ac hA
             refine st hA (by kernel_rfl) (by kernel_rfl) (by kernel_rfl) (Runs.appOwn (B := (some ⟨b17, 0, none⟩)) (k := 1) (E := 28) (sz := 1) (en := enU4) (l := O) (m := ([(y_.addr : Int) / 4096] : List Int)) (i := 1) (by kernel_rfl) (by kernel_rfl) elt_U4 (by kernel_rfl) hW rfl (rowAt_cel ((hW).cel 0 rfl) ([(y_.addr : Int) / 4096] : List Int) (by rfl) elt_U4.len) (by first | omega | (simp; done) | (simp; omega)) (by first | omega | (simp; done) | (simp; omega)) ?_); clear hA ac hW; intro A19 c20 w21 hW hcc20 ac hA
             refine st_rd (v := Value.slice A19 (O ++ ([(y_.addr : Int) / 4096] : List Int)).length c20) hA (by kernel_rfl) (by kernel_rfl) (by kernel_rfl) hW.cls (Rd.pure fun _ => by kernel_rfl) ?_; clear hA ac; intro ac hA
             refine wpList_nil ?_
             refine blkN ?_
             refine thenN ?_
             refine wp_region_lit ?_
             refine st_rd (v := Value.int .i64 ((k : Nat) : Int)) hA (by kernel_rfl) (by kernel_rfl) (by kernel_rfl) hW.cls (Rd.pure fun _ => by kernel_rfl) ?_; clear hA ac; intro ac hA
             refine st_rd (v := Value.int .i64 ((k + 1 : Nat) : Int)) hA (by kernel_rfl) (by kernel_rfl) (by kernel_rfl) hW.cls (Rd.pureE (v0 := Value.int .i64 (IntKind.i64.wrap ((((k : Nat) : Int) : Int) + 1))) (fun _ => by kernel_rfl) (congrArg (Value.int .i64) ((w_i64 (x := (((k : Nat) : Int) : Int) + 1) (by omega) (by omega)).trans (by omega)))) ?_; clear hA ac; intro ac hA
             refine st_rd (v := Value.int .i64 ((k + 1 : Nat) : Int)) hA (by kernel_rfl) (by kernel_rfl) (by kernel_rfl) hW.cls (Rd.pure fun _ => by kernel_rfl) ?_; clear hA ac; intro ac hA
             refine wpList_nil ?_
             refine thenN ?_
             exact ⟨L.length - (k + 1), by omega, k + 1, O ++ ([(y_.addr : Int) / 4096] : List Int), A19, c20, rfl, by omega, by rw [foldl_snoc hy_, ← hO]; unfold pgStep; rw [if_neg (by rw [last_z hy13]; simp; omega)], by first | omega | (simp; omega), by exact hcc20, hA.sub ⟨⟨by kernel_rfl, by kernel_rfl⟩, ⟨by kernel_rfl, by kernel_rfl⟩, ⟨by kernel_rfl, by kernel_rfl⟩, trivial⟩, (hW.pick [1, 2] (by decide) rfl).pickG [0] rfl⟩)
         · skip
           have h16 := of_bne_f h16
           first
           | (exfalso; clear hA hW; omega)
           | (
             refine wp_skip ?_
             refine blkN ?_
             refine thenN ?_
             refine wp_region_lit ?_
             refine st_rd (v := Value.int .i64 ((k : Nat) : Int)) hA (by kernel_rfl) (by kernel_rfl) (by kernel_rfl) hW.cls (Rd.pure fun _ => by kernel_rfl) ?_; clear hA ac; intro ac hA
             refine st_rd (v := Value.int .i64 ((k + 1 : Nat) : Int)) hA (by kernel_rfl) (by kernel_rfl) (by kernel_rfl) hW.cls (Rd.pureE (v0 := Value.int .i64 (IntKind.i64.wrap ((((k : Nat) : Int) : Int) + 1))) (fun _ => by kernel_rfl) (congrArg (Value.int .i64) ((w_i64 (x := (((k : Nat) : Int) : Int) + 1) (by omega) (by omega)).trans (by omega)))) ?_; clear hA ac; intro ac hA
             refine st_rd (v := Value.int .i64 ((k + 1 : Nat) : Int)) hA (by kernel_rfl) (by kernel_rfl) (by kernel_rfl) hW.cls (Rd.pure fun _ => by kernel_rfl) ?_; clear hA ac; intro ac hA
             refine wpList_nil ?_
             refine thenN ?_
             exact ⟨L.length - (k + 1), by omega, k + 1, O, (some ⟨b14, o15, none⟩), c, rfl, by omega, by rw [foldl_snoc hy_, ← hO]; unfold pgStep; rw [if_pos (by rw [last_z hy13]; simp; omega)], by first | omega | (simp; omega), by exact hcO, hA.sub ⟨⟨by kernel_rfl, by kernel_rfl⟩, ⟨by kernel_rfl, by kernel_rfl⟩, ⟨by kernel_rfl, by kernel_rfl⟩, trivial⟩, (hW.pick [0, 1] (by decide) rfl).pickG [0] rfl⟩)))
 · skip
   have h4 := of_decide_eq_false h4
   first
   | (exfalso; clear hA hW; omega)
   | (
     refine wp_exit ?_
     refine thenX ?_
     refine thenX ?_
     refine blkX ?_
     refine thenN ?_
     refine wp_seq ?_
     refine wp_region_lit ?_
     refine st_rd (v := Value.slice A O.length c) hA (by kernel_rfl) (by kernel_rfl) (by kernel_rfl) hW.cls (Rd.pure fun _ => by kernel_rfl) ?_; clear hA ac; intro ac hA
     refine st_rd (v := Value.slice A O.length c) hA (by kernel_rfl) (by kernel_rfl) (by kernel_rfl) hW.cls (Rd.pure fun _ => by kernel_rfl) ?_; clear hA ac; intro ac hA
     refine wpList_nil ?_
     refine thenN ?_
     refine wp_ret ?_
     refine ret1 (v := Value.slice A O.length c) (by rfl) hA (Got.tmp hA (by kernel_rfl) (by kernel_rfl)) ?_
     clear hA
     rw [List.take_of_length_le (by omega)] at hO
     exact ⟨O, A, c, by first | rfl | (simp; done), by exact hO, (own_cap ((hW).get 0 rfl)), hW.madeRow 0 rfl⟩)

end Go.Proofs.Ytcokpdlmahlpnaa.L
