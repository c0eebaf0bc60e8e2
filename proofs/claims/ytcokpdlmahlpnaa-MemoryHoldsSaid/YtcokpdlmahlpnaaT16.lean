/- Contracts, walked by program over the engine's laws. -/
import Derived.Test.YtcokpdlmahlpnaaProg
import Derived.Test.YtcokpdlmahlpnaaT15
namespace Go.Proofs.Ytcokpdlmahlpnaa.L
open Go.RowKit

/-- Four bytes of a number. -/
def fix4 (n : Int) : List Int := [n % 256, n / 256 % 256, n / 65536 % 256, n / 16777216 % 256]
set_option maxRecDepth 100000 in
theorem e_fixed4 (n : Int) (w : World) (hn : 0 ≤ n ∧ n ≤ 4294967295) : Calls Try.prog 45 #[Value.int .u64 n, Value.int .i64 4] w (fun e w' => ∃ O_ : List Int, ∃ (A_o : Option Addr) (c_o : Nat), e = .returned (Value.tuple #[Value.slice A_o (O_).length c_o, Value.int .i64 0]) ∧ (O_ = fix4 n) ∧ (O_).length ≤ c_o ∧ Made (rowR 5 1 enB6 (.slice A_o (O_).length c_o) O_) w w') := by
 have _hu := hn; clear _hu
 refine enter_E 34 Try.func45 rfl rfl (by kernel_rfl) (L := [(0, Value.int .u64 n), (1, Value.int .i64 4)]) (by kernel_rfl) ?_
 intro ac hA
 have hW := Ws.start w No
 refine wp_seq ?_
 refine wp_region_lit ?_
 refine st_rd (v := Value.slice none 0 0) hA (by kernel_rfl) (by kernel_rfl) (by kernel_rfl) hW.cls (Rd.pure fun _ => by kernel_rfl) ?_; clear hA ac; intro ac hA
 refine st_rd (v := Value.int .i64 0) hA (by kernel_rfl) (by kernel_rfl) (by kernel_rfl) hW.cls (Rd.pure fun _ => by kernel_rfl) ?_; clear hA ac; intro ac hA
 refine wpList_nil ?_
 refine thenN ?_
 refine wp_fwd (l := 0) rfl ?_
 refine wp_seq ?_
 refine wp_seq ?_
 refine wp_region_lit ?_
 refine st_rd (v := Value.int .i64 2) hA (by kernel_rfl) (by kernel_rfl) (by kernel_rfl) hW.cls (Rd.pure fun _ => by kernel_rfl) ?_; clear hA ac; intro ac hA
 refine wpList_nil ?_
 refine thenN ?_
 refine wp_seq ?_
 refine wp_region_lit ?_
 refine st_rd (v := Value.int .i64 4) hA (by kernel_rfl) (by kernel_rfl) (by kernel_rfl) hW.cls (Rd.pure fun _ => by kernel_rfl) ?_; clear hA ac; intro ac hA
 refine st hA (by kernel_rfl) (by kernel_rfl) (by kernel_rfl) (Runs.callN (v := Value.bool (decide ((4) ∈ ([1, 2, 4, 8] : List Int)))) (fun _ => by kernel_rfl) hW (e_oright (4) w) ?_); clear hA ac hW; intro w1 hW hfw1 ac hA
 refine st_rd (v := Value.bool (!(decide ((4) ∈ ([1, 2, 4, 8] : List Int))))) hA (by kernel_rfl) (by kernel_rfl) (by kernel_rfl) hW.cls (Rd.pure fun _ => by kernel_rfl) ?_; clear hA ac; intro ac hA
 refine wpList_nil ?_
 refine thenN ?_
 refine wp_cond_split (t := !(decide ((4) ∈ ([1, 2, 4, 8] : List Int)))) (hA.eval (by kernel_rfl)) (fun h2 => ?_) (fun h2 => ?_)
 · skip
   have h2 := not_t h2
   first
   | (exfalso; clear hA hW; omega)
   | (exfalso; clear hA hW; exact absurd h2 (by decide); done)
   | (
     fail)
 · skip
   have h2 := not_f h2
   first
   | (exfalso; clear hA hW; omega)
   | (exfalso; clear hA hW; exact absurd h2 (by decide); done)
   | (
     refine wp_skip ?_
     refine thenN ?_
     refine wp_seq ?_
     refine wp_seq ?_
     refine wp_region_lit ?_
     refine st_rd (v := Value.int .i64 4) hA (by kernel_rfl) (by kernel_rfl) (by kernel_rfl) hW.cls (Rd.pure fun _ => by kernel_rfl) ?_; clear hA ac; intro ac hA
     refine wpList_nil ?_
     refine thenN ?_
     refine wp_seq ?_
     refine wp_region_lit ?_
     refine st_rd (v := Value.int .i64 4) hA (by kernel_rfl) (by kernel_rfl) (by kernel_rfl) hW.cls (Rd.pure fun _ => by kernel_rfl) ?_; clear hA ac; intro ac hA
     refine st_rd (v := Value.bool true) hA (by kernel_rfl) (by kernel_rfl) (by kernel_rfl) hW.cls (Rd.pure fun _ => by kernel_rfl) ?_; clear hA ac; intro ac hA
     refine st_rd (v := Value.bool true) hA (by kernel_rfl) (by kernel_rfl) (by kernel_rfl) hW.cls (Rd.pure fun _ => by kernel_rfl) ?_; clear hA ac; intro ac hA
     refine st_rd (v := Value.int .u64 n) hA (by kernel_rfl) (by kernel_rfl) (by kernel_rfl) hW.cls (Rd.pure fun _ => by kernel_rfl) ?_; clear hA ac; intro ac hA
     refine st_rd (v := Value.int .i64 4) hA (by kernel_rfl) (by kernel_rfl) (by kernel_rfl) hW.cls (Rd.pure fun _ => by kernel_rfl) ?_; clear hA ac; intro ac hA
     refine st_rd (v := Value.int .i64 32) hA (by kernel_rfl) (by kernel_rfl) (by kernel_rfl) hW.cls (Rd.pureE (v0 := Value.int .i64 (IntKind.i64.wrap ((8 : Int) * 4))) (fun _ => by kernel_rfl) (congrArg (Value.int .i64) ((w_i64 (x := (8 : Int) * 4) (by omega) (by omega)).trans (by omega)))) ?_; clear hA ac; intro ac hA
     refine st_rd (v := Value.int .u64 ((n : Int) / 4294967296)) hA (by kernel_rfl) (by kernel_rfl) (by kernel_rfl) hW.cls (Rd.pureE (v0 := Value.int .u64 (Int.fdiv (n : Int) (2 ^ 32))) (fun _ => by kernel_rfl) (congrArg (Value.int .u64) (by rw [Int.fdiv_eq_ediv_of_nonneg _ (by decide)]; rfl))) ?_; clear hA ac; intro ac hA
     refine st_rd (v := Value.bool (decide (((n : Int) / 4294967296 : Int) > (0 : Int)))) hA (by kernel_rfl) (by kernel_rfl) (by kernel_rfl) hW.cls (Rd.pure fun _ => by kernel_rfl) ?_; clear hA ac; intro ac hA
     refine st_rd (v := Value.bool (decide (((n : Int) / 4294967296 : Int) > (0 : Int)))) hA (by kernel_rfl) (by kernel_rfl) (by kernel_rfl) hW.cls (Rd.pure fun _ => by kernel_rfl) ?_; clear hA ac; intro ac hA
     refine wpList_nil ?_
     refine thenN ?_
     refine wp_cond_split (t := decide (((n : Int) / 4294967296 : Int) > (0 : Int))) (hA.eval (by kernel_rfl)) (fun h3 => ?_) (fun h3 => ?_)
     · skip
       have h3 := of_decide_eq_true h3
       first
       | (exfalso; clear hA hW; omega)
       | (
         fail)
     · skip
       have h3 := of_decide_eq_false h3
       first
       | (exfalso; clear hA hW; omega)
       | (
         refine wp_skip ?_
         refine thenN ?_
         refine wp_seq ?_
         refine wp_seq ?_
         refine wp_region_lit ?_
         refine st_rd (v := Value.int .i64 4) hA (by kernel_rfl) (by kernel_rfl) (by kernel_rfl) hW.cls (Rd.pure fun _ => by kernel_rfl) ?_; clear hA ac; intro ac hA
         refine st_rd (v := Value.int .i64 0) hA (by kernel_rfl) (by kernel_rfl) (by kernel_rfl) hW.cls (Rd.pure fun _ => by kernel_rfl) ?_; clear hA ac; intro ac hA
         refine wpList_nil ?_
         refine thenN ?_
         refine wp_block ?_
         refine wp_loop_rounds 5 ?_
         rw [rounds_succ]
         refine wp_seq ?_
         refine wp_region_lit ?_
         refine st_rd (v := Value.bool true) hA (by kernel_rfl) (by kernel_rfl) (by kernel_rfl) hW.cls (Rd.pure fun _ => by kernel_rfl) ?_; clear hA ac; intro ac hA
         refine wpList_nil ?_
         refine thenN ?_
         refine wp_seq ?_
         refine wp_cond_true (hA.eval (by kernel_rfl)) ?_
         refine wp_skip ?_
         refine thenN ?_
         refine wp_seq ?_
         refine wp_block ?_
         refine wp_seq ?_
         refine wp_region_lit ?_
         refine st_rd (v := Value.int .i64 0) hA (by kernel_rfl) (by kernel_rfl) (by kernel_rfl) hW.cls (Rd.pure fun _ => by kernel_rfl) ?_; clear hA ac; intro ac hA
         refine st_rd (v := Value.int .i64 0) hA (by kernel_rfl) (by kernel_rfl) (by kernel_rfl) hW.cls (Rd.pure fun _ => by kernel_rfl) ?_; clear hA ac; intro ac hA
         refine wpList_nil ?_
         refine thenN ?_
         refine wp_region_lit ?_
         refine st_rd (v := Value.slice none 0 0) hA (by kernel_rfl) (by kernel_rfl) (by kernel_rfl) hW.cls (Rd.pure fun _ => by kernel_rfl) ?_; clear hA ac; intro ac hA
         refine st_rd (v := Value.int .u64 n) hA (by kernel_rfl) (by kernel_rfl) (by kernel_rfl) hW.cls (Rd.pure fun _ => by kernel_rfl) ?_; clear hA ac; intro ac hA
         refine st_rd (v := Value.int .i64 0) hA (by kernel_rfl) (by kernel_rfl) (by kernel_rfl) hW.cls (Rd.pure fun _ => by kernel_rfl) ?_; clear hA ac; intro ac hA
         refine st_rd (v := Value.int .i64 0) hA (by kernel_rfl) (by kernel_rfl) (by kernel_rfl) hW.cls (Rd.pureE (v0 := Value.int .i64 (IntKind.i64.wrap ((8 : Int) * 0))) (fun _ => by kernel_rfl) (congrArg (Value.int .i64) ((w_i64 (x := (8 : Int) * 0) (by omega) (by omega)).trans (by omega)))) ?_; clear hA ac; intro ac hA
         refine st_rd (v := Value.int .u64 ((n : Int) / 1)) hA (by kernel_rfl) (by kernel_rfl) (by kernel_rfl) hW.cls (Rd.pureE (v0 := Value.int .u64 (Int.fdiv (n : Int) (2 ^ 0))) (fun _ => by kernel_rfl) (congrArg (Value.int .u64) (by rw [Int.fdiv_eq_ediv_of_nonneg _ (by decide)]; rfl))) ?_; clear hA ac; intro ac hA
         refine st_rd (v := Value.int .u8 (((n : Int) / 1) % 256)) hA (by kernel_rfl) (by kernel_rfl) (by kernel_rfl) hW.cls (Rd.pureE (v0 := Value.int .u8 (IntKind.u8.wrap ((n : Int) / 1))) (fun _ => by kernel_rfl) (congrArg (Value.int .u8) (w8 _))) ?_; clear hA ac; intro ac hA
         refine st hA (by kernel_rfl) (by kernel_rfl) (by kernel_rfl) (Runs.cells (fun b => Value.slice (some ⟨b, 0, none⟩) 1 1) #[Value.int .u8 (((n : Int) / 1) % 256)] 5 (fun _ => by kernel_rfl) hW ?_); clear hA ac hW; intro b4 w5 hW hb4 hfw5 ac hA
         have hW := hW.addNil 5 1 enB6
         refine st hA (by kernel_rfl) (by kernel_rfl) (by kernel_rfl) (Runs.appOwn (B := (some ⟨b4, 0, none⟩)) (k := 1) (E := 5) (sz := 1) (en := enB6) (l := ([] : List Int)) (m := ([(((n : Int) / 1) % 256)] : List Int)) (i := 0) (by kernel_rfl) (by kernel_rfl) elt_B6 (by kernel_rfl) hW rfl (rowAt_cel ((hW).cel 1 rfl) ([(((n : Int) / 1) % 256)] : List Int) (by rfl) elt_B6.len) (by first | omega | (simp; done) | (simp; omega)) (by first | omega | (simp; done) | (simp; omega)) ?_); clear hA ac hW; intro A7 c8 w9 hW hcc8 ac hA
         refine st_rd (v := Value.slice A7 (([] : List Int) ++ ([(((n : Int) / 1) % 256)] : List Int)).length c8) hA (by kernel_rfl) (by kernel_rfl) (by kernel_rfl) hW.cls (Rd.pure fun _ => by kernel_rfl) ?_; clear hA ac; intro ac hA
         refine wpList_nil ?_
         refine blkN ?_
         refine thenN ?_
         refine wp_region_lit ?_
         refine st_rd (v := Value.int .i64 1) hA (by kernel_rfl) (by kernel_rfl) (by kernel_rfl) hW.cls (Rd.pureE (v0 := Value.int .i64 (IntKind.i64.wrap ((0 : Int) + 1))) (fun _ => by kernel_rfl) (congrArg (Value.int .i64) ((w_i64 (x := (0 : Int) + 1) (by omega) (by omega)).trans (by omega)))) ?_; clear hA ac; intro ac hA
         refine st_rd (v := Value.int .i64 1) hA (by kernel_rfl) (by kernel_rfl) (by kernel_rfl) hW.cls (Rd.pure fun _ => by kernel_rfl) ?_; clear hA ac; intro ac hA
         refine wpList_nil ?_
         refine thenN ?_
         rw [rounds_succ]
         refine wp_seq ?_
         refine wp_region_lit ?_
         refine st_rd (v := Value.bool true) hA (by kernel_rfl) (by kernel_rfl) (by kernel_rfl) hW.cls (Rd.pure fun _ => by kernel_rfl) ?_; clear hA ac; intro ac hA
         refine wpList_nil ?_
         refine thenN ?_
         refine wp_seq ?_
         refine wp_cond_true (hA.eval (by kernel_rfl)) ?_
         refine wp_skip ?_
         refine thenN ?_
         refine wp_seq ?_
         refine wp_block ?_
         refine wp_seq ?_
         refine wp_region_lit ?_
         refine st_rd (v := Value.int .i64 1) hA (by kernel_rfl) (by kernel_rfl) (by kernel_rfl) hW.cls (Rd.pure fun _ => by kernel_rfl) ?_; clear hA ac; intro ac hA
         refine st_rd (v := Value.int .i64 1) hA (by kernel_rfl) (by kernel_rfl) (by kernel_rfl) hW.cls (Rd.pure fun _ => by kernel_rfl) ?_; clear hA ac; intro ac hA
         refine wpList_nil ?_
         refine thenN ?_
         refine wp_region_lit ?_
         refine st_rd (v := Value.slice A7 (([] : List Int) ++ ([(((n : Int) / 1) % 256)] : List Int)).length c8) hA (by kernel_rfl) (by kernel_rfl) (by kernel_rfl) hW.cls (Rd.pure fun _ => by kernel_rfl) ?_; clear hA ac; intro ac hA
         refine st_rd (v := Value.int .u64 n) hA (by kernel_rfl) (by kernel_rfl) (by kernel_rfl) hW.cls (Rd.pure fun _ => by kernel_rfl) ?_; clear hA ac; intro ac hA
         refine st_rd (v := Value.int .i64 1) hA (by kernel_rfl) (by kernel_rfl) (by kernel_rfl) hW.cls (Rd.pure fun _ => by kernel_rfl) ?_; clear hA ac; intro ac hA
         refine st_rd (v := Value.int .i64 8) hA (by kernel_rfl) (by kernel_rfl) (by kernel_rfl) hW.cls (Rd.pureE (v0 := Value.int .i64 (IntKind.i64.wrap ((8 : Int) * 1))) (fun _ => by kernel_rfl) (congrArg (Value.int .i64) ((w_i64 (x := (8 : Int) * 1) (by omega) (by omega)).trans (by omega)))) ?_; clear hA ac; intro ac hA
         refine st_rd (v := Value.int .u64 ((n : Int) / 256)) hA (by kernel_rfl) (by kernel_rfl) (by kernel_rfl) hW.cls (Rd.pureE (v0 := Value.int .u64 (Int.fdiv (n : Int) (2 ^ 8))) (fun _ => by kernel_rfl) (congrArg (Value.int .u64) (by rw [Int.fdiv_eq_ediv_of_nonneg _ (by decide)]; rfl))) ?_; clear hA ac; intro ac hA
         refine st_rd (v := Value.int .u8 (((n : Int) / 256) % 256)) hA (by kernel_rfl) (by kernel_rfl) (by kernel_rfl) hW.cls (Rd.pureE (v0 := Value.int .u8 (IntKind.u8.wrap ((n : Int) / 256))) (fun _ => by kernel_rfl) (congrArg (Value.int .u8) (w8 _))) ?_; clear hA ac; intro ac hA
         refine st hA (by kernel_rfl) (by kernel_rfl) (by kernel_rfl) (Runs.cells (fun b => Value.slice (some ⟨b, 0, none⟩) 1 1) #[Value.int .u8 (((n : Int) / 256) % 256)] 5 (fun _ => by kernel_rfl) hW ?_); clear hA ac hW; intro b10 w11 hW hb10 hfw11 ac hA
         refine st hA (by kernel_rfl) (by kernel_rfl) (by kernel_rfl) (Runs.appOwn (B := (some ⟨b10, 0, none⟩)) (k := 1) (E := 5) (sz := 1) (en := enB6) (l := (([] : List Int) ++ ([(((n : Int) / 1) % 256)] : List Int))) (m := ([(((n : Int) / 256) % 256)] : List Int)) (i := 1) (by kernel_rfl) (by kernel_rfl) elt_B6 (by kernel_rfl) hW rfl (rowAt_cel ((hW).cel 0 rfl) ([(((n : Int) / 256) % 256)] : List Int) (by rfl) elt_B6.len) (by first | omega | (simp; done) | (simp; omega)) (by first | omega | (simp; done) | (simp; omega)) ?_); clear hA ac hW; intro A12 c13 w14 hW hcc13 ac hA
         refine st_rd (v := Value.slice A12 ((([] : List Int) ++ ([(((n : Int) / 1) % 256)] : List Int)) ++ ([(((n : Int) / 256) % 256)] : List Int)).length c13) hA (by kernel_rfl) (by kernel_rfl) (by kernel_rfl) hW.cls (Rd.pure fun _ => by kernel_rfl) ?_; clear hA ac; intro ac hA
         refine wpList_nil ?_
         refine blkN ?_
         refine thenN ?_
         refine wp_region_lit ?_
         refine st_rd (v := Value.int .i64 2) hA (by kernel_rfl) (by kernel_rfl) (by kernel_rfl) hW.cls (Rd.pureE (v0 := Value.int .i64 (IntKind.i64.wrap ((1 : Int) + 1))) (fun _ => by kernel_rfl) (congrArg (Value.int .i64) ((w_i64 (x := (1 : Int) + 1) (by omega) (by omega)).trans (by omega)))) ?_; clear hA ac; intro ac hA
         refine st_rd (v := Value.int .i64 2) hA (by kernel_rfl) (by kernel_rfl) (by kernel_rfl) hW.cls (Rd.pure fun _ => by kernel_rfl) ?_; clear hA ac; intro ac hA
         refine wpList_nil ?_
         refine thenN ?_
         rw [rounds_succ]
         refine wp_seq ?_
         refine wp_region_lit ?_
         refine st_rd (v := Value.bool true) hA (by kernel_rfl) (by kernel_rfl) (by kernel_rfl) hW.cls (Rd.pure fun _ => by kernel_rfl) ?_; clear hA ac; intro ac hA
         refine wpList_nil ?_
         refine thenN ?_
         refine wp_seq ?_
         refine wp_cond_true (hA.eval (by kernel_rfl)) ?_
         refine wp_skip ?_
         refine thenN ?_
         refine wp_seq ?_
         refine wp_block ?_
         refine wp_seq ?_
         refine wp_region_lit ?_
         refine st_rd (v := Value.int .i64 2) hA (by kernel_rfl) (by kernel_rfl) (by kernel_rfl) hW.cls (Rd.pure fun _ => by kernel_rfl) ?_; clear hA ac; intro ac hA
         refine st_rd (v := Value.int .i64 2) hA (by kernel_rfl) (by kernel_rfl) (by kernel_rfl) hW.cls (Rd.pure fun _ => by kernel_rfl) ?_; clear hA ac; intro ac hA
         refine wpList_nil ?_
         refine thenN ?_
         refine wp_region_lit ?_
         refine st_rd (v := Value.slice A12 ((([] : List Int) ++ ([(((n : Int) / 1) % 256)] : List Int)) ++ ([(((n : Int) / 256) % 256)] : List Int)).length c13) hA (by kernel_rfl) (by kernel_rfl) (by kernel_rfl) hW.cls (Rd.pure fun _ => by kernel_rfl) ?_; clear hA ac; intro ac hA
         refine st_rd (v := Value.int .u64 n) hA (by kernel_rfl) (by kernel_rfl) (by kernel_rfl) hW.cls (Rd.pure fun _ => by kernel_rfl) ?_; clear hA ac; intro ac hA
         refine st_rd (v := Value.int .i64 2) hA (by kernel_rfl) (by kernel_rfl) (by kernel_rfl) hW.cls (Rd.pure fun _ => by kernel_rfl) ?_; clear hA ac; intro ac hA
         refine st_rd (v := Value.int .i64 16) hA (by kernel_rfl) (by kernel_rfl) (by kernel_rfl) hW.cls (Rd.pureE (v0 := Value.int .i64 (IntKind.i64.wrap ((8 : Int) * 2))) (fun _ => by kernel_rfl) (congrArg (Value.int .i64) ((w_i64 (x := (8 : Int) * 2) (by omega) (by omega)).trans (by omega)))) ?_; clear hA ac; intro ac hA
         refine st_rd (v := Value.int .u64 ((n : Int) / 65536)) hA (by kernel_rfl) (by kernel_rfl) (by kernel_rfl) hW.cls (Rd.pureE (v0 := Value.int .u64 (Int.fdiv (n : Int) (2 ^ 16))) (fun _ => by kernel_rfl) (congrArg (Value.int .u64) (by rw [Int.fdiv_eq_ediv_of_nonneg _ (by decide)]; rfl))) ?_; clear hA ac; intro ac hA
         refine st_rd (v := Value.int .u8 (((n : Int) / 65536) % 256)) hA (by kernel_rfl) (by kernel_rfl) (by kernel_rfl) hW.cls (Rd.pureE (v0 := Value.int .u8 (IntKind.u8.wrap ((n : Int) / 65536))) (fun _ => by kernel_rfl) (congrArg (Value.int .u8) (w8 _))) ?_; clear hA ac; intro ac hA
         refine st hA (by kernel_rfl) (by kernel_rfl) (by kernel_rfl) (Runs.cells (fun b => Value.slice (some ⟨b, 0, none⟩) 1 1) #[Value.int .u8 (((n : Int) / 65536) % 256)] 5 (fun _ => by kernel_rfl) hW ?_); clear hA ac hW; intro b15 w16 hW hb15 hfw16 ac hA
         refine st hA (by kernel_rfl) (by kernel_rfl) (by kernel_rfl) (Runs.appOwn (B := (some ⟨b15, 0, none⟩)) (k := 1) (E := 5) (sz := 1) (en := enB6) (l := ((([] : List Int) ++ ([(((n : Int) / 1) % 256)] : List Int)) ++ ([(((n : Int) / 256) % 256)] : List Int))) (m := ([(((n : Int) / 65536) % 256)] : List Int)) (i := 2) (by kernel_rfl) (by kernel_rfl) elt_B6 (by kernel_rfl) hW rfl (rowAt_cel ((hW).cel 0 rfl) ([(((n : Int) / 65536) % 256)] : List Int) (by rfl) elt_B6.len) (by first | omega | (simp; done) | (simp; omega)) (by first | omega | (simp; done) | (simp; omega)) ?_); clear hA ac hW; intro A17 c18 w19 hW hcc18 ac hA
         refine st_rd (v := Value.slice A17 (((([] : List Int) ++ ([(((n : Int) / 1) % 256)] : List Int)) ++ ([(((n : Int) / 256) % 256)] : List Int)) ++ ([(((n : Int) / 65536) % 256)] : List Int)).length c18) hA (by kernel_rfl) (by kernel_rfl) (by kernel_rfl) hW.cls (Rd.pure fun _ => by kernel_rfl) ?_; clear hA ac; intro ac hA
         refine wpList_nil ?_
         refine blkN ?_
         refine thenN ?_
         refine wp_region_lit ?_
         refine st_rd (v := Value.int .i64 3) hA (by kernel_rfl) (by kernel_rfl) (by kernel_rfl) hW.cls (Rd.pureE (v0 := Value.int .i64 (IntKind.i64.wrap ((2 : Int) + 1))) (fun _ => by kernel_rfl) (congrArg (Value.int .i64) ((w_i64 (x := (2 : Int) + 1) (by omega) (by omega)).trans (by omega)))) ?_; clear hA ac; intro ac hA
         refine st_rd (v := Value.int .i64 3) hA (by kernel_rfl) (by kernel_rfl) (by kernel_rfl) hW.cls (Rd.pure fun _ => by kernel_rfl) ?_; clear hA ac; intro ac hA
         refine wpList_nil ?_
         refine thenN ?_
         rw [rounds_succ]
         refine wp_seq ?_
         refine wp_region_lit ?_
         refine st_rd (v := Value.bool true) hA (by kernel_rfl) (by kernel_rfl) (by kernel_rfl) hW.cls (Rd.pure fun _ => by kernel_rfl) ?_; clear hA ac; intro ac hA
         refine wpList_nil ?_
         refine thenN ?_
         refine wp_seq ?_
         refine wp_cond_true (hA.eval (by kernel_rfl)) ?_
         refine wp_skip ?_
         refine thenN ?_
         refine wp_seq ?_
         refine wp_block ?_
         refine wp_seq ?_
         refine wp_region_lit ?_
         refine st_rd (v := Value.int .i64 3) hA (by kernel_rfl) (by kernel_rfl) (by kernel_rfl) hW.cls (Rd.pure fun _ => by kernel_rfl) ?_; clear hA ac; intro ac hA
         refine st_rd (v := Value.int .i64 3) hA (by kernel_rfl) (by kernel_rfl) (by kernel_rfl) hW.cls (Rd.pure fun _ => by kernel_rfl) ?_; clear hA ac; intro ac hA
         refine wpList_nil ?_
         refine thenN ?_
         refine wp_region_lit ?_
         refine st_rd (v := Value.slice A17 (((([] : List Int) ++ ([(((n : Int) / 1) % 256)] : List Int)) ++ ([(((n : Int) / 256) % 256)] : List Int)) ++ ([(((n : Int) / 65536) % 256)] : List Int)).length c18) hA (by kernel_rfl) (by kernel_rfl) (by kernel_rfl) hW.cls (Rd.pure fun _ => by kernel_rfl) ?_; clear hA ac; intro ac hA
         refine st_rd (v := Value.int .u64 n) hA (by kernel_rfl) (by kernel_rfl) (by kernel_rfl) hW.cls (Rd.pure fun _ => by kernel_rfl) ?_; clear hA ac; intro ac hA
         refine st_rd (v := Value.int .i64 3) hA (by kernel_rfl) (by kernel_rfl) (by kernel_rfl) hW.cls (Rd.pure fun _ => by kernel_rfl) ?_; clear hA ac; intro ac hA
         refine st_rd (v := Value.int .i64 24) hA (by kernel_rfl) (by kernel_rfl) (by kernel_rfl) hW.cls (Rd.pureE (v0 := Value.int .i64 (IntKind.i64.wrap ((8 : Int) * 3))) (fun _ => by kernel_rfl) (congrArg (Value.int .i64) ((w_i64 (x := (8 : Int) * 3) (by omega) (by omega)).trans (by omega)))) ?_; clear hA ac; intro ac hA
         refine st_rd (v := Value.int .u64 ((n : Int) / 16777216)) hA (by kernel_rfl) (by kernel_rfl) (by kernel_rfl) hW.cls (Rd.pureE (v0 := Value.int .u64 (Int.fdiv (n : Int) (2 ^ 24))) (fun _ => by kernel_rfl) (congrArg (Value.int .u64) (by rw [Int.fdiv_eq_ediv_of_nonneg _ (by decide)]; rfl))) ?_; clear hA ac; intro ac hA
         refine st_rd (v := Value.int .u8 (((n : Int) / 16777216) % 256)) hA (by kernel_rfl) (by kernel_rfl) (by kernel_rfl) hW.cls (Rd.pureE (v0 := Value.int .u8 (IntKind.u8.wrap ((n : Int) / 16777216))) (fun _ => by kernel_rfl) (congrArg (Value.int .u8) (w8 _))) ?_; clear hA ac; intro ac hA
         refine st hA (by kernel_rfl) (by kernel_rfl) (by kernel_rfl) (Runs.cells (fun b => Value.slice (some ⟨b, 0, none⟩) 1 1) #[Value.int .u8 (((n : Int) / 16777216) % 256)] 5 (fun _ => by kernel_rfl) hW ?_); clear hA ac hW; intro b20 w21 hW hb20 hfw21 ac hA
         refine st hA (by kernel_rfl) (by kernel_rfl) (by kernel_rfl) (Runs.appOwn (B := (some ⟨b20, 0, none⟩)) (k := 1) (E := 5) (sz := 1) (en := enB6) (l := (((([] : List Int) ++ ([(((n : Int) / 1) % 256)] : List Int)) ++ ([(((n : Int) / 256) % 256)] : List Int)) ++ ([(((n : Int) / 65536) % 256)] : List Int))) (m := ([(((n : Int) / 16777216) % 256)] : List Int)) (i := 3) (by kernel_rfl) (by kernel_rfl) elt_B6 (by kernel_rfl) hW rfl (rowAt_cel ((hW).cel 0 rfl) ([(((n : Int) / 16777216) % 256)] : List Int) (by rfl) elt_B6.len) (by first | omega | (simp; done) | (simp; omega)) (by first | omega | (simp; done) | (simp; omega)) ?_); clear hA ac hW; intro A22 c23 w24 hW hcc23 ac hA
         refine st_rd (v := Value.slice A22 ((((([] : List Int) ++ ([(((n : Int) / 1) % 256)] : List Int)) ++ ([(((n : Int) / 256) % 256)] : List Int)) ++ ([(((n : Int) / 65536) % 256)] : List Int)) ++ ([(((n : Int) / 16777216) % 256)] : List Int)).length c23) hA (by kernel_rfl) (by kernel_rfl) (by kernel_rfl) hW.cls (Rd.pure fun _ => by kernel_rfl) ?_; clear hA ac; intro ac hA
         refine wpList_nil ?_
         refine blkN ?_
         refine thenN ?_
         refine wp_region_lit ?_
         refine st_rd (v := Value.int .i64 4) hA (by kernel_rfl) (by kernel_rfl) (by kernel_rfl) hW.cls (Rd.pureE (v0 := Value.int .i64 (IntKind.i64.wrap ((3 : Int) + 1))) (fun _ => by kernel_rfl) (congrArg (Value.int .i64) ((w_i64 (x := (3 : Int) + 1) (by omega) (by omega)).trans (by omega)))) ?_; clear hA ac; intro ac hA
         refine st_rd (v := Value.int .i64 4) hA (by kernel_rfl) (by kernel_rfl) (by kernel_rfl) hW.cls (Rd.pure fun _ => by kernel_rfl) ?_; clear hA ac; intro ac hA
         refine wpList_nil ?_
         refine thenN ?_
         rw [rounds_succ]
         refine wp_seq ?_
         refine wp_region_lit ?_
         refine st_rd (v := Value.bool false) hA (by kernel_rfl) (by kernel_rfl) (by kernel_rfl) hW.cls (Rd.pure fun _ => by kernel_rfl) ?_; clear hA ac; intro ac hA
         refine wpList_nil ?_
         refine thenN ?_
         refine wp_seq ?_
         refine wp_cond_false (hA.eval (by kernel_rfl)) ?_
         refine wp_exit ?_
         refine thenX ?_
         refine thenX ?_
         refine blkX ?_
         refine thenN ?_
         refine wp_seq ?_
         refine wp_seq ?_
         refine wp_region_lit ?_
         refine st_rd (v := Value.slice A22 ((((([] : List Int) ++ ([(((n : Int) / 1) % 256)] : List Int)) ++ ([(((n : Int) / 256) % 256)] : List Int)) ++ ([(((n : Int) / 65536) % 256)] : List Int)) ++ ([(((n : Int) / 16777216) % 256)] : List Int)).length c23) hA (by kernel_rfl) (by kernel_rfl) (by kernel_rfl) hW.cls (Rd.pure fun _ => by kernel_rfl) ?_; clear hA ac; intro ac hA
         refine st_rd (v := Value.slice A22 ((((([] : List Int) ++ ([(((n : Int) / 1) % 256)] : List Int)) ++ ([(((n : Int) / 256) % 256)] : List Int)) ++ ([(((n : Int) / 65536) % 256)] : List Int)) ++ ([(((n : Int) / 16777216) % 256)] : List Int)).length c23) hA (by kernel_rfl) (by kernel_rfl) (by kernel_rfl) hW.cls (Rd.pure fun _ => by kernel_rfl) ?_; clear hA ac; intro ac hA
         refine st_rd (v := Value.int .i64 0) hA (by kernel_rfl) (by kernel_rfl) (by kernel_rfl) hW.cls (Rd.pure fun _ => by kernel_rfl) ?_; clear hA ac; intro ac hA
         refine wpList_nil ?_
         refine thenN ?_
         refine wp_ret ?_
         refine thenR ?_
         refine fwdR ?_
         refine ret2 (v1 := Value.slice A22 ((((([] : List Int) ++ ([(((n : Int) / 1) % 256)] : List Int)) ++ ([(((n : Int) / 256) % 256)] : List Int)) ++ ([(((n : Int) / 65536) % 256)] : List Int)) ++ ([(((n : Int) / 16777216) % 256)] : List Int)).length c23) (v2 := Value.int .i64 0) (by rfl) hA (Got.tmp hA (by kernel_rfl) (by kernel_rfl)) (Got.tmp hA (by kernel_rfl) (by kernel_rfl)) ?_
         clear hA
         exact ⟨(((([] : List Int) ++ ([(((n : Int) / 1) % 256)] : List Int)) ++ ([(((n : Int) / 256) % 256)] : List Int)) ++ ([(((n : Int) / 65536) % 256)] : List Int)) ++ ([(((n : Int) / 16777216) % 256)] : List Int), A22, c23, by first | rfl | (simp; done), by first | rfl | (unfold fix4; simp), (own_cap ((hW).get 3 rfl)), hW.madeRow 3 rfl⟩))

end Go.Proofs.Ytcokpdlmahlpnaa.L
