/- Contracts, walked by program over the engine's laws. -/
import Derived.Test.YtcokpdlmahlpnaaProg
import Derived.Test.YtcokpdlmahlpnaaCrc06
import Derived.Test.YtcokpdlmahlpnaaE18
namespace Go.Proofs.Ytcokpdlmahlpnaa.L
open Go.RowKit

def DigR (d : Nat) (f : Nat → Int) (sum many : Int) : Res := allR [PgTR .u64 256 81 f #[Value.int .u64 sum, Value.int .i64 many, Value.bool true] d]
theorem u8_range (op : BinOp) (a b : Int) : 0 ≤ bits op .u8 a b ∧ bits op .u8 a b ≤ 255 := by
  unfold bits IntKind.wrap
  simp only [IntKind.bits, IntKind.signed]
  simp
  omega
theorem w8 (s : Int) : IntKind.u8.wrap s = s % 256 := by simp [IntKind.wrap, IntKind.bits, IntKind.signed]
theorem low_bit {s : Int} (h0 : 0 ≤ s) (h1 : s ≤ 18446744073709551615) : bits .and .u64 s 1 = s % 2 := by
  obtain ⟨n, rfl⟩ : ∃ n : Nat, s = (n : Int) := ⟨s.toNat, by omega⟩
  have h2 : n < 18446744073709551616 := by omega
  have ha : (BitVec.ofInt 64 (n : Int)).toNat = n := by rw [BitVec.ofInt_natCast, BitVec.toNat_ofNat]; exact Nat.mod_eq_of_lt (by omega)
  show IntKind.u64.wrap ((BitVec.ofInt 64 (n : Int) &&& BitVec.ofInt 64 (1 : Int)).toNat : Int) = _
  rw [BitVec.toNat_and, ha, show (BitVec.ofInt 64 (1 : Int)).toNat = 1 from by decide, IntKind.wrap_u64, Nat.and_one_is_mod]
  omega
set_option maxRecDepth 100000 in
theorem e_dnone (d : Nat) (f : Nat → Int) (sum : Int) (many : Int) (w : World) (ho_p : (DigR d f sum many).p w) (hl_p : ∀ x_ ∈ (DigR d f sum many).fp, x_ < w.heap.size) : Calls Try.prog 44 #[Value.pointer (some ⟨d, 0, none⟩)] w (fun e w' => e = .returned (Value.bool false) ∧ Fr No w w') := by
 have _hu := ho_p; have _hv := hl_p; clear _hu _hv
 refine enter_E 12 Try.func44 rfl rfl (by kernel_rfl) (L := [(0, Value.pointer (some ⟨d, 0, none⟩))]) (by kernel_rfl) ?_
 intro ac hA
 have hW := Ws.start w No
 have hW := hW.objG (L := [PgTR .u64 256 81 f #[Value.int .u64 sum, Value.int .i64 many, Value.bool true] d]) ho_p hl_p
 clear ho_p hl_p
 refine wp_seq ?_
 refine wp_region_lit ?_
 refine st_rd (v := Value.bool false) hA (by kernel_rfl) (by kernel_rfl) (by kernel_rfl) hW.cls (Rd.pure fun _ => by kernel_rfl) ?_; clear hA ac; intro ac hA
 refine wpList_nil ?_
 refine thenN ?_
 refine wp_seq ?_
 refine wp_region_lit ?_
 refine st_rd (v := Value.pointer (some ⟨d, 0, none⟩)) hA (by kernel_rfl) (by kernel_rfl) (by kernel_rfl) hW.cls (Rd.pure fun _ => by kernel_rfl) ?_; clear hA ac; intro ac hA
 refine st_rd (v := Value.bool false) hA (by kernel_rfl) (by kernel_rfl) (by kernel_rfl) hW.cls (Rd.pure fun _ => by kernel_rfl) ?_; clear hA ac; intro ac hA
 refine st_rd (v := Value.bool false) hA (by kernel_rfl) (by kernel_rfl) (by kernel_rfl) hW.cls (Rd.pure fun _ => by kernel_rfl) ?_; clear hA ac; intro ac hA
 refine st_rd (v := Value.pointer (some ⟨d, 0, none⟩)) hA (by kernel_rfl) (by kernel_rfl) (by kernel_rfl) hW.cls (Rd.pure fun _ => by kernel_rfl) ?_; clear hA ac; intro ac hA
 refine st_rd (v := Value.pointer (some ⟨d, 0, none⟩)) hA (by kernel_rfl) (by kernel_rfl) (by kernel_rfl) hW.cls (Rd.pure fun _ => by kernel_rfl) ?_; clear hA ac; intro ac hA
 refine st_rd (v := Value.pointer (some ⟨d, 258, none⟩)) hA (by kernel_rfl) (by kernel_rfl) (by kernel_rfl) hW.cls (Rd.pure fun _ => by kernel_rfl) ?_; clear hA ac; intro ac hA
 refine st_rd (v := Value.bool true) hA (by kernel_rfl) (by kernel_rfl) (by kernel_rfl) hW.cls (Rd.load (b := d) (i := 258) (by kernel_rfl) (fun _ hw => show _ = _ from (hw.1).getG 0 rfl) (ldvT_bool (by kernel_rfl) (by decide) rfl)) ?_; clear hA ac; intro ac hA
 refine st_rd (v := Value.bool false) hA (by kernel_rfl) (by kernel_rfl) (by kernel_rfl) hW.cls (Rd.pure fun _ => by kernel_rfl) ?_; clear hA ac; intro ac hA
 refine st_rd (v := Value.bool false) hA (by kernel_rfl) (by kernel_rfl) (by kernel_rfl) hW.cls (Rd.pure fun _ => by kernel_rfl) ?_; clear hA ac; intro ac hA
 refine st_rd (v := Value.bool false) hA (by kernel_rfl) (by kernel_rfl) (by kernel_rfl) hW.cls (Rd.pure fun _ => by kernel_rfl) ?_; clear hA ac; intro ac hA
 refine wpList_nil ?_
 refine thenN ?_
 refine wp_ret ?_
 refine ret1 (v := Value.bool false) (by rfl) hA (Got.tmp hA (by kernel_rfl) (by kernel_rfl)) ?_
 clear hA
 exact ⟨retv (by rfl), hW.fr⟩

set_option maxRecDepth 100000 in
theorem e_dsum (d : Nat) (f : Nat → Int) (sum : Int) (many : Int) (w : World) (ho_p : (DigR d f sum many).p w) (hl_p : ∀ x_ ∈ (DigR d f sum many).fp, x_ < w.heap.size) : Calls Try.prog 34 #[Value.pointer (some ⟨d, 0, none⟩)] w (fun e w' => e = .returned (Value.int .u64 (bits .xor .u64 18446744073709551615 (sum : Int))) ∧ Fr No w w') := by
 have _hu := ho_p; have _hv := hl_p; clear _hu _hv
 refine enter_E 10 Try.func34 rfl rfl (by kernel_rfl) (L := [(0, Value.pointer (some ⟨d, 0, none⟩))]) (by kernel_rfl) ?_
 intro ac hA
 have hW := Ws.start w No
 have hW := hW.addG (DigR d f sum many) ho_p hl_p (by simp)
 have hW := hW.objG (L := [PgTR .u64 256 81 f #[Value.int .u64 sum, Value.int .i64 many, Value.bool true] d]) ho_p hl_p
 clear ho_p hl_p
 refine wp_seq ?_
 refine wp_region_lit ?_
 refine st_rd (v := Value.int .u64 0) hA (by kernel_rfl) (by kernel_rfl) (by kernel_rfl) hW.cls (Rd.pure fun _ => by kernel_rfl) ?_; clear hA ac; intro ac hA
 refine wpList_nil ?_
 refine thenN ?_
 refine wp_seq ?_
 refine wp_seq ?_
 refine wp_region_lit ?_
 refine st_rd (v := Value.pointer (some ⟨d, 0, none⟩)) hA (by kernel_rfl) (by kernel_rfl) (by kernel_rfl) hW.cls (Rd.pure fun _ => by kernel_rfl) ?_; clear hA ac; intro ac hA
 refine st hA (by kernel_rfl) (by kernel_rfl) (by kernel_rfl) (Runs.callN (v := Value.bool false) (fun _ => by kernel_rfl) hW (e_dnone d f sum many w ((hW).getG 1 rfl) ((hW).glt _ (List.mem_of_getElem? (i := 1) rfl))) ?_); clear hA ac hW; intro w1 hW hfw1 ac hA
 refine wpList_nil ?_
 refine thenN ?_
 refine wp_cond_false (hA.eval (by kernel_rfl)) ?_
 refine wp_skip ?_
 refine thenN ?_
 refine wp_seq ?_
 refine wp_region_lit ?_
 refine st_rd (v := Value.pointer (some ⟨d, 0, none⟩)) hA (by kernel_rfl) (by kernel_rfl) (by kernel_rfl) hW.cls (Rd.pure fun _ => by kernel_rfl) ?_; clear hA ac; intro ac hA
 refine st_rd (v := Value.pointer (some ⟨d, 0, none⟩)) hA (by kernel_rfl) (by kernel_rfl) (by kernel_rfl) hW.cls (Rd.pure fun _ => by kernel_rfl) ?_; clear hA ac; intro ac hA
 refine st_rd (v := Value.pointer (some ⟨d, 256, none⟩)) hA (by kernel_rfl) (by kernel_rfl) (by kernel_rfl) hW.cls (Rd.pure fun _ => by kernel_rfl) ?_; clear hA ac; intro ac hA
 refine st_rd (v := Value.int .u64 sum) hA (by kernel_rfl) (by kernel_rfl) (by kernel_rfl) hW.cls (Rd.load (b := d) (i := 256) (by kernel_rfl) (fun _ hw => show _ = _ from (hw.1).getG 0 rfl) (ldvT_int (kk := .u64) (by kernel_rfl) (by decide) rfl)) ?_; clear hA ac; intro ac hA
 refine st_rd (v := Value.int .u64 (bits .xor .u64 18446744073709551615 (sum : Int))) hA (by kernel_rfl) (by kernel_rfl) (by kernel_rfl) hW.cls (Rd.pure fun _ => by kernel_rfl) ?_; clear hA ac; intro ac hA
 refine st_rd (v := Value.int .u64 (bits .xor .u64 18446744073709551615 (sum : Int))) hA (by kernel_rfl) (by kernel_rfl) (by kernel_rfl) hW.cls (Rd.pure fun _ => by kernel_rfl) ?_; clear hA ac; intro ac hA
 refine wpList_nil ?_
 refine thenN ?_
 refine wp_ret ?_
 refine ret1 (v := Value.int .u64 (bits .xor .u64 18446744073709551615 (sum : Int))) (by rfl) hA (Got.tmp hA (by kernel_rfl) (by kernel_rfl)) ?_
 clear hA
 exact ⟨retv (by rfl), hW.fr⟩

set_option maxRecDepth 100000 in
theorem e_dstep (d : Nat) (f : Nat → Int) (sum : Int) (many : Int) (s : Int) (c : Int) (w : World) (ho_t : (DigR d f sum many).p w) (hl_t : ∀ x_ ∈ (DigR d f sum many).fp, x_ < w.heap.size) (hs : 0 ≤ s ∧ s ≤ 18446744073709551615) (hc : 0 ≤ c ∧ c ≤ 255) : Calls Try.prog 55 #[Value.pointer (some ⟨d, 0, none⟩), Value.int .u64 s, Value.int .u8 c] w (fun e w' => e = .returned (Value.int .u64 (bits .xor .u64 (f (bits .xor .u8 (s % 256) c).toNat) (s / 256))) ∧ Fr No w w') := by
 have _hu := ho_t; have _hv := hl_t; clear _hu _hv
 have _hu := hs; clear _hu
 have _hu := hc; clear _hu
 refine enter_E 18 Try.func55 rfl rfl (by kernel_rfl) (L := [(0, Value.pointer (some ⟨d, 0, none⟩)), (1, Value.int .u64 s), (2, Value.int .u8 c)]) (by kernel_rfl) ?_
 intro ac hA
 have hW := Ws.start w No
 have hW := hW.addG (DigR d f sum many) ho_t hl_t (by simp)
 have hW := hW.objG (L := [PgTR .u64 256 81 f #[Value.int .u64 sum, Value.int .i64 many, Value.bool true] d]) ho_t hl_t
 clear ho_t hl_t
 refine wp_seq ?_
 refine wp_region_lit ?_
 refine st_rd (v := Value.int .u64 0) hA (by kernel_rfl) (by kernel_rfl) (by kernel_rfl) hW.cls (Rd.pure fun _ => by kernel_rfl) ?_; clear hA ac; intro ac hA
 refine wpList_nil ?_
 refine thenN ?_
 refine wp_seq ?_
 have hr8 := u8_range .xor (s % 256) c
 refine wp_region_lit ?_
 refine st_rd (v := Value.pointer (some ⟨d, 0, none⟩)) hA (by kernel_rfl) (by kernel_rfl) (by kernel_rfl) hW.cls (Rd.pure fun _ => by kernel_rfl) ?_; clear hA ac; intro ac hA
 refine st_rd (v := Value.int .u64 s) hA (by kernel_rfl) (by kernel_rfl) (by kernel_rfl) hW.cls (Rd.pure fun _ => by kernel_rfl) ?_; clear hA ac; intro ac hA
 refine st_rd (v := Value.int .u8 (s % 256)) hA (by kernel_rfl) (by kernel_rfl) (by kernel_rfl) hW.cls (Rd.pureE (v0 := Value.int .u8 (IntKind.u8.wrap (s))) (fun _ => by kernel_rfl) (congrArg (Value.int .u8) (w8 s))) ?_; clear hA ac; intro ac hA
 refine st_rd (v := Value.int .u8 c) hA (by kernel_rfl) (by kernel_rfl) (by kernel_rfl) hW.cls (Rd.pure fun _ => by kernel_rfl) ?_; clear hA ac; intro ac hA
 refine st_rd (v := Value.int .u8 (bits .xor .u8 ((s % 256) : Int) (c : Int))) hA (by kernel_rfl) (by kernel_rfl) (by kernel_rfl) hW.cls (Rd.pure fun _ => by kernel_rfl) ?_; clear hA ac; intro ac hA
 refine st_rd (v := Value.pointer (some ⟨d, 0, none⟩)) hA (by kernel_rfl) (by kernel_rfl) (by kernel_rfl) hW.cls (Rd.pure fun _ => by kernel_rfl) ?_; clear hA ac; intro ac hA
 refine st_rd (v := Value.pointer (some ⟨d, 0 + (Int.toNat ((bits .xor .u8 ((s % 256) : Int) (c : Int)))) * 1, none⟩)) hA (by kernel_rfl) (by kernel_rfl) (by kernel_rfl) hW.cls (Rd.indexArr (e := 33) (sz := 1) (m := 256) (b := d) (off := 0) (i := (Int.toNat ((bits .xor .u8 ((s % 256) : Int) (c : Int))))) (kk := .u8) (by kernel_rfl) (natvalK (k := (bits .xor .u8 ((s % 256) : Int) (c : Int))) (by kernel_rfl) (by omega)) (by first | omega | (simp; done) | (simp; omega)) (fun _ => by kernel_rfl) (fun _ => by kernel_rfl)) ?_; clear hA ac; intro ac hA
 refine st_rd (v := Value.int .u64 (f (Int.toNat ((bits .xor .u8 ((s % 256) : Int) (c : Int)))))) hA (by kernel_rfl) (by kernel_rfl) (by kernel_rfl) hW.cls (Rd.load (b := d) (i := 0 + (Int.toNat ((bits .xor .u8 ((s % 256) : Int) (c : Int)))) * 1) (by kernel_rfl) (fun _ hw => show _ = _ from (hw.1).getG 0 rfl) (by rw [show 0 + (Int.toNat ((bits .xor .u8 ((s % 256) : Int) (c : Int)))) * 1 = (Int.toNat ((bits .xor .u8 ((s % 256) : Int) (c : Int)))) from by omega]; exact ldvT_one (kk := .u64) (by kernel_rfl) (by first | omega | (simp; done) | (simp; omega)))) ?_; clear hA ac; intro ac hA
 refine st_rd (v := Value.int .u64 s) hA (by kernel_rfl) (by kernel_rfl) (by kernel_rfl) hW.cls (Rd.pure fun _ => by kernel_rfl) ?_; clear hA ac; intro ac hA
 refine st_rd (v := Value.int .u64 ((s : Int) / 256)) hA (by kernel_rfl) (by kernel_rfl) (by kernel_rfl) hW.cls (Rd.pureE (v0 := Value.int .u64 (Int.fdiv (s : Int) (2 ^ 8))) (fun _ => by kernel_rfl) (congrArg (Value.int .u64) (by rw [Int.fdiv_eq_ediv_of_nonneg _ (by decide)]; rfl))) ?_; clear hA ac; intro ac hA
 refine st_rd (v := Value.int .u64 (bits .xor .u64 ((f (Int.toNat ((bits .xor .u8 ((s % 256) : Int) (c : Int))))) : Int) ((s : Int) / 256 : Int))) hA (by kernel_rfl) (by kernel_rfl) (by kernel_rfl) hW.cls (Rd.pure fun _ => by kernel_rfl) ?_; clear hA ac; intro ac hA
 refine st_rd (v := Value.int .u64 (bits .xor .u64 ((f (Int.toNat ((bits .xor .u8 ((s % 256) : Int) (c : Int))))) : Int) ((s : Int) / 256 : Int))) hA (by kernel_rfl) (by kernel_rfl) (by kernel_rfl) hW.cls (Rd.pure fun _ => by kernel_rfl) ?_; clear hA ac; intro ac hA
 refine wpList_nil ?_
 refine thenN ?_
 refine wp_ret ?_
 refine ret1 (v := Value.int .u64 (bits .xor .u64 ((f (Int.toNat ((bits .xor .u8 ((s % 256) : Int) (c : Int))))) : Int) ((s : Int) / 256 : Int))) (by rfl) hA (Got.tmp hA (by kernel_rfl) (by kernel_rfl)) ?_
 clear hA
 exact ⟨retv (by rfl), hW.fr⟩

set_option maxRecDepth 100000 in
theorem e_dfill (d : Nat) (f : Nat → Int) (sum : Int) (many : Int) (w : World) (ho_t : (DigR d f sum many).p w) (hl_t : ∀ x_ ∈ (DigR d f sum many).fp, x_ < w.heap.size) : Calls Try.prog 43 #[Value.pointer (some ⟨d, 0, none⟩)] w (fun e w' => ∃ f' : Nat → Int, e = .returned (Value.tuple #[]) ∧ (∀ q, q < 256 → f' q = bitsN 8 (q : Int)) ∧ Upd (DigR d f sum many) (DigR d f' sum many) w w') := by
 have _hu := ho_t; have _hv := hl_t; clear _hu _hv
 refine enter_E 27 Try.func43 rfl rfl (by kernel_rfl) (L := [(0, Value.pointer (some ⟨d, 0, none⟩))]) (by kernel_rfl) ?_
 intro ac hA
 have hW : Ws w (· ∈ (DigR d f sum many).fp) [PgTR .u64 256 81 f #[Value.int .u64 sum, Value.int .i64 many, Value.bool true] d] [] w := Ws.unpack (K := []) (objW ho_t hl_t)
 clear ho_t hl_t
 refine wp_seq ?_
 refine wp_region_lit ?_
 refine st_rd (v := Value.int .i64 0) hA (by kernel_rfl) (by kernel_rfl) (by kernel_rfl) hW.cls (Rd.pure fun _ => by kernel_rfl) ?_; clear hA ac; intro ac hA
 refine wpList_nil ?_
 refine thenN ?_
 refine wp_block ?_
 refine wp_loop_m (fun m_ ac_ wl_ => ∃ i : Nat, ∃ g : Nat → Int, m_ = 256 - i ∧ (i ≤ 256) ∧ (∀ q, q < i → g q = bitsN 8 (q : Int)) ∧ Fm 27 [] [(0, Value.pointer (some ⟨d, 0, none⟩)), (5, Value.int .i64 ((i : Nat) : Int))] ac_ ∧ Ws w (· ∈ (DigR d f sum many).fp) [PgTR .u64 256 81 g #[Value.int .u64 sum, Value.int .i64 many, Value.bool true] d] [] wl_) _ ⟨0, f, rfl, by omega, by intro q hq; omega, hA.sub ⟨⟨by kernel_rfl, by kernel_rfl⟩, ⟨by kernel_rfl, by kernel_rfl⟩, trivial⟩, (hW.pick [0] (by decide) rfl).pickG [] rfl⟩ ?_
 clear hA ac hW; rintro m_ ac w1 ⟨i, g, rfl, hi, hg, hA, hW⟩
 refine wp_seq ?_
 refine wp_region_lit ?_
 refine st_rd (v := Value.bool (decide ((((i : Nat) : Int) : Int) < (256 : Int)))) hA (by kernel_rfl) (by kernel_rfl) (by kernel_rfl) hW.cls (Rd.pure fun _ => by kernel_rfl) ?_; clear hA ac; intro ac hA
 refine wpList_nil ?_
 refine thenN ?_
 refine wp_seq ?_
 refine wp_cond_split (t := decide ((((i : Nat) : Int) : Int) < (256 : Int))) (hA.eval (by kernel_rfl)) (fun h2 => ?_) (fun h2 => ?_)
 · skip
   have h2 := of_decide_eq_true h2
   first
   | (exfalso; clear hA hW; omega)
   | (
     refine wp_skip ?_
     refine thenN ?_
     refine wp_seq ?_
     refine wp_block ?_
     refine wp_seq ?_
     refine wp_region_lit ?_
     refine st_rd (v := Value.int .i64 ((i : Nat) : Int)) hA (by kernel_rfl) (by kernel_rfl) (by kernel_rfl) hW.cls (Rd.pure fun _ => by kernel_rfl) ?_; clear hA ac; intro ac hA
     refine st_rd (v := Value.int .i64 ((i : Nat) : Int)) hA (by kernel_rfl) (by kernel_rfl) (by kernel_rfl) hW.cls (Rd.pure fun _ => by kernel_rfl) ?_; clear hA ac; intro ac hA
     refine wpList_nil ?_
     refine thenN ?_
     refine wp_seq ?_
     refine wp_region_lit ?_
     refine st_rd (v := Value.int .i64 ((i : Nat) : Int)) hA (by kernel_rfl) (by kernel_rfl) (by kernel_rfl) hW.cls (Rd.pure fun _ => by kernel_rfl) ?_; clear hA ac; intro ac hA
     refine st_rd (v := Value.int .u64 ((i : Nat) : Int)) hA (by kernel_rfl) (by kernel_rfl) (by kernel_rfl) hW.cls (Rd.pureE (v0 := Value.int .u64 (IntKind.u64.wrap (((i : Nat) : Int)))) (fun _ => by kernel_rfl) (congrArg (Value.int .u64) (w_u64 (x := ((i : Nat) : Int)) (by omega) (by omega)))) ?_; clear hA ac; intro ac hA
     refine st_rd (v := Value.int .u64 ((i : Nat) : Int)) hA (by kernel_rfl) (by kernel_rfl) (by kernel_rfl) hW.cls (Rd.pure fun _ => by kernel_rfl) ?_; clear hA ac; intro ac hA
     refine wpList_nil ?_
     refine thenN ?_
     refine wp_seq ?_
     refine wp_seq ?_
     refine wp_region_lit ?_
     refine st_rd (v := Value.int .i64 0) hA (by kernel_rfl) (by kernel_rfl) (by kernel_rfl) hW.cls (Rd.pure fun _ => by kernel_rfl) ?_; clear hA ac; intro ac hA
     refine wpList_nil ?_
     refine thenN ?_
     refine wp_block ?_
     refine wp_loop_m (fun m_ ac_ wl_ => ∃ j : Nat, ∃ s2 : Int, m_ = 8 - j ∧ (j ≤ 8) ∧ (s2 = bitsN j (i : Int)) ∧ (0 ≤ s2 ∧ s2 ≤ 18446744073709551615) ∧ Fm 27 [] [(0, Value.pointer (some ⟨d, 0, none⟩)), (2, Value.int .i64 ((i : Nat) : Int)), (3, Value.int .u64 s2), (5, Value.int .i64 ((i : Nat) : Int)), (10, Value.int .i64 ((j : Nat) : Int))] ac_ ∧ Ws w (· ∈ (DigR d f sum many).fp) [PgTR .u64 256 81 g #[Value.int .u64 sum, Value.int .i64 many, Value.bool true] d] [] wl_) _ ⟨0, ((i : Nat) : Int), rfl, by omega, by rfl, by omega, hA.sub ⟨⟨by kernel_rfl, by kernel_rfl⟩, ⟨by kernel_rfl, by kernel_rfl⟩, ⟨by kernel_rfl, by kernel_rfl⟩, ⟨by kernel_rfl, by kernel_rfl⟩, ⟨by kernel_rfl, by kernel_rfl⟩, trivial⟩, (hW.pick [0] (by decide) rfl).pickG [] rfl⟩ ?_
     clear hA ac hW; rintro m_ ac w3 ⟨j, s2, rfl, hj, hs2, hr2, hA, hW⟩
     refine wp_seq ?_
     refine wp_region_lit ?_
     refine st_rd (v := Value.bool (decide ((((j : Nat) : Int) : Int) < (8 : Int)))) hA (by kernel_rfl) (by kernel_rfl) (by kernel_rfl) hW.cls (Rd.pure fun _ => by kernel_rfl) ?_; clear hA ac; intro ac hA
     refine wpList_nil ?_
     refine thenN ?_
     refine wp_seq ?_
     refine wp_cond_split (t := decide ((((j : Nat) : Int) : Int) < (8 : Int))) (hA.eval (by kernel_rfl)) (fun h4 => ?_) (fun h4 => ?_)
     · skip
       have h4 := of_decide_eq_true h4
       first
       | (exfalso; clear hA hW; omega)
       | (
         refine wp_skip ?_
         refine thenN ?_
         refine wp_seq ?_
         refine wp_block ?_
         refine wp_seq ?_
         refine wp_region_lit ?_
         refine st_rd (v := Value.int .u64 s2) hA (by kernel_rfl) (by kernel_rfl) (by kernel_rfl) hW.cls (Rd.pure fun _ => by kernel_rfl) ?_; clear hA ac; intro ac hA
         refine st_rd (v := Value.int .u64 (bits .and .u64 (s2 : Int) (1 : Int))) hA (by kernel_rfl) (by kernel_rfl) (by kernel_rfl) hW.cls (Rd.pure fun _ => by kernel_rfl) ?_; clear hA ac; intro ac hA
         refine st_rd (v := Value.int .u64 (bits .and .u64 (s2 : Int) (1 : Int))) hA (by kernel_rfl) (by kernel_rfl) (by kernel_rfl) hW.cls (Rd.pure fun _ => by kernel_rfl) ?_; clear hA ac; intro ac hA
         refine wpList_nil ?_
         refine thenN ?_
         refine wp_seq ?_
         refine wp_region_lit ?_
         refine st_rd (v := Value.int .u64 s2) hA (by kernel_rfl) (by kernel_rfl) (by kernel_rfl) hW.cls (Rd.pure fun _ => by kernel_rfl) ?_; clear hA ac; intro ac hA
         refine st_rd (v := Value.int .u64 ((s2 : Int) / 2)) hA (by kernel_rfl) (by kernel_rfl) (by kernel_rfl) hW.cls (Rd.pureE (v0 := Value.int .u64 (Int.fdiv (s2 : Int) (2 ^ 1))) (fun _ => by kernel_rfl) (congrArg (Value.int .u64) (by rw [Int.fdiv_eq_ediv_of_nonneg _ (by decide)]; rfl))) ?_; clear hA ac; intro ac hA
         refine st_rd (v := Value.int .u64 ((s2 : Int) / 2)) hA (by kernel_rfl) (by kernel_rfl) (by kernel_rfl) hW.cls (Rd.pure fun _ => by kernel_rfl) ?_; clear hA ac; intro ac hA
         refine wpList_nil ?_
         refine thenN ?_
         refine wp_seq ?_
         refine wp_region_lit ?_
         refine st_rd (v := Value.int .u64 (bits .and .u64 (s2 : Int) (1 : Int))) hA (by kernel_rfl) (by kernel_rfl) (by kernel_rfl) hW.cls (Rd.pure fun _ => by kernel_rfl) ?_; clear hA ac; intro ac hA
         refine st_rd (v := Value.bool (((bits .and .u64 (s2 : Int) (1 : Int)) : Int) == (1 : Int))) hA (by kernel_rfl) (by kernel_rfl) (by kernel_rfl) hW.cls (Rd.pure fun _ => by kernel_rfl) ?_; clear hA ac; intro ac hA
         refine wpList_nil ?_
         refine thenN ?_
         refine wp_cond_split (t := ((bits .and .u64 (s2 : Int) (1 : Int)) : Int) == (1 : Int)) (hA.eval (by kernel_rfl)) (fun h5 => ?_) (fun h5 => ?_)
         · skip
           have h5 := eq_of_beq h5
           first
           | (exfalso; clear hA hW; omega)
           | (
             refine wp_region_lit ?_
             refine st_rd (v := Value.int .u64 ((s2 : Int) / 2)) hA (by kernel_rfl) (by kernel_rfl) (by kernel_rfl) hW.cls (Rd.pure fun _ => by kernel_rfl) ?_; clear hA ac; intro ac hA
             refine st_rd (v := Value.int .u64 (bits .xor .u64 ((s2 : Int) / 2 : Int) (14514072000185962306 : Int))) hA (by kernel_rfl) (by kernel_rfl) (by kernel_rfl) hW.cls (Rd.pure fun _ => by kernel_rfl) ?_; clear hA ac; intro ac hA
             refine st_rd (v := Value.int .u64 (bits .xor .u64 ((s2 : Int) / 2 : Int) (14514072000185962306 : Int))) hA (by kernel_rfl) (by kernel_rfl) (by kernel_rfl) hW.cls (Rd.pure fun _ => by kernel_rfl) ?_; clear hA ac; intro ac hA
             refine wpList_nil ?_
             refine blkN ?_
             refine thenN ?_
             refine wp_region_lit ?_
             refine st_rd (v := Value.int .i64 ((j + 1 : Nat) : Int)) hA (by kernel_rfl) (by kernel_rfl) (by kernel_rfl) hW.cls (Rd.pureE (v0 := Value.int .i64 (IntKind.i64.wrap ((((j : Nat) : Int) : Int) + 1))) (fun _ => by kernel_rfl) (congrArg (Value.int .i64) ((w_i64 (x := (((j : Nat) : Int) : Int) + 1) (by omega) (by omega)).trans (by omega)))) ?_; clear hA ac; intro ac hA
             refine st_rd (v := Value.int .i64 ((j + 1 : Nat) : Int)) hA (by kernel_rfl) (by kernel_rfl) (by kernel_rfl) hW.cls (Rd.pure fun _ => by kernel_rfl) ?_; clear hA ac; intro ac hA
             refine wpList_nil ?_
             refine thenN ?_
             exact ⟨8 - (j + 1), by omega, j + 1, (bits .xor .u64 ((s2 : Int) / 2 : Int) (14514072000185962306 : Int)), rfl, by omega, by rw [show bitsN (j + 1) _ = bitStep (bitsN j _) from rfl, ← hs2]; unfold bitStep; have hl_ := low_bit hr2.1 hr2.2; rw [if_pos (by omega)], by first | exact bits_range _ _ _ | omega, hA.sub ⟨⟨by kernel_rfl, by kernel_rfl⟩, ⟨by kernel_rfl, by kernel_rfl⟩, ⟨by kernel_rfl, by kernel_rfl⟩, ⟨by kernel_rfl, by kernel_rfl⟩, ⟨by kernel_rfl, by kernel_rfl⟩, trivial⟩, (hW.pick [0] (by decide) rfl).pickG [] rfl⟩)
         · skip
           have h5 := ne_of_beq_false h5
           first
           | (exfalso; clear hA hW; omega)
           | (
             refine wp_skip ?_
             refine blkN ?_
             refine thenN ?_
             refine wp_region_lit ?_
             refine st_rd (v := Value.int .i64 ((j + 1 : Nat) : Int)) hA (by kernel_rfl) (by kernel_rfl) (by kernel_rfl) hW.cls (Rd.pureE (v0 := Value.int .i64 (IntKind.i64.wrap ((((j : Nat) : Int) : Int) + 1))) (fun _ => by kernel_rfl) (congrArg (Value.int .i64) ((w_i64 (x := (((j : Nat) : Int) : Int) + 1) (by omega) (by omega)).trans (by omega)))) ?_; clear hA ac; intro ac hA
             refine st_rd (v := Value.int .i64 ((j + 1 : Nat) : Int)) hA (by kernel_rfl) (by kernel_rfl) (by kernel_rfl) hW.cls (Rd.pure fun _ => by kernel_rfl) ?_; clear hA ac; intro ac hA
             refine wpList_nil ?_
             refine thenN ?_
             exact ⟨8 - (j + 1), by omega, j + 1, (s2 : Int) / 2, rfl, by omega, by rw [show bitsN (j + 1) _ = bitStep (bitsN j _) from rfl, ← hs2]; unfold bitStep; have hl_ := low_bit hr2.1 hr2.2; rw [if_neg (by omega)], by first | exact bits_range _ _ _ | omega, hA.sub ⟨⟨by kernel_rfl, by kernel_rfl⟩, ⟨by kernel_rfl, by kernel_rfl⟩, ⟨by kernel_rfl, by kernel_rfl⟩, ⟨by kernel_rfl, by kernel_rfl⟩, ⟨by kernel_rfl, by kernel_rfl⟩, trivial⟩, (hW.pick [0] (by decide) rfl).pickG [] rfl⟩))
     · skip
       have h4 := of_decide_eq_false h4
       first
       | (exfalso; clear hA hW; omega)
       | (
         refine wp_exit ?_
         refine thenX ?_
         refine thenX ?_
         refine blkX ?_
         refine thenN ?_
         refine wp_region_lit ?_
         refine st_rd (v := Value.pointer (some ⟨d, 0, none⟩)) hA (by kernel_rfl) (by kernel_rfl) (by kernel_rfl) hW.cls (Rd.pure fun _ => by kernel_rfl) ?_; clear hA ac; intro ac hA
         refine st_rd (v := Value.int .i64 ((i : Nat) : Int)) hA (by kernel_rfl) (by kernel_rfl) (by kernel_rfl) hW.cls (Rd.pure fun _ => by kernel_rfl) ?_; clear hA ac; intro ac hA
         refine st_rd (v := Value.int .u64 s2) hA (by kernel_rfl) (by kernel_rfl) (by kernel_rfl) hW.cls (Rd.pure fun _ => by kernel_rfl) ?_; clear hA ac; intro ac hA
         refine st_rd (v := Value.pointer (some ⟨d, 0, none⟩)) hA (by kernel_rfl) (by kernel_rfl) (by kernel_rfl) hW.cls (Rd.pure fun _ => by kernel_rfl) ?_; clear hA ac; intro ac hA
         refine st_rd (v := Value.pointer (some ⟨d, 0 + i * 1, none⟩)) hA (by kernel_rfl) (by kernel_rfl) (by kernel_rfl) hW.cls (Rd.indexArr (e := 33) (sz := 1) (m := 256) (b := d) (off := 0) (i := i) (kk := .i64) (by kernel_rfl) (by kernel_rfl) (by first | omega | (simp; done) | (simp; omega)) (fun _ => by kernel_rfl) (fun _ => by kernel_rfl)) ?_; clear hA ac; intro ac hA
         refine st hA (by kernel_rfl) (by kernel_rfl) (by kernel_rfl) (Runs.storePgT (k := .u64) (n := 256) (f := g) (b := d) (j := i) (v := s2) (by kernel_rfl) (by kernel_rfl) (by kernel_rfl) (by first | omega | (simp; done) | (simp; omega)) hW 0 rfl (H' := [PgTR .u64 256 81 (pgSet g i s2) #[Value.int .u64 sum, Value.int .i64 many, Value.bool true] d]) rfl ?_); clear hA ac hW; intro w6 hW ac hA
         refine wpList_nil ?_
         refine blkN ?_
         refine thenN ?_
         refine wp_region_lit ?_
         refine st_rd (v := Value.int .i64 ((i + 1 : Nat) : Int)) hA (by kernel_rfl) (by kernel_rfl) (by kernel_rfl) hW.cls (Rd.pureE (v0 := Value.int .i64 (IntKind.i64.wrap ((((i : Nat) : Int) : Int) + 1))) (fun _ => by kernel_rfl) (congrArg (Value.int .i64) ((w_i64 (x := (((i : Nat) : Int) : Int) + 1) (by omega) (by omega)).trans (by omega)))) ?_; clear hA ac; intro ac hA
         refine st_rd (v := Value.int .i64 ((i + 1 : Nat) : Int)) hA (by kernel_rfl) (by kernel_rfl) (by kernel_rfl) hW.cls (Rd.pure fun _ => by kernel_rfl) ?_; clear hA ac; intro ac hA
         refine wpList_nil ?_
         refine thenN ?_
         exact ⟨256 - (i + 1), by omega, i + 1, pgSet g i s2, rfl, by omega, by intro q hq; by_cases e_ : q = i; (subst e_; simp only [pgSet, if_pos]; rw [hs2, show j = 8 from by omega]; try simp); (simp only [pgSet]; first | (rw [if_neg (by omega)]; exact hg q (by omega)) | (rw [if_neg e_]; exact hg q (by omega))), hA.sub ⟨⟨by kernel_rfl, by kernel_rfl⟩, ⟨by kernel_rfl, by kernel_rfl⟩, trivial⟩, (hW.pick [0] (by decide) rfl).pickG [] rfl⟩))
 · skip
   have h2 := of_decide_eq_false h2
   first
   | (exfalso; clear hA hW; omega)
   | (
     refine wp_exit ?_
     refine thenX ?_
     refine thenX ?_
     refine blkX ?_
     refine ret0 (.inr rfl) rfl hA ?_
     clear hA
     exact ⟨g, rfl, by exact fun q hq => hg q (by omega), (Ws.pack (K := []) (show Ws w (· ∈ (DigR d f sum many).fp) ([PgTR .u64 256 81 g #[Value.int .u64 sum, Value.int .i64 many, Value.bool true] d] ++ []) [] _ from hW.pick [0] (by decide) rfl)).updDone 0 rfl⟩)

end Go.Proofs.Ytcokpdlmahlpnaa.L
