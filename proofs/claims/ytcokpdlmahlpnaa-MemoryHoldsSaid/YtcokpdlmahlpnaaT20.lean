/- Contracts, walked by program over the engine's laws. -/
import Derived.Test.YtcokpdlmahlpnaaProg
import Derived.Test.YtcokpdlmahlpnaaT19
namespace Go.Proofs.Ytcokpdlmahlpnaa.L
open Go.RowKit

theorem digR_p {w : World} {d : Nat} {f : Nat → Int} {s m : Int} (h : (PgTR .u64 256 81 f #[Value.int .u64 s, Value.int .i64 m, Value.bool true] d).p w) : (DigR d f s m).p w := by
  refine ⟨by simp, fun r hr => ?_⟩; simp only [List.mem_singleton] at hr; subst hr; exact h
theorem digR_lt {d : Nat} {f : Nat → Int} {s m : Int} {n : Nat} (h : ∀ b ∈ (PgTR .u64 256 81 f #[Value.int .u64 s, Value.int .i64 m, Value.bool true] d).fp, b < n) : ∀ b ∈ (DigR d f s m).fp, b < n := by
  intro b hb; obtain ⟨r, hr, hb⟩ := mem_allR.1 hb; simp only [List.mem_singleton] at hr; subst hr; exact h b hb
set_option maxRecDepth 100000 in
theorem e_dwrite (d : Nat) (f : Nat → Int) (sum : Int) (many : Int) (ob_l : Nat) (A_l : Option Addr) (c_l : Nat) (l : List Int) (w : World) (ho_p : (DigR d f sum many).p w) (hl_p : ∀ x_ ∈ (DigR d f sum many).fp, x_ < w.heap.size) (ho_l : (Cel ob_l #[Value.slice A_l l.length c_l] 59).p w) (hr_l : RowAt w A_l 1 enB6 l) (hc_l : l.length ≤ c_l) (hd_l : ∀ x_ ∈ (DigR d f sum many).fp, x_ ∉ (roR A_l 1 enB6 l).fp) (hz_l : ∀ x_ ∈ (DigR d f sum many).fp, x_ ∉ (Cel ob_l #[Value.slice A_l l.length c_l] 59).fp) (hs : 0 ≤ sum ∧ sum ≤ 18446744073709551615) (hm : 0 ≤ many ∧ many ≤ 1000000000) (hb : ∀ x ∈ l, 0 ≤ x ∧ x ≤ 255) (hl : l.length ≤ 1000000) (hT : ∀ q, q < 256 → f q = bitsN 8 (q : Int)) : Calls Try.prog 46 #[Value.pointer (some ⟨d, 0, none⟩), Value.slice (some ⟨ob_l, 0, none⟩) 1 1] w (fun e w' => e = .returned (Value.int .i64 0) ∧ Upd (DigR d f sum many) (DigR d f (l.foldl byteStep sum) (many + (l.length : Int))) w w') := by
 have _hu := hc_l; have _hv := hr_l; clear _hu _hv
 have _hu := ho_p; have _hv := hl_p; clear _hu _hv
 have _hu := hs; clear _hu
 have _hu := hm; clear _hu
 have _hu := hb; clear _hu
 have _hu := hl; clear _hu
 have _hu := hT; clear _hu
 refine enter_E 39 Try.func46 rfl rfl (by kernel_rfl) (L := [(0, Value.pointer (some ⟨d, 0, none⟩)), (1, Value.slice (some ⟨ob_l, 0, none⟩) 1 1)]) (by kernel_rfl) ?_
 intro ac hA
 have hW : Ws w (· ∈ (DigR d f sum many).fp) [PgTR .u64 256 81 f #[Value.int .u64 sum, Value.int .i64 many, Value.bool true] d] [] w := Ws.unpack (K := []) (objW ho_p hl_p)
 clear ho_p hl_p
 have hW := hW.addG (Cel ob_l #[Value.slice A_l l.length c_l] 59) ho_l (by intro b_ hb_; simp only [Cel, List.mem_singleton] at hb_; subst hb_; exact lt_of_block ho_l) (by intro r_ hr_; exact fun b_ hb_ => hz_l b_ (mem_allR.2 ⟨r_, hr_, hb_⟩))
 have hW := hW.addG (roR A_l 1 enB6 l) hr_l (roR_lt hr_l) (by intro r_ hr_; exact fun b_ hb_ => hd_l b_ (mem_allR.2 ⟨r_, hr_, hb_⟩))
 refine wp_seq ?_
 refine wp_region_lit ?_
 refine st_rd (v := Value.int .i64 0) hA (by kernel_rfl) (by kernel_rfl) (by kernel_rfl) hW.cls (Rd.pure fun _ => by kernel_rfl) ?_; clear hA ac; intro ac hA
 refine wpList_nil ?_
 refine thenN ?_
 refine wp_seq ?_
 refine wp_seq ?_
 refine wp_region_lit ?_
 refine st_rd (v := Value.pointer (some ⟨d, 0, none⟩)) hA (by kernel_rfl) (by kernel_rfl) (by kernel_rfl) hW.cls (Rd.pure fun _ => by kernel_rfl) ?_; clear hA ac; intro ac hA
 refine st hA (by kernel_rfl) (by kernel_rfl) (by kernel_rfl) (Runs.callN (v := Value.bool false) (fun _ => by kernel_rfl) hW (e_dnone d f sum many w (digR_p ((hW).get 0 rfl)) (digR_lt ((hW).lt _ (List.mem_of_getElem? (i := 0) rfl)))) ?_); clear hA ac hW; intro w1 hW hfw1 ac hA
 refine wpList_nil ?_
 refine thenN ?_
 refine wp_cond_false (hA.eval (by kernel_rfl)) ?_
 refine wp_skip ?_
 refine thenN ?_
 refine wp_seq ?_
 refine wp_seq ?_
 refine wp_region_lit ?_
 refine st_rd (v := Value.slice (some ⟨ob_l, 0, none⟩) 1 1) hA (by kernel_rfl) (by kernel_rfl) (by kernel_rfl) hW.cls (Rd.pure fun _ => by kernel_rfl) ?_; clear hA ac; intro ac hA
 refine st_rd (v := Value.int .i64 1) hA (by kernel_rfl) (by kernel_rfl) (by kernel_rfl) hW.cls (Rd.pure fun _ => by kernel_rfl) ?_; clear hA ac; intro ac hA
 refine st_rd (v := Value.int .i64 0) hA (by kernel_rfl) (by kernel_rfl) (by kernel_rfl) hW.cls (Rd.pure fun _ => by kernel_rfl) ?_; clear hA ac; intro ac hA
 refine wpList_nil ?_
 refine thenN ?_
 refine wp_block ?_
 refine wp_loop_rounds 2 ?_
 rw [rounds_succ]
 refine wp_seq ?_
 refine wp_region_lit ?_
 refine st_rd (v := Value.bool true) hA (by kernel_rfl) (by kernel_rfl) (by kernel_rfl) hW.cls (Rd.pure fun _ => by kernel_rfl) ?_; clear hA ac; intro ac hA
 refine wpList_nil ?_
 refine thenN ?_
 refine wp_seq ?_
 refine wp_cond_true (hA.eval (by kernel_rfl)) ?_
 refine wp_skip ?_
 refine thenN ?_
 refine wp_seq ?_
 refine wp_block ?_
 refine wp_seq ?_
 refine wp_region_lit ?_
 refine st_rd (v := Value.pointer (some ⟨ob_l, 0, none⟩)) hA (by kernel_rfl) (by kernel_rfl) (by kernel_rfl) hW.cls (Rd.pure fun _ => by kernel_rfl) ?_; clear hA ac; intro ac hA
 refine st_rd (v := Value.slice A_l l.length c_l) hA (by kernel_rfl) (by kernel_rfl) (by kernel_rfl) hW.cls (Rd.load (b := ob_l) (i := 0) (by kernel_rfl) (fun _ hw => show _ = _ from (hw.1).getG 1 rfl) (by kernel_rfl)) ?_; clear hA ac; intro ac hA
 refine st_rd (v := Value.slice A_l l.length c_l) hA (by kernel_rfl) (by kernel_rfl) (by kernel_rfl) hW.cls (Rd.pure fun _ => by kernel_rfl) ?_; clear hA ac; intro ac hA
 refine wpList_nil ?_
 refine thenN ?_
 refine wp_cut (fun ac_ wl_ => Fm 39 [] [(0, Value.pointer (some ⟨d, 0, none⟩)), (1, Value.slice (some ⟨ob_l, 0, none⟩) 1 1), (4, Value.int .i64 0), (7, Value.pointer (some ⟨d, 0, none⟩)), (8, Value.bool false), (9, Value.slice (some ⟨ob_l, 0, none⟩) 1 1), (10, Value.int .i64 1), (11, Value.int .i64 0), (12, Value.bool true), (13, Value.pointer (some ⟨ob_l, 0, none⟩)), (14, Value.slice A_l l.length c_l)] ac_ ∧ Ws w (· ∈ (DigR d f sum many).fp) [PgTR .u64 256 81 f #[Value.int .u64 (l.foldl byteStep (sum)), Value.int .i64 ((many : Int) + ((l.length : Nat) : Int)), Value.bool true] d] [roR A_l 1 enB6 l, Cel ob_l #[Value.slice A_l l.length c_l] 59] wl_) ?_ ?_
 · refine sr_region (m := 25) (C := Ws w (· ∈ (DigR d f sum many).fp) [PgTR .u64 256 81 f #[Value.int .u64 sum, Value.int .i64 many, Value.bool true] d] [roR A_l 1 enB6 l, Cel ob_l #[Value.slice A_l l.length c_l] 59]) (fun i => [5, 15].contains i) (fun i => [5, 11, 15].contains i) (fun i => [0, 1, 2, 3, 4, 6, 7, 8, 9, 10, 12, 13, 14, 16, 17, 18, 19, 20, 22, 23].contains i) (by kernel_rfl) (by kernel_rfl) (by kernel_rfl) (by kernel_rfl) hW ?_; clear hW; intro w2 hW hfw2 hR; have hC : Ws w (· ∈ (DigR d f sum many).fp) [PgTR .u64 256 81 f #[Value.int .u64 sum, Value.int .i64 many, Value.bool true] d] [roR A_l 1 enB6 l, Cel ob_l #[Value.slice A_l l.length c_l] 59] w2 := hW.pick [0] (by decide) rfl
   refine sr_pure (i := 0) (v := Value.pointer (some ⟨d, 0, none⟩)) hR (by kernel_rfl) rfl (by kernel_rfl) (by kernel_rfl) (fun _ _ _ h => h.elim) hA (by kernel_rfl) (by kernel_rfl) (by kernel_rfl) (Rd.pure fun _ => by kernel_rfl) ?_; clear hA ac; intro ac hA
   refine sr_pure (i := 1) (v := Value.pointer (some ⟨d, 0, none⟩)) hR (by kernel_rfl) rfl (by kernel_rfl) (by kernel_rfl) (fun _ _ _ h => h.elim) hA (by kernel_rfl) (by kernel_rfl) (by kernel_rfl) (Rd.pure fun _ => by kernel_rfl) ?_; clear hA ac; intro ac hA
   refine sr_pure (i := 2) (v := Value.pointer (some ⟨d, 0, none⟩)) hR (by kernel_rfl) rfl (by kernel_rfl) (by kernel_rfl) (fun _ _ _ h => h.elim) hA (by kernel_rfl) (by kernel_rfl) (by kernel_rfl) (Rd.pure fun _ => by kernel_rfl) ?_; clear hA ac; intro ac hA
   refine sr_pure (i := 3) (v := Value.pointer (some ⟨d, 0, none⟩)) hR (by kernel_rfl) rfl (by kernel_rfl) (by kernel_rfl) (fun _ _ _ h => h.elim) hA (by kernel_rfl) (by kernel_rfl) (by kernel_rfl) (Rd.pure fun _ => by kernel_rfl) ?_; clear hA ac; intro ac hA
   refine sr_pure (i := 4) (v := Value.pointer (some ⟨d, 256, none⟩)) hR (by kernel_rfl) rfl (by kernel_rfl) (by kernel_rfl) (fun _ _ _ h => h.elim) hA (by kernel_rfl) (by kernel_rfl) (by kernel_rfl) (Rd.pure fun _ => by kernel_rfl) ?_; clear hA ac; intro ac hA
   refine sr_take (i := 5) (v := Value.int .u64 sum) hR (by kernel_rfl) rfl (by kernel_rfl) (by kernel_rfl) (by kernel_rfl) (fun _ _ _ h => h.elim) hA (by kernel_rfl) (by kernel_rfl) (by kernel_rfl) hC (Rd.load (b := d) (i := 256) (by kernel_rfl) (fun _ hw => (hw).cel 0 rfl) (ldvT_int (kk := .u64) (by kernel_rfl) (by decide) rfl)) ?_; clear hA ac; intro ac hA
   refine sr_pure (i := 6) (v := Value.slice A_l l.length c_l) hR (by kernel_rfl) rfl (by kernel_rfl) (by kernel_rfl) (fun _ _ _ h => h.elim) hA (by kernel_rfl) (by kernel_rfl) (by kernel_rfl) (Rd.pure fun _ => by kernel_rfl) ?_; clear hA ac; intro ac hA
   refine sr_pure (i := 7) (v := Value.pointer (some ⟨d, 0, none⟩)) hR (by kernel_rfl) rfl (by kernel_rfl) (by kernel_rfl) (fun _ _ _ h => h.elim) hA (by kernel_rfl) (by kernel_rfl) (by kernel_rfl) (Rd.pure fun _ => by kernel_rfl) ?_; clear hA ac; intro ac hA
   refine sr_pure (i := 8) (v := Value.pointer (some ⟨d, 0, none⟩)) hR (by kernel_rfl) rfl (by kernel_rfl) (by kernel_rfl) (fun _ _ _ h => h.elim) hA (by kernel_rfl) (by kernel_rfl) (by kernel_rfl) (Rd.pure fun _ => by kernel_rfl) ?_; clear hA ac; intro ac hA
   refine sr_pure (i := 9) (v := Value.pointer (some ⟨d, 0, none⟩)) hR (by kernel_rfl) rfl (by kernel_rfl) (by kernel_rfl) (fun _ _ _ h => h.elim) hA (by kernel_rfl) (by kernel_rfl) (by kernel_rfl) (Rd.pure fun _ => by kernel_rfl) ?_; clear hA ac; intro ac hA
   refine sr_pure (i := 10) (v := Value.func (.func 55) #[Value.pointer (some ⟨d, 0, none⟩)] #[]) hR (by kernel_rfl) rfl (by kernel_rfl) (by kernel_rfl) (fun _ _ _ h => h.elim) hA (by kernel_rfl) (by kernel_rfl) (by kernel_rfl) (Rd.pure fun _ => by kernel_rfl) ?_; clear hA ac; intro ac hA
   refine sr_pure (i := 12) (v := Value.pointer (some ⟨d, 0, none⟩)) hR (by kernel_rfl) rfl (by kernel_rfl) (by kernel_rfl) (fun _ _ _ h => h.elim) hA (by kernel_rfl) (by kernel_rfl) (by kernel_rfl) (Rd.pure fun _ => by kernel_rfl) ?_; clear hA ac; intro ac hA
   refine sr_pure (i := 13) (v := Value.pointer (some ⟨d, 0, none⟩)) hR (by kernel_rfl) rfl (by kernel_rfl) (by kernel_rfl) (fun _ _ _ h => h.elim) hA (by kernel_rfl) (by kernel_rfl) (by kernel_rfl) (Rd.pure fun _ => by kernel_rfl) ?_; clear hA ac; intro ac hA
   refine sr_pure (i := 14) (v := Value.pointer (some ⟨d, 257, none⟩)) hR (by kernel_rfl) rfl (by kernel_rfl) (by kernel_rfl) (fun _ _ _ h => h.elim) hA (by kernel_rfl) (by kernel_rfl) (by kernel_rfl) (Rd.pure fun _ => by kernel_rfl) ?_; clear hA ac; intro ac hA
   refine sr_take (i := 15) (v := Value.int .i64 many) hR (by kernel_rfl) rfl (by kernel_rfl) (by kernel_rfl) (by kernel_rfl) (fun _ _ _ h => h.elim) hA (by kernel_rfl) (by kernel_rfl) (by kernel_rfl) hC (Rd.load (b := d) (i := 257) (by kernel_rfl) (fun _ hw => (hw).cel 0 rfl) (ldvT_int (kk := .i64) (by kernel_rfl) (by decide) rfl)) ?_; clear hA ac; intro ac hA
   refine sr_pure (i := 16) (v := Value.slice A_l l.length c_l) hR (by kernel_rfl) rfl (by kernel_rfl) (by kernel_rfl) (fun _ _ _ h => h.elim) hA (by kernel_rfl) (by kernel_rfl) (by kernel_rfl) (Rd.pure fun _ => by kernel_rfl) ?_; clear hA ac; intro ac hA
   refine sr_pure (i := 17) (v := Value.int .i64 ((l.length : Nat) : Int)) hR (by kernel_rfl) rfl (by kernel_rfl) (by kernel_rfl) (fun _ _ _ h => h.elim) hA (by kernel_rfl) (by kernel_rfl) (by kernel_rfl) (Rd.pure fun _ => by kernel_rfl) ?_; clear hA ac; intro ac hA
   refine sr_pure (i := 18) (v := Value.int .i64 ((many : Int) + ((l.length : Nat) : Int))) hR (by kernel_rfl) rfl (by kernel_rfl) (by kernel_rfl) (fun _ _ _ h => h.elim) hA (by kernel_rfl) (by kernel_rfl) (by kernel_rfl) (Rd.pureE (v0 := Value.int .i64 (IntKind.i64.wrap ((many : Int) + ((l.length : Nat) : Int)))) (fun _ => by kernel_rfl) (congrArg (Value.int .i64) ((w_i64 (x := (many : Int) + ((l.length : Nat) : Int)) (by omega) (by omega)).trans (by omega)))) ?_; clear hA ac; intro ac hA
   refine sr_one (i := 11) (by kernel_rfl) (sr_do rfl hA (by kernel_rfl) (by kernel_rfl) (by kernel_rfl) (Runs.callN (v := Value.int .u64 (l.foldl byteStep (sum))) (fun _ => by kernel_rfl) hW (e_folded (sum) A_l c_l l d f sum many w2 ((hW).getG 0 rfl) (by first | assumption | omega | (simp; omega) | simp) (digR_p ((hW).get 0 rfl)) (digR_lt ((hW).lt _ (List.mem_of_getElem? (i := 0) rfl))) (by first | assumption | omega) (by first | assumption | omega) (by first | assumption | omega) (by first | assumption | omega)) ?_)); clear hA ac hW; intro w3 hW hfw3 ac hA
   refine ⟨⟨fun _ => (hW.pick [0] (by decide) rfl).pickG [0, 1] rfl, fun h => absurd h (by decide)⟩, ?_⟩; have hC : Ws w (· ∈ (DigR d f sum many).fp) [PgTR .u64 256 81 f #[Value.int .u64 sum, Value.int .i64 many, Value.bool true] d] [roR A_l 1 enB6 l, Cel ob_l #[Value.slice A_l l.length c_l] 59] w3 := (hW.pick [0] (by decide) rfl).pickG [0, 1] rfl
   refine sr_pure (i := 19) (v := Value.pointer (some ⟨d, 0, none⟩)) hR (by kernel_rfl) rfl (by kernel_rfl) (by kernel_rfl) (fun _ _ _ h => h.elim) hA (by kernel_rfl) (by kernel_rfl) (by kernel_rfl) (Rd.pure fun _ => by kernel_rfl) ?_; clear hA ac; intro ac hA
   refine sr_pure (i := 20) (v := Value.pointer (some ⟨d, 256, none⟩)) hR (by kernel_rfl) rfl (by kernel_rfl) (by kernel_rfl) (fun _ _ _ h => h.elim) hA (by kernel_rfl) (by kernel_rfl) (by kernel_rfl) (Rd.pure fun _ => by kernel_rfl) ?_; clear hA ac; intro ac hA
   refine sr_one (i := 21) (by kernel_rfl) (sr_do rfl hA (by kernel_rfl) (by kernel_rfl) (by kernel_rfl) (Runs.storeTail (k := .u64) (n := 256) (f := f) (tl := #[Value.int .u64 sum, Value.int .i64 many, Value.bool true]) (tl' := #[Value.int .u64 (l.foldl byteStep (sum)), Value.int .i64 many, Value.bool true]) (b := d) (j := 256) (v := Value.int .u64 (l.foldl byteStep (sum))) (by kernel_rfl) (by kernel_rfl) (by kernel_rfl) rfl rfl (by simp) (by rfl) hW 0 rfl (H' := [PgTR .u64 256 81 f #[Value.int .u64 (l.foldl byteStep (sum)), Value.int .i64 many, Value.bool true] d]) rfl ?_)); clear hA ac hW; intro w4 hW ac hA
   refine ⟨⟨fun h => absurd h (by decide), fun h => absurd h (by decide)⟩, ?_⟩
   refine sr_pure (i := 22) (v := Value.pointer (some ⟨d, 0, none⟩)) hR (by kernel_rfl) rfl (by kernel_rfl) (by kernel_rfl) (fun _ _ _ h => h.elim) hA (by kernel_rfl) (by kernel_rfl) (by kernel_rfl) (Rd.pure fun _ => by kernel_rfl) ?_; clear hA ac; intro ac hA
   refine sr_pure (i := 23) (v := Value.pointer (some ⟨d, 257, none⟩)) hR (by kernel_rfl) rfl (by kernel_rfl) (by kernel_rfl) (fun _ _ _ h => h.elim) hA (by kernel_rfl) (by kernel_rfl) (by kernel_rfl) (Rd.pure fun _ => by kernel_rfl) ?_; clear hA ac; intro ac hA
   refine sr_one (i := 24) (by kernel_rfl) (sr_do rfl hA (by kernel_rfl) (by kernel_rfl) (by kernel_rfl) (Runs.storeTail (k := .u64) (n := 256) (f := f) (tl := #[Value.int .u64 (l.foldl byteStep (sum)), Value.int .i64 many, Value.bool true]) (tl' := #[Value.int .u64 (l.foldl byteStep (sum)), Value.int .i64 ((many : Int) + ((l.length : Nat) : Int)), Value.bool true]) (b := d) (j := 257) (v := Value.int .i64 ((many : Int) + ((l.length : Nat) : Int))) (by kernel_rfl) (by kernel_rfl) (by kernel_rfl) rfl rfl (by simp) (by rfl) hW 0 rfl (H' := [PgTR .u64 256 81 f #[Value.int .u64 (l.foldl byteStep (sum)), Value.int .i64 ((many : Int) + ((l.length : Nat) : Int)), Value.bool true] d]) rfl ?_)); clear hA ac hW; intro w5 hW ac hA
   refine ⟨⟨fun h => absurd h (by decide), fun h => absurd h (by decide)⟩, ?_⟩
   refine sr_done (by kernel_rfl) ?_ _
   exact ⟨hA.sub ⟨⟨by kernel_rfl, by kernel_rfl⟩, ⟨by kernel_rfl, by kernel_rfl⟩, ⟨by kernel_rfl, by kernel_rfl⟩, ⟨by kernel_rfl, by kernel_rfl⟩, ⟨by kernel_rfl, by kernel_rfl⟩, ⟨by kernel_rfl, by kernel_rfl⟩, ⟨by kernel_rfl, by kernel_rfl⟩, ⟨by kernel_rfl, by kernel_rfl⟩, ⟨by kernel_rfl, by kernel_rfl⟩, ⟨by kernel_rfl, by kernel_rfl⟩, ⟨by kernel_rfl, by kernel_rfl⟩, trivial⟩, (hW.pick [0] (by decide) rfl).pickG [0, 1] rfl⟩
 clear hA ac hW; rintro ac w6 ⟨hA, hW⟩
 refine blkN ?_
 refine thenN ?_
 refine wp_region_lit ?_
 refine st_rd (v := Value.int .i64 1) hA (by kernel_rfl) (by kernel_rfl) (by kernel_rfl) hW.cls (Rd.pureE (v0 := Value.int .i64 (IntKind.i64.wrap ((0 : Int) + 1))) (fun _ => by kernel_rfl) (congrArg (Value.int .i64) ((w_i64 (x := (0 : Int) + 1) (by omega) (by omega)).trans (by omega)))) ?_; clear hA ac; intro ac hA
 refine st_rd (v := Value.int .i64 1) hA (by kernel_rfl) (by kernel_rfl) (by kernel_rfl) hW.cls (Rd.pure fun _ => by kernel_rfl) ?_; clear hA ac; intro ac hA
 refine wpList_nil ?_
 refine thenN ?_
 rw [rounds_succ]
 refine wp_seq ?_
 refine wp_region_lit ?_
 refine st_rd (v := Value.bool false) hA (by kernel_rfl) (by kernel_rfl) (by kernel_rfl) hW.cls (Rd.pure fun _ => by kernel_rfl) ?_; clear hA ac; intro ac hA
 refine wpList_nil ?_
 refine thenN ?_
 refine wp_seq ?_
 refine wp_cond_false (hA.eval (by kernel_rfl)) ?_
 refine wp_exit ?_
 refine thenX ?_
 refine thenX ?_
 refine blkX ?_
 refine thenN ?_
 refine wp_seq ?_
 refine wp_region_lit ?_
 refine st_rd (v := Value.int .i64 0) hA (by kernel_rfl) (by kernel_rfl) (by kernel_rfl) hW.cls (Rd.pure fun _ => by kernel_rfl) ?_; clear hA ac; intro ac hA
 refine wpList_nil ?_
 refine thenN ?_
 refine wp_ret ?_
 refine ret1 (v := Value.int .i64 0) (by rfl) hA (Got.tmp hA (by kernel_rfl) (by kernel_rfl)) ?_
 clear hA
 exact ⟨rfl, (Ws.pack (K := []) (show Ws w (· ∈ (DigR d f sum many).fp) ([PgTR .u64 256 81 f #[Value.int .u64 (l.foldl byteStep (sum)), Value.int .i64 ((many : Int) + ((l.length : Nat) : Int)), Value.bool true] d] ++ []) [roR A_l 1 enB6 l, Cel ob_l #[Value.slice A_l l.length c_l] 59] _ from hW.pick [0] (by decide) rfl)).updDone 0 rfl⟩

end Go.Proofs.Ytcokpdlmahlpnaa.L
