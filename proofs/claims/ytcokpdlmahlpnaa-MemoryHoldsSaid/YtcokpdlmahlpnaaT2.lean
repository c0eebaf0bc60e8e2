/- Contracts, walked by program over the engine's laws. -/
import Derived.Test.YtcokpdlmahlpnaaProg
import Derived.Test.YtcokpdlmahlpnaaT1
namespace Go.Proofs.Ytcokpdlmahlpnaa.L
open Go.RowKit

set_option maxRecDepth 100000 in
theorem e_put (b : Nat) (V : VT6) (a : Int) (wd : Int) (w : World) (ho_p : (PgsR b V).p w) (hl_p : ∀ x_ ∈ (PgsR b V).fp, x_ < w.heap.size) (ha : 0 ≤ a ∧ a ≤ 4294967295) (hw : 0 ≤ wd ∧ wd ≤ 4294967295) : Calls Try.prog 27 #[Value.map (some b), Value.int .u32 a, Value.int .u32 wd] w (fun e w' => ∃ V' : VT6, e = .returned (Value.tuple #[]) ∧ (PutR V a wd V') ∧ Upd (PgsR b V) (PgsR b V') w w') := by
 have _hu := ho_p; have _hv := hl_p; clear _hu _hv
 have _hu := ha; clear _hu
 have _hu := hw; clear _hu
 refine enter_E 40 Try.func27 rfl rfl (by kernel_rfl) (L := [(0, Value.map (some b)), (1, Value.int .u32 a), (2, Value.int .u32 wd)]) (by kernel_rfl) ?_
 intro ac hA
 have hW : Ws w (· ∈ (PgsR b V).fp) [mapR b (fun a : Int => Value.int .u32 a) (fun x_ : Nat => Value.pointer (some ⟨x_, 0, none⟩)) (outs V), SubR (fun (c_ : Nat → Int) (b_ : Nat) => PgR .u32 4096 64 c_ b_) V] [] w := Ws.unpack (K := []) (objW ho_p hl_p)
 clear ho_p hl_p
 refine wp_seq ?_
 refine wp_region_lit ?_
 refine st_rd (v := Value.int .u32 a) hA (by kernel_rfl) (by kernel_rfl) (by kernel_rfl) hW.cls (Rd.pure fun _ => by kernel_rfl) ?_; clear hA ac; intro ac hA
 refine st hA (by kernel_rfl) (by kernel_rfl) (by kernel_rfl) (Runs.callN (v := Value.tuple #[Value.int .u32 (pgN (a)), Value.int .u32 (pgI (a))]) (fun _ => by kernel_rfl) hW (e_at (a) w (by first | omega | (simp; done))) ?_); clear hA ac hW; intro w1 hW hfw1 ac hA
 refine st_rd (v := Value.tuple #[Value.int .u32 (pgN (a)), Value.int .u32 (pgI (a))]) hA (by kernel_rfl) (by kernel_rfl) (by kernel_rfl) hW.cls (Rd.pure fun _ => by kernel_rfl) ?_; clear hA ac; intro ac hA
 refine st_rd (v := Value.int .u32 (pgN (a))) hA (by kernel_rfl) (by kernel_rfl) (by kernel_rfl) hW.cls (Rd.pure fun _ => by kernel_rfl) ?_; clear hA ac; intro ac hA
 refine st_rd (v := Value.int .u32 (pgI (a))) hA (by kernel_rfl) (by kernel_rfl) (by kernel_rfl) hW.cls (Rd.pure fun _ => by kernel_rfl) ?_; clear hA ac; intro ac hA
 refine st_rd (v := Value.int .u32 (pgN (a))) hA (by kernel_rfl) (by kernel_rfl) (by kernel_rfl) hW.cls (Rd.pure fun _ => by kernel_rfl) ?_; clear hA ac; intro ac hA
 refine st_rd (v := Value.int .u32 (pgI (a))) hA (by kernel_rfl) (by kernel_rfl) (by kernel_rfl) hW.cls (Rd.pure fun _ => by kernel_rfl) ?_; clear hA ac; intro ac hA
 refine wpList_nil ?_
 refine thenN ?_
 refine wp_seq ?_
 refine wp_seq ?_
 have hpi : 0 ≤ pgI a ∧ pgI a < 4096 ∧ 0 ≤ pgN a ∧ pgN a ≤ 1048575 := by unfold pgI pgN; omega
 refine wp_region_lit ?_
 refine st_rd (v := Value.map (some b)) hA (by kernel_rfl) (by kernel_rfl) (by kernel_rfl) hW.cls (Rd.pure fun _ => by kernel_rfl) ?_; clear hA ac; intro ac hA
 refine st_rd (v := Value.int .u32 (pgN (a))) hA (by kernel_rfl) (by kernel_rfl) (by kernel_rfl) hW.cls (Rd.pure fun _ => by kernel_rfl) ?_; clear hA ac; intro ac hA
 rcases hk2 : look (outs V) (pgN (a) : Int) with _ | bk3
 · skip
   first
   | (exfalso; clear hA hW; omega)
   | (
     refine st_rd (v := Value.pointer none) hA (by kernel_rfl) (by kernel_rfl) (by kernel_rfl) hW.cls ((Rd.lookup (k := 28) (e := 62) (ek := (fun a : Int => Value.int .u32 a)) (ev := (fun x_ : Nat => Value.pointer (some ⟨x_, 0, none⟩))) (m := (outs V)) (z := Value.pointer none) (pgN (a) : Int) false (by kernel_rfl) (by kernel_rfl) (KeyE.int (by kernel_rfl)) (by kernel_rfl) (fun _ => by kernel_rfl) (fun _ hw => (hw.1).get 0 rfl)).cast (by rw [hk2]; rfl)) ?_; clear hA ac; intro ac hA
     refine st_rd (v := Value.bool true) hA (by kernel_rfl) (by kernel_rfl) (by kernel_rfl) hW.cls (Rd.pure fun _ => by kernel_rfl) ?_; clear hA ac; intro ac hA
     refine wpList_nil ?_
     refine thenN ?_
     refine wp_cond_true (hA.eval (by kernel_rfl)) ?_
     refine wp_seq ?_
     refine wp_seq ?_
     refine wp_region_lit ?_
     refine st_rd (v := Value.int .u32 wd) hA (by kernel_rfl) (by kernel_rfl) (by kernel_rfl) hW.cls (Rd.pure fun _ => by kernel_rfl) ?_; clear hA ac; intro ac hA
     refine st_rd (v := Value.bool ((wd : Int) == (0 : Int))) hA (by kernel_rfl) (by kernel_rfl) (by kernel_rfl) hW.cls (Rd.pure fun _ => by kernel_rfl) ?_; clear hA ac; intro ac hA
     refine wpList_nil ?_
     refine thenN ?_
     refine wp_cond_split (t := (wd : Int) == (0 : Int)) (hA.eval (by kernel_rfl)) (fun h4 => ?_) (fun h4 => ?_)
     · skip
       have h4 := eq_of_beq h4
       first
       | (exfalso; clear hA hW; omega)
       | (
         refine wp_ret ?_
         refine thenR ?_
         refine thenR ?_
         refine ret0 (.inl rfl) rfl hA ?_
         clear hA
         exact ⟨V, rfl, by unfold PutR; rw [outs_none.1 hk2]; show if wd = 0 then _ else _; rw [if_pos (by omega)], (Ws.pack (K := []) (show Ws w (· ∈ (PgsR b V).fp) ([mapR b (fun a : Int => Value.int .u32 a) (fun x_ : Nat => Value.pointer (some ⟨x_, 0, none⟩)) (outs V), SubR (fun (c_ : Nat → Int) (b_ : Nat) => PgR .u32 4096 64 c_ b_) V] ++ []) [] _ from hW.pick [0, 1] (by decide) rfl)).updDone 0 rfl⟩)
     · skip
       have h4 := ne_of_beq_false h4
       first
       | (exfalso; clear hA hW; omega)
       | (
         refine wp_skip ?_
         refine thenN ?_
         refine wp_region_lit ?_
         refine st_rd (v := Value.map (some b)) hA (by kernel_rfl) (by kernel_rfl) (by kernel_rfl) hW.cls (Rd.pure fun _ => by kernel_rfl) ?_; clear hA ac; intro ac hA
         refine st_rd (v := Value.int .u32 (pgN (a))) hA (by kernel_rfl) (by kernel_rfl) (by kernel_rfl) hW.cls (Rd.pure fun _ => by kernel_rfl) ?_; clear hA ac; intro ac hA
         refine st_rd (v := Value.agg (pgA .u32 4096 (fun _ => 0))) hA (by kernel_rfl) (by kernel_rfl) (by kernel_rfl) hW.cls (Rd.pure fun _ => by kernel_rfl) ?_; clear hA ac; intro ac hA
         refine st hA (by kernel_rfl) (by kernel_rfl) (by kernel_rfl) (Runs.cells (fun b => Value.pointer (some ⟨b, 0, none⟩)) (pgA .u32 4096 (fun _ => 0)) 64 (fun _ => by kernel_rfl) hW ?_); clear hA ac hW; intro b5 w6 hW hb5 hfw6 ac hA
         refine st hA (by kernel_rfl) (by kernel_rfl) (by kernel_rfl) (Runs.mapUpdate (k := 28) (e := 62) (ek := (fun a : Int => Value.int .u32 a)) (ev := (fun x_ : Nat => Value.pointer (some ⟨x_, 0, none⟩))) (m := (outs V)) (pgN (a) : Int) b5 (by kernel_rfl) (by kernel_rfl) (by kernel_rfl) (KeyE.int (by kernel_rfl)) (by kernel_rfl) hW (i := 1) rfl ?_); clear hA ac hW; intro w7 hW ac hA
         refine wpList_nil ?_
         refine thenN ?_
         refine wp_seq ?_
         have hlk_ : look (put (outs V) (pgN (a) : Int) b5) (pgN (a) : Int) = some b5 := by rw [look_put]; simp
         refine wp_region_lit ?_
         refine st_rd (v := Value.map (some b)) hA (by kernel_rfl) (by kernel_rfl) (by kernel_rfl) hW.cls (Rd.pure fun _ => by kernel_rfl) ?_; clear hA ac; intro ac hA
         refine st_rd (v := Value.int .u32 (pgN (a))) hA (by kernel_rfl) (by kernel_rfl) (by kernel_rfl) hW.cls (Rd.pure fun _ => by kernel_rfl) ?_; clear hA ac; intro ac hA
         refine st_rd (v := Value.pointer (some ⟨b5, 0, none⟩)) hA (by kernel_rfl) (by kernel_rfl) (by kernel_rfl) hW.cls ((Rd.lookup (k := 28) (e := 62) (ek := (fun a : Int => Value.int .u32 a)) (ev := (fun x_ : Nat => Value.pointer (some ⟨x_, 0, none⟩))) (m := (put (outs V) (pgN (a) : Int) b5)) (z := Value.pointer none) (pgN (a) : Int) false (by kernel_rfl) (by kernel_rfl) (KeyE.int (by kernel_rfl)) (by kernel_rfl) (fun _ => by kernel_rfl) (fun _ hw => (hw.1).get 1 rfl)).cast (by rw [hlk_]; rfl)) ?_; clear hA ac; intro ac hA
         refine st_rd (v := Value.int .u32 (pgI (a))) hA (by kernel_rfl) (by kernel_rfl) (by kernel_rfl) hW.cls (Rd.pure fun _ => by kernel_rfl) ?_; clear hA ac; intro ac hA
         refine st_rd (v := Value.int .u32 wd) hA (by kernel_rfl) (by kernel_rfl) (by kernel_rfl) hW.cls (Rd.pure fun _ => by kernel_rfl) ?_; clear hA ac; intro ac hA
         refine st_rd (v := Value.pointer (some ⟨b5, 0, none⟩)) hA (by kernel_rfl) (by kernel_rfl) (by kernel_rfl) hW.cls (Rd.pure fun _ => by kernel_rfl) ?_; clear hA ac; intro ac hA
         refine st_rd (v := Value.pointer (some ⟨b5, 0 + (Int.toNat (pgI (a))) * 1, none⟩)) hA (by kernel_rfl) (by kernel_rfl) (by kernel_rfl) hW.cls (Rd.indexArr (e := 28) (sz := 1) (m := 4096) (b := b5) (off := 0) (i := (Int.toNat (pgI (a)))) (kk := .u32) (by kernel_rfl) (natvalK (k := pgI (a)) (by kernel_rfl) (by omega)) (by first | omega | (simp; done) | (simp; omega)) (fun _ => by kernel_rfl) (fun _ => by kernel_rfl)) ?_; clear hA ac; intro ac hA
         refine st hA (by kernel_rfl) (by kernel_rfl) (by kernel_rfl) (Runs.storePg (k := .u32) (n := 4096) (f := (fun _ => 0)) (b := b5) (j := (Int.toNat (pgI (a)))) (v := wd) (by kernel_rfl) (by kernel_rfl) (by kernel_rfl) (by first | omega | (simp; done) | (simp; omega)) hW 0 rfl (H' := [PgR .u32 4096 64 (pgSet (fun _ => 0) (Int.toNat (pgI (a))) wd) b5, mapR b (fun a : Int => Value.int .u32 a) (fun x_ : Nat => Value.pointer (some ⟨x_, 0, none⟩)) (put (outs V) (pgN (a) : Int) b5), SubR (fun (c_ : Nat → Int) (b_ : Nat) => PgR .u32 4096 64 c_ b_) V]) rfl ?_); clear hA ac hW; intro w8 hW ac hA
         refine wpList_nil ?_
         refine thenN ?_
         refine wp_seq ?_
         refine wp_region_lit ?_
         refine st_rd (v := Value.int .u32 wd) hA (by kernel_rfl) (by kernel_rfl) (by kernel_rfl) hW.cls (Rd.pure fun _ => by kernel_rfl) ?_; clear hA ac; intro ac hA
         refine st_rd (v := Value.bool ((wd : Int) == (0 : Int))) hA (by kernel_rfl) (by kernel_rfl) (by kernel_rfl) hW.cls (Rd.pure fun _ => by kernel_rfl) ?_; clear hA ac; intro ac hA
         refine st_rd (v := Value.bool ((wd : Int) == (0 : Int))) hA (by kernel_rfl) (by kernel_rfl) (by kernel_rfl) hW.cls (Rd.pure fun _ => by kernel_rfl) ?_; clear hA ac; intro ac hA
         rcases Bool.eq_false_or_eq_true ((wd : Int) == (0 : Int)) with h9 | h9
         · skip
           rw [h9] at hA
           have h9 := eq_of_beq h9
           first
           | (exfalso; clear hA hW; omega)
           | (
             refine st_rd (v := Value.map (some b)) hA (by kernel_rfl) (by kernel_rfl) (by kernel_rfl) hW.cls (Rd.pure fun _ => by kernel_rfl) ?_; clear hA ac; intro ac hA
             refine st_rd (v := Value.int .u32 (pgN (a))) hA (by kernel_rfl) (by kernel_rfl) (by kernel_rfl) hW.cls (Rd.pure fun _ => by kernel_rfl) ?_; clear hA ac; intro ac hA
             refine st_rd (v := Value.pointer (some ⟨b5, 0, none⟩)) hA (by kernel_rfl) (by kernel_rfl) (by kernel_rfl) hW.cls ((Rd.lookup (k := 28) (e := 62) (ek := (fun a : Int => Value.int .u32 a)) (ev := (fun x_ : Nat => Value.pointer (some ⟨x_, 0, none⟩))) (m := (put (outs V) (pgN (a) : Int) b5)) (z := Value.pointer none) (pgN (a) : Int) false (by kernel_rfl) (by kernel_rfl) (KeyE.int (by kernel_rfl)) (by kernel_rfl) (fun _ => by kernel_rfl) (fun _ hw => (hw.1).get 1 rfl)).cast (by rw [hlk_]; rfl)) ?_; clear hA ac; intro ac hA
             refine st hA (by kernel_rfl) (by kernel_rfl) (by kernel_rfl) (Runs.callN (v := Value.bool (pgEq 4096 (pgSet (fun _ => 0) (Int.toNat (pgI (a))) wd) (fun _ => 0))) (fun _ => by kernel_rfl) hW (e_pempty b5 (pgSet (fun _ => 0) (Int.toNat (pgI (a))) wd) w8 ((hW).cel 0 rfl)) ?_); clear hA ac hW; intro w10 hW hfw10 ac hA
             refine st_rd (v := Value.bool (pgEq 4096 (pgSet (fun _ => 0) (Int.toNat (pgI (a))) wd) (fun _ => 0))) hA (by kernel_rfl) (by kernel_rfl) (by kernel_rfl) hW.cls (Rd.pure fun _ => by kernel_rfl) ?_; clear hA ac; intro ac hA
             refine wpList_nil ?_
             refine thenN ?_
             refine wp_cond_split (t := pgEq 4096 (pgSet (fun _ => 0) (Int.toNat (pgI (a))) wd) (fun _ => 0)) (hA.eval (by kernel_rfl)) (fun h11 => ?_) (fun h11 => ?_)
             · skip
               first
               | (exfalso; clear hA hW; omega)
               | (
                 fail)
             · skip
               first
               | (exfalso; clear hA hW; omega)
               | (
                 refine wp_skip ?_
                 refine ret0 (.inr rfl) rfl hA ?_
                 clear hA
                 rw [put_end hk2, ← outs_snoc (pgN a) b5 (pgSet (fun _ => 0) (Int.toNat (pgI (a))) wd)] at hW
                 have hW := Ws.subAdd (f := (fun (c_ : Nat → Int) (b_ : Nat) => PgR .u32 4096 64 c_ b_)) (hW.pick [0, 2, 1] (by decide) rfl) (pgN a)
                 replace hW : Ws w (· ∈ (PgsR b V).fp) [SubR (fun (c_ : Nat → Int) (b_ : Nat) => PgR .u32 4096 64 c_ b_) (V ++ [(pgN a, b5, pgSet (fun _ => 0) (Int.toNat (pgI (a))) wd)]), mapR b (fun a : Int => Value.int .u32 a) (fun x_ : Nat => Value.pointer (some ⟨x_, 0, none⟩)) (outs (V ++ [(pgN a, b5, pgSet (fun _ => 0) (Int.toNat (pgI (a))) wd)]))] [] w10 := hW
                 exact ⟨V ++ [(pgN a, b5, pgSet (fun _ => 0) (Int.toNat (pgI (a))) wd)], rfl, by unfold PutR; rw [outs_none.1 hk2]; show if wd = 0 then _ else _; rw [if_neg (by omega)]; exact ⟨_, rfl⟩, (Ws.pack (K := []) (show Ws w (· ∈ (PgsR b V).fp) ([mapR b (fun a : Int => Value.int .u32 a) (fun x_ : Nat => Value.pointer (some ⟨x_, 0, none⟩)) (outs (V ++ [(pgN a, b5, pgSet (fun _ => 0) (Int.toNat (pgI (a))) wd)])), SubR (fun (c_ : Nat → Int) (b_ : Nat) => PgR .u32 4096 64 c_ b_) (V ++ [(pgN a, b5, pgSet (fun _ => 0) (Int.toNat (pgI (a))) wd)])] ++ []) [] _ from hW.pick [1, 0] (by decide) rfl)).updDone 0 rfl⟩))
         · skip
           rw [h9] at hA
           have h9 := ne_of_beq_false h9
           first
           | (exfalso; clear hA hW; omega)
           | (
             refine st_skip hA (by kernel_rfl) (by kernel_rfl) ?_; clear hA ac; intro ac hA
             refine st_skip hA (by kernel_rfl) (by kernel_rfl) ?_; clear hA ac; intro ac hA
             refine st_skip hA (by kernel_rfl) (by kernel_rfl) ?_; clear hA ac; intro ac hA
             refine st_skip hA (by kernel_rfl) (by kernel_rfl) ?_; clear hA ac; intro ac hA
             refine st_rd (v := Value.bool false) hA (by kernel_rfl) (by kernel_rfl) (by kernel_rfl) hW.cls (Rd.pure fun _ => by kernel_rfl) ?_; clear hA ac; intro ac hA
             refine wpList_nil ?_
             refine thenN ?_
             refine wp_cond_false (hA.eval (by kernel_rfl)) ?_
             refine wp_skip ?_
             refine ret0 (.inr rfl) rfl hA ?_
             clear hA
             rw [put_end hk2, ← outs_snoc (pgN a) b5 (pgSet (fun _ => 0) (Int.toNat (pgI (a))) wd)] at hW
             have hW := Ws.subAdd (f := (fun (c_ : Nat → Int) (b_ : Nat) => PgR .u32 4096 64 c_ b_)) (hW.pick [0, 2, 1] (by decide) rfl) (pgN a)
             replace hW : Ws w (· ∈ (PgsR b V).fp) [SubR (fun (c_ : Nat → Int) (b_ : Nat) => PgR .u32 4096 64 c_ b_) (V ++ [(pgN a, b5, pgSet (fun _ => 0) (Int.toNat (pgI (a))) wd)]), mapR b (fun a : Int => Value.int .u32 a) (fun x_ : Nat => Value.pointer (some ⟨x_, 0, none⟩)) (outs (V ++ [(pgN a, b5, pgSet (fun _ => 0) (Int.toNat (pgI (a))) wd)]))] [] w8 := hW
             exact ⟨V ++ [(pgN a, b5, pgSet (fun _ => 0) (Int.toNat (pgI (a))) wd)], rfl, by unfold PutR; rw [outs_none.1 hk2]; show if wd = 0 then _ else _; rw [if_neg (by omega)]; exact ⟨_, rfl⟩, (Ws.pack (K := []) (show Ws w (· ∈ (PgsR b V).fp) ([mapR b (fun a : Int => Value.int .u32 a) (fun x_ : Nat => Value.pointer (some ⟨x_, 0, none⟩)) (outs (V ++ [(pgN a, b5, pgSet (fun _ => 0) (Int.toNat (pgI (a))) wd)])), SubR (fun (c_ : Nat → Int) (b_ : Nat) => PgR .u32 4096 64 c_ b_) (V ++ [(pgN a, b5, pgSet (fun _ => 0) (Int.toNat (pgI (a))) wd)])] ++ []) [] _ from hW.pick [1, 0] (by decide) rfl)).updDone 0 rfl⟩)))
 · skip
   first
   | (exfalso; clear hA hW; omega)
   | (
     obtain ⟨i12, c13, hi14, hv15⟩ := outs_at hk2
     have hW := Ws.subOpen (hW.pick [1, 0] (by decide) rfl) i12 hi14
     replace hW : Ws w (· ∈ (PgsR b V).fp) [PgR .u32 4096 64 c13 bk3, SubR (fun (c_ : Nat → Int) (b_ : Nat) => PgR .u32 4096 64 c_ b_) (List.eraseIdx V i12), mapR b (fun a : Int => Value.int .u32 a) (fun x_ : Nat => Value.pointer (some ⟨x_, 0, none⟩)) (outs V)] [] w1 := hW
     refine st_rd (v := Value.pointer (some ⟨bk3, 0, none⟩)) hA (by kernel_rfl) (by kernel_rfl) (by kernel_rfl) hW.cls ((Rd.lookup (k := 28) (e := 62) (ek := (fun a : Int => Value.int .u32 a)) (ev := (fun x_ : Nat => Value.pointer (some ⟨x_, 0, none⟩))) (m := (outs V)) (z := Value.pointer none) (pgN (a) : Int) false (by kernel_rfl) (by kernel_rfl) (KeyE.int (by kernel_rfl)) (by kernel_rfl) (fun _ => by kernel_rfl) (fun _ hw => (hw.1).get 2 rfl)).cast (by rw [hk2]; rfl)) ?_; clear hA ac; intro ac hA
     refine st_rd (v := Value.bool false) hA (by kernel_rfl) (by kernel_rfl) (by kernel_rfl) hW.cls (Rd.pure fun _ => by kernel_rfl) ?_; clear hA ac; intro ac hA
     refine wpList_nil ?_
     refine thenN ?_
     refine wp_cond_false (hA.eval (by kernel_rfl)) ?_
     refine wp_skip ?_
     refine thenN ?_
     refine wp_seq ?_
     refine wp_region_lit ?_
     refine st_rd (v := Value.map (some b)) hA (by kernel_rfl) (by kernel_rfl) (by kernel_rfl) hW.cls (Rd.pure fun _ => by kernel_rfl) ?_; clear hA ac; intro ac hA
     refine st_rd (v := Value.int .u32 (pgN (a))) hA (by kernel_rfl) (by kernel_rfl) (by kernel_rfl) hW.cls (Rd.pure fun _ => by kernel_rfl) ?_; clear hA ac; intro ac hA
     refine st_rd (v := Value.pointer (some ⟨bk3, 0, none⟩)) hA (by kernel_rfl) (by kernel_rfl) (by kernel_rfl) hW.cls ((Rd.lookup (k := 28) (e := 62) (ek := (fun a : Int => Value.int .u32 a)) (ev := (fun x_ : Nat => Value.pointer (some ⟨x_, 0, none⟩))) (m := (outs V)) (z := Value.pointer none) (pgN (a) : Int) false (by kernel_rfl) (by kernel_rfl) (KeyE.int (by kernel_rfl)) (by kernel_rfl) (fun _ => by kernel_rfl) (fun _ hw => (hw.1).get 2 rfl)).cast (by rw [hk2]; rfl)) ?_; clear hA ac; intro ac hA
     refine st_rd (v := Value.int .u32 (pgI (a))) hA (by kernel_rfl) (by kernel_rfl) (by kernel_rfl) hW.cls (Rd.pure fun _ => by kernel_rfl) ?_; clear hA ac; intro ac hA
     refine st_rd (v := Value.int .u32 wd) hA (by kernel_rfl) (by kernel_rfl) (by kernel_rfl) hW.cls (Rd.pure fun _ => by kernel_rfl) ?_; clear hA ac; intro ac hA
     refine st_rd (v := Value.pointer (some ⟨bk3, 0, none⟩)) hA (by kernel_rfl) (by kernel_rfl) (by kernel_rfl) hW.cls (Rd.pure fun _ => by kernel_rfl) ?_; clear hA ac; intro ac hA
     refine st_rd (v := Value.pointer (some ⟨bk3, 0 + (Int.toNat (pgI (a))) * 1, none⟩)) hA (by kernel_rfl) (by kernel_rfl) (by kernel_rfl) hW.cls (Rd.indexArr (e := 28) (sz := 1) (m := 4096) (b := bk3) (off := 0) (i := (Int.toNat (pgI (a)))) (kk := .u32) (by kernel_rfl) (natvalK (k := pgI (a)) (by kernel_rfl) (by omega)) (by first | omega | (simp; done) | (simp; omega)) (fun _ => by kernel_rfl) (fun _ => by kernel_rfl)) ?_; clear hA ac; intro ac hA
     refine st hA (by kernel_rfl) (by kernel_rfl) (by kernel_rfl) (Runs.storePg (k := .u32) (n := 4096) (f := c13) (b := bk3) (j := (Int.toNat (pgI (a)))) (v := wd) (by kernel_rfl) (by kernel_rfl) (by kernel_rfl) (by first | omega | (simp; done) | (simp; omega)) hW 0 rfl (H' := [PgR .u32 4096 64 (pgSet c13 (Int.toNat (pgI (a))) wd) bk3, SubR (fun (c_ : Nat → Int) (b_ : Nat) => PgR .u32 4096 64 c_ b_) (List.eraseIdx V i12), mapR b (fun a : Int => Value.int .u32 a) (fun x_ : Nat => Value.pointer (some ⟨x_, 0, none⟩)) (outs V)]) rfl ?_); clear hA ac hW; intro w16 hW ac hA
     refine wpList_nil ?_
     refine thenN ?_
     refine wp_seq ?_
     refine wp_region_lit ?_
     refine st_rd (v := Value.int .u32 wd) hA (by kernel_rfl) (by kernel_rfl) (by kernel_rfl) hW.cls (Rd.pure fun _ => by kernel_rfl) ?_; clear hA ac; intro ac hA
     refine st_rd (v := Value.bool ((wd : Int) == (0 : Int))) hA (by kernel_rfl) (by kernel_rfl) (by kernel_rfl) hW.cls (Rd.pure fun _ => by kernel_rfl) ?_; clear hA ac; intro ac hA
     refine st_rd (v := Value.bool ((wd : Int) == (0 : Int))) hA (by kernel_rfl) (by kernel_rfl) (by kernel_rfl) hW.cls (Rd.pure fun _ => by kernel_rfl) ?_; clear hA ac; intro ac hA
     rcases Bool.eq_false_or_eq_true ((wd : Int) == (0 : Int)) with h17 | h17
     · skip
       rw [h17] at hA
       have h17 := eq_of_beq h17
       first
       | (exfalso; clear hA hW; omega)
       | (
         refine st_rd (v := Value.map (some b)) hA (by kernel_rfl) (by kernel_rfl) (by kernel_rfl) hW.cls (Rd.pure fun _ => by kernel_rfl) ?_; clear hA ac; intro ac hA
         refine st_rd (v := Value.int .u32 (pgN (a))) hA (by kernel_rfl) (by kernel_rfl) (by kernel_rfl) hW.cls (Rd.pure fun _ => by kernel_rfl) ?_; clear hA ac; intro ac hA
         refine st_rd (v := Value.pointer (some ⟨bk3, 0, none⟩)) hA (by kernel_rfl) (by kernel_rfl) (by kernel_rfl) hW.cls ((Rd.lookup (k := 28) (e := 62) (ek := (fun a : Int => Value.int .u32 a)) (ev := (fun x_ : Nat => Value.pointer (some ⟨x_, 0, none⟩))) (m := (outs V)) (z := Value.pointer none) (pgN (a) : Int) false (by kernel_rfl) (by kernel_rfl) (KeyE.int (by kernel_rfl)) (by kernel_rfl) (fun _ => by kernel_rfl) (fun _ hw => (hw.1).get 2 rfl)).cast (by rw [hk2]; rfl)) ?_; clear hA ac; intro ac hA
         refine st hA (by kernel_rfl) (by kernel_rfl) (by kernel_rfl) (Runs.callN (v := Value.bool (pgEq 4096 (pgSet c13 (Int.toNat (pgI (a))) wd) (fun _ => 0))) (fun _ => by kernel_rfl) hW (e_pempty bk3 (pgSet c13 (Int.toNat (pgI (a))) wd) w16 ((hW).cel 0 rfl)) ?_); clear hA ac hW; intro w18 hW hfw18 ac hA
         refine st_rd (v := Value.bool (pgEq 4096 (pgSet c13 (Int.toNat (pgI (a))) wd) (fun _ => 0))) hA (by kernel_rfl) (by kernel_rfl) (by kernel_rfl) hW.cls (Rd.pure fun _ => by kernel_rfl) ?_; clear hA ac; intro ac hA
         refine wpList_nil ?_
         refine thenN ?_
         refine wp_cond_split (t := pgEq 4096 (pgSet c13 (Int.toNat (pgI (a))) wd) (fun _ => 0)) (hA.eval (by kernel_rfl)) (fun h19 => ?_) (fun h19 => ?_)
         · skip
           first
           | (exfalso; clear hA hW; omega)
           | (
             have hW := Ws.subClose (f := (fun (c_ : Nat → Int) (b_ : Nat) => PgR .u32 4096 64 c_ b_)) (x := pgSet c13 (Int.toNat (pgI (a))) wd) (hW.pick [0, 1, 2] (by decide) rfl) hi14
             rw [← outs_set (c' := pgSet c13 (Int.toNat (pgI (a))) wd) hi14] at hW
             replace hW : Ws w (· ∈ (PgsR b V).fp) [SubR (fun (c_ : Nat → Int) (b_ : Nat) => PgR .u32 4096 64 c_ b_) (List.set V i12 ((pgN (a) : Int), bk3, pgSet c13 (Int.toNat (pgI (a))) wd)), mapR b (fun a : Int => Value.int .u32 a) (fun x_ : Nat => Value.pointer (some ⟨x_, 0, none⟩)) (outs (List.set V i12 ((pgN (a) : Int), bk3, pgSet c13 (Int.toNat (pgI (a))) wd)))] [] w18 := hW
             refine wp_region_lit ?_
             refine st_rd (v := Value.map (some b)) hA (by kernel_rfl) (by kernel_rfl) (by kernel_rfl) hW.cls (Rd.pure fun _ => by kernel_rfl) ?_; clear hA ac; intro ac hA
             refine st_rd (v := Value.int .u32 (pgN (a))) hA (by kernel_rfl) (by kernel_rfl) (by kernel_rfl) hW.cls (Rd.pure fun _ => by kernel_rfl) ?_; clear hA ac; intro ac hA
             refine st hA (by kernel_rfl) (by kernel_rfl) (by kernel_rfl) (Runs.delete (k := 28) (e := 62) (ek := (fun a : Int => Value.int .u32 a)) (ev := (fun x_ : Nat => Value.pointer (some ⟨x_, 0, none⟩))) (m := (outs (List.set V i12 ((pgN (a) : Int), bk3, pgSet c13 (Int.toNat (pgI (a))) wd)))) (pgN (a) : Int) (by kernel_rfl) (by kernel_rfl) (KeyE.int (by kernel_rfl)) (by kernel_rfl) hW (i := 1) rfl ?_); clear hA ac hW; intro w20 hW ac hA
             refine wpList_nil ?_
             refine ret0 (.inr rfl) rfl hA ?_
             clear hA
             rw [← outs_delV] at hW
             have hW := Ws.subLess (hW.pick [0, 1] (by decide) rfl) (delV_sub (k := pgN a))
             replace hW : Ws w (· ∈ (PgsR b V).fp) [SubR (fun (c_ : Nat → Int) (b_ : Nat) => PgR .u32 4096 64 c_ b_) (delV (List.set V i12 ((pgN (a) : Int), bk3, pgSet c13 (Int.toNat (pgI (a))) wd)) (pgN a)), mapR b (fun a : Int => Value.int .u32 a) (fun x_ : Nat => Value.pointer (some ⟨x_, 0, none⟩)) (outs (delV (List.set V i12 ((pgN (a) : Int), bk3, pgSet c13 (Int.toNat (pgI (a))) wd)) (pgN a)))] [] w20 := hW
             exact ⟨delV (List.set V i12 ((pgN (a) : Int), bk3, pgSet c13 (Int.toNat (pgI (a))) wd)) (pgN a), rfl, by unfold PutR; rw [hv15]; refine ⟨_, _, hi14, ?_⟩; rw [if_pos ⟨by omega, h19⟩], (Ws.pack (K := []) (show Ws w (· ∈ (PgsR b V).fp) ([mapR b (fun a : Int => Value.int .u32 a) (fun x_ : Nat => Value.pointer (some ⟨x_, 0, none⟩)) (outs (delV (List.set V i12 ((pgN (a) : Int), bk3, pgSet c13 (Int.toNat (pgI (a))) wd)) (pgN a))), SubR (fun (c_ : Nat → Int) (b_ : Nat) => PgR .u32 4096 64 c_ b_) (delV (List.set V i12 ((pgN (a) : Int), bk3, pgSet c13 (Int.toNat (pgI (a))) wd)) (pgN a))] ++ []) [] _ from hW.pick [1, 0] (by decide) rfl)).updDone 0 rfl⟩)
         · skip
           first
           | (exfalso; clear hA hW; omega)
           | (
             refine wp_skip ?_
             refine ret0 (.inr rfl) rfl hA ?_
             clear hA
             have hW := Ws.subClose (f := (fun (c_ : Nat → Int) (b_ : Nat) => PgR .u32 4096 64 c_ b_)) (x := pgSet c13 (Int.toNat (pgI (a))) wd) (hW.pick [0, 1, 2] (by decide) rfl) hi14
             rw [← outs_set (c' := pgSet c13 (Int.toNat (pgI (a))) wd) hi14] at hW
             replace hW : Ws w (· ∈ (PgsR b V).fp) [SubR (fun (c_ : Nat → Int) (b_ : Nat) => PgR .u32 4096 64 c_ b_) (List.set V i12 ((pgN (a) : Int), bk3, pgSet c13 (Int.toNat (pgI (a))) wd)), mapR b (fun a : Int => Value.int .u32 a) (fun x_ : Nat => Value.pointer (some ⟨x_, 0, none⟩)) (outs (List.set V i12 ((pgN (a) : Int), bk3, pgSet c13 (Int.toNat (pgI (a))) wd)))] [] w18 := hW
             exact ⟨List.set V i12 ((pgN (a) : Int), bk3, pgSet c13 (Int.toNat (pgI (a))) wd), rfl, by unfold PutR; rw [hv15]; refine ⟨_, _, hi14, ?_⟩; rw [if_neg (by rw [h19]; simp)], (Ws.pack (K := []) (show Ws w (· ∈ (PgsR b V).fp) ([mapR b (fun a : Int => Value.int .u32 a) (fun x_ : Nat => Value.pointer (some ⟨x_, 0, none⟩)) (outs (List.set V i12 ((pgN (a) : Int), bk3, pgSet c13 (Int.toNat (pgI (a))) wd))), SubR (fun (c_ : Nat → Int) (b_ : Nat) => PgR .u32 4096 64 c_ b_) (List.set V i12 ((pgN (a) : Int), bk3, pgSet c13 (Int.toNat (pgI (a))) wd))] ++ []) [] _ from hW.pick [1, 0] (by decide) rfl)).updDone 0 rfl⟩))
     · skip
       rw [h17] at hA
       have h17 := ne_of_beq_false h17
       first
       | (exfalso; clear hA hW; omega)
       | (
         refine st_skip hA (by kernel_rfl) (by kernel_rfl) ?_; clear hA ac; intro ac hA
         refine st_skip hA (by kernel_rfl) (by kernel_rfl) ?_; clear hA ac; intro ac hA
         refine st_skip hA (by kernel_rfl) (by kernel_rfl) ?_; clear hA ac; intro ac hA
         refine st_skip hA (by kernel_rfl) (by kernel_rfl) ?_; clear hA ac; intro ac hA
         refine st_rd (v := Value.bool false) hA (by kernel_rfl) (by kernel_rfl) (by kernel_rfl) hW.cls (Rd.pure fun _ => by kernel_rfl) ?_; clear hA ac; intro ac hA
         refine wpList_nil ?_
         refine thenN ?_
         refine wp_cond_false (hA.eval (by kernel_rfl)) ?_
         refine wp_skip ?_
         refine ret0 (.inr rfl) rfl hA ?_
         clear hA
         have hW := Ws.subClose (f := (fun (c_ : Nat → Int) (b_ : Nat) => PgR .u32 4096 64 c_ b_)) (x := pgSet c13 (Int.toNat (pgI (a))) wd) (hW.pick [0, 1, 2] (by decide) rfl) hi14
         rw [← outs_set (c' := pgSet c13 (Int.toNat (pgI (a))) wd) hi14] at hW
         replace hW : Ws w (· ∈ (PgsR b V).fp) [SubR (fun (c_ : Nat → Int) (b_ : Nat) => PgR .u32 4096 64 c_ b_) (List.set V i12 ((pgN (a) : Int), bk3, pgSet c13 (Int.toNat (pgI (a))) wd)), mapR b (fun a : Int => Value.int .u32 a) (fun x_ : Nat => Value.pointer (some ⟨x_, 0, none⟩)) (outs (List.set V i12 ((pgN (a) : Int), bk3, pgSet c13 (Int.toNat (pgI (a))) wd)))] [] w16 := hW
         exact ⟨List.set V i12 ((pgN (a) : Int), bk3, pgSet c13 (Int.toNat (pgI (a))) wd), rfl, by unfold PutR; rw [hv15]; refine ⟨_, _, hi14, ?_⟩; rw [if_neg (by omega)], (Ws.pack (K := []) (show Ws w (· ∈ (PgsR b V).fp) ([mapR b (fun a : Int => Value.int .u32 a) (fun x_ : Nat => Value.pointer (some ⟨x_, 0, none⟩)) (outs (List.set V i12 ((pgN (a) : Int), bk3, pgSet c13 (Int.toNat (pgI (a))) wd))), SubR (fun (c_ : Nat → Int) (b_ : Nat) => PgR .u32 4096 64 c_ b_) (List.set V i12 ((pgN (a) : Int), bk3, pgSet c13 (Int.toNat (pgI (a))) wd))] ++ []) [] _ from hW.pick [1, 0] (by decide) rfl)).updDone 0 rfl⟩))

end Go.Proofs.Ytcokpdlmahlpnaa.L
