/- Contracts, walked by program over the engine's laws. -/
import Derived.Test.YtcokpdlmahlpnaaProg
import Derived.Test.YtcokpdlmahlpnaaT22
namespace Go.Proofs.Ytcokpdlmahlpnaa.L
open Go.RowKit

theorem Rel06.hrw {k : Nat} {L : List Cell6} {V : VT6} (r : Rel06 k L V) : ∀ ks : List Int, ks.Perm (keys (vals V)) → (ks.Pairwise fun x y => x ≤ y) → ∀ x ∈ cellsOf (vals V) 0 ks, (0 ≤ x.addr ∧ x.addr ≤ 4294967295) ∧ (0 ≤ x.word ∧ x.word ≤ 4294967295) := fun ks h1 h2 x hx => by
  rw [r.cells h1 h2] at hx
  have := r.rng x ((from_mem r.rise).1 hx).1
  exact ⟨this.1, this.2.1⟩
theorem works_pages : pagesM [⟨1, 5⟩] = [0] := by decide
theorem works_bytes : bytes6 [⟨1, 5⟩] = [1, 0, 0, 0, 5, 0, 0, 0] := by decide
theorem works_l1 : loadM [⟨1, 5⟩] 1 = 5 := by decide
theorem works_l2 : loadM [⟨1, 5⟩] 4096 = 0 := by decide
theorem works_ins : List.foldl (fun L c => insM L c.addr c.word) [] ([⟨4096, 7⟩, ⟨1, 5⟩, ⟨4096, 0⟩] : List Cell6) = [⟨1, 5⟩] := by decide
set_option maxRecDepth 100000 in
theorem e_works06  (w : World)  : Calls Try.prog 8 #[] w (fun e w' => e = .returned (Value.bool true) ∧ Fr No w w') := by
 refine enter_E 49 Try.func8 rfl rfl (by kernel_rfl) (L := []) (by kernel_rfl) ?_
 intro ac hA
 have hW := Ws.start w No
 refine wp_seq ?_
 refine wp_region_lit ?_
 refine st_rd (v := Value.bool false) hA (by kernel_rfl) (by kernel_rfl) (by kernel_rfl) hW.cls (Rd.pure fun _ => by kernel_rfl) ?_; clear hA ac; intro ac hA
 refine wpList_nil ?_
 refine thenN ?_
 refine wp_seq ?_
 refine wp_region_lit ?_
 refine st hA (by kernel_rfl) (by kernel_rfl) (by kernel_rfl) (Runs.call (fun _ => by kernel_rfl) (e_mnew w) ?_)
 rintro _ w1 ⟨n2, n3, rfl, hu_⟩; refine ⟨_, rfl, ?_⟩; replace hW := hW.made hu_; clear hA ac; intro ac hA
 have hq4 : Rel06 0 ([] : List Cell6) ([] : List (Int × Nat × (Nat → Int))) := Rel06.start
 refine st_rd (v := Value.pointer (some ⟨n2, 0, none⟩)) hA (by kernel_rfl) (by kernel_rfl) (by kernel_rfl) hW.cls (Rd.pure fun _ => by kernel_rfl) ?_; clear hA ac; intro ac hA
 refine wpList_nil ?_
 refine thenN ?_
 refine wp_seq ?_
 refine wp_region_lit ?_
 refine st_rd (v := Value.pointer (some ⟨n2, 0, none⟩)) hA (by kernel_rfl) (by kernel_rfl) (by kernel_rfl) hW.cls (Rd.pure fun _ => by kernel_rfl) ?_; clear hA ac; intro ac hA
 refine st_rd (v := Value.agg #[Value.int .u32 4096, Value.int .u32 7]) hA (by kernel_rfl) (by kernel_rfl) (by kernel_rfl) hW.cls (Rd.pure fun _ => by kernel_rfl) ?_; clear hA ac; intro ac hA
 refine st_rd (v := Value.agg #[Value.int .u32 1, Value.int .u32 5]) hA (by kernel_rfl) (by kernel_rfl) (by kernel_rfl) hW.cls (Rd.pure fun _ => by kernel_rfl) ?_; clear hA ac; intro ac hA
 refine st_rd (v := Value.agg #[Value.int .u32 4096, Value.int .u32 0]) hA (by kernel_rfl) (by kernel_rfl) (by kernel_rfl) hW.cls (Rd.pure fun _ => by kernel_rfl) ?_; clear hA ac; intro ac hA
 refine st hA (by kernel_rfl) (by kernel_rfl) (by kernel_rfl) (Runs.cells (fun b => Value.slice (some ⟨b, 0, none⟩) 3 3) #[Value.int .u32 4096, Value.int .u32 7, Value.int .u32 1, Value.int .u32 5, Value.int .u32 4096, Value.int .u32 0] 30 (fun _ => by kernel_rfl) hW ?_); clear hA ac hW; intro b5 w6 hW hb5 hfw6 ac hA
 have hW := hW.share 0 rfl (H' := [MemR n2 n3 ([] : List (Int × Nat × (Nat → Int)))]) rfl
 have hW := hW.nestG (roR (some ⟨b5, 0, none⟩) 2 enCell6 ([(⟨4096, 7⟩ : Cell6), (⟨1, 5⟩ : Cell6), (⟨4096, 0⟩ : Cell6)] : List Cell6)) (rowAt_cel (show _ = _ from hW.getG 0 rfl) ([(⟨4096, 7⟩ : Cell6), (⟨1, 5⟩ : Cell6), (⟨4096, 0⟩ : Cell6)] : List Cell6) (by rfl) elt_Cell6.len) (fun _ hb_ => ⟨_, List.mem_of_getElem? (i := 0) rfl, cel_fp _ hb_⟩)
 refine st hA (by kernel_rfl) (by kernel_rfl) (by kernel_rfl) (Runs.call (fun _ => by kernel_rfl) (e_mstore n2 n3 ([] : List (Int × Nat × (Nat → Int))) (some ⟨b5, 0, none⟩) 3 ([(⟨4096, 7⟩ : Cell6), (⟨1, 5⟩ : Cell6), (⟨4096, 0⟩ : Cell6)] : List Cell6) w6 ((hW).get 0 rfl) ((hW).lt _ (List.mem_of_getElem? (i := 0) rfl)) ((hW).getG 0 rfl) (by first | assumption | omega | (simp; omega) | simp) ((hW).gd _ (List.mem_of_getElem? (i := 0) rfl) _ (List.mem_of_getElem? (i := 0) rfl)) (by first | assumption | omega | (simp; done) | first | assumption | (intro x hx; simp only [List.mem_cons, List.not_mem_nil, or_false] at hx; (repeat' (rcases hx with rfl | hx)) <;> first | (subst hx; simp; done) | (simp; done) | (subst hx; assumption))) (by first | assumption | omega | (simp; done) | first | assumption | (intro x hx; simp only [List.mem_cons, List.not_mem_nil, or_false] at hx; (repeat' (rcases hx with rfl | hx)) <;> first | (subst hx; simp; done) | (simp; done) | (subst hx; assumption)))) ?_)
 rintro _ w7 ⟨u8, rfl, hw7_hS, hu_⟩; refine ⟨_, rfl, ?_⟩; replace hW := hW.upd (H' := [MemR n2 n3 u8]) 0 rfl hu_ rfl; clear hA ac; intro ac hA
 have hq9 : Rel06 (0 + (([(⟨4096, 7⟩ : Cell6), (⟨1, 5⟩ : Cell6), (⟨4096, 0⟩ : Cell6)] : List Cell6)).length) (List.foldl (fun L c => insM L c.addr c.word) ([] : List Cell6) ([(⟨4096, 7⟩ : Cell6), (⟨1, 5⟩ : Cell6), (⟨4096, 0⟩ : Cell6)] : List Cell6)) u8 := hq4.storeR hw7_hS (by first | assumption | (intro x hx; simp only [List.mem_cons, List.not_mem_nil, or_false] at hx; (repeat' (rcases hx with rfl | hx)) <;> first | (subst hx; simp; done) | (simp; done) | (subst hx; assumption)))
 refine st_rd (v := Value.int .i64 0) hA (by kernel_rfl) (by kernel_rfl) (by kernel_rfl) hW.cls (Rd.pure fun _ => by kernel_rfl) ?_; clear hA ac; intro ac hA
 refine wpList_nil ?_
 refine thenN ?_
 refine wp_seq ?_
 skip
 have hq10 : Rel06 3 ([⟨1, 5⟩] : List Cell6) u8 := works_ins ▸ hq9
 obtain ⟨hw1, hw2, hw3, hw4⟩ := hq10.more (by omega); have hw5 := hq10.hrw
 refine wp_region_lit ?_
 refine st_rd (v := Value.pointer (some ⟨n2, 0, none⟩)) hA (by kernel_rfl) (by kernel_rfl) (by kernel_rfl) hW.cls (Rd.pure fun _ => by kernel_rfl) ?_; clear hA ac; intro ac hA
 refine st hA (by kernel_rfl) (by kernel_rfl) (by kernel_rfl) (Runs.call (fun _ => by kernel_rfl) (e_mpages n2 n3 u8 w7 ((hW).get 0 rfl) ((hW).lt _ (List.mem_of_getElem? (i := 0) rfl)) (by first | assumption | omega | (simp; done) | first | assumption | (intro x hx; simp only [List.mem_cons, List.not_mem_nil, or_false] at hx; (repeat' (rcases hx with rfl | hx)) <;> first | (subst hx; simp; done) | (simp; done) | (subst hx; assumption))) (by first | assumption | omega | (simp; done) | first | assumption | (intro x hx; simp only [List.mem_cons, List.not_mem_nil, or_false] at hx; (repeat' (rcases hx with rfl | hx)) <;> first | (subst hx; simp; done) | (simp; done) | (subst hx; assumption)))) ?_)
 rintro _ w11 ⟨g12, Ao13, co14, rfl, hw11_hp, hw11_hs, hcco14, hu_⟩; refine ⟨_, rfl, ?_⟩; replace hW := hW.made hu_; clear hA ac; intro ac hA
 have hpg_ := hq10.pages hw11_hp hw11_hs; have hpl_ := congrArg List.length hpg_
 refine st_rd (v := Value.slice Ao13 (g12).length co14) hA (by kernel_rfl) (by kernel_rfl) (by kernel_rfl) hW.cls (Rd.pure fun _ => by kernel_rfl) ?_; clear hA ac; intro ac hA
 refine wpList_nil ?_
 refine thenN ?_
 refine wp_seq ?_
 refine wp_region_lit ?_
 refine st_rd (v := Value.int .i64 0) hA (by kernel_rfl) (by kernel_rfl) (by kernel_rfl) hW.cls (Rd.pure fun _ => by kernel_rfl) ?_; clear hA ac; intro ac hA
 refine st hA (by kernel_rfl) (by kernel_rfl) (by kernel_rfl) (Runs.callS (v := Value.int .i64 (0)) (fun _ => by kernel_rfl) (e_num06 (0) w11) ?_); clear hA ac; intro  ac hA
 refine st_rd (v := Value.bool (((0) : Int) == (0 : Int))) hA (by kernel_rfl) (by kernel_rfl) (by kernel_rfl) hW.cls (Rd.pure fun _ => by kernel_rfl) ?_; clear hA ac; intro ac hA
 refine st_rd (v := Value.bool (((0) : Int) == (0 : Int))) hA (by kernel_rfl) (by kernel_rfl) (by kernel_rfl) hW.cls (Rd.pure fun _ => by kernel_rfl) ?_; clear hA ac; intro ac hA
 rcases Bool.eq_false_or_eq_true (((0) : Int) == (0 : Int)) with h16 | h16
 · skip
   rw [h16] at hA
   have h16 := eq_of_beq h16
   first
   | (exfalso; clear hA hW; omega)
   | (exfalso; clear hA hW; exact h16 ((hq10.wd 1).trans works_l1); done)
   | (exfalso; clear hA hW; exact h16 ((hq10.wd 4096).trans works_l2); done)
   | (exfalso; clear hA hW; rw [hll_p] at h16; exact h16 rfl; done)
   | (exfalso; clear hA hW; rw [works_pages] at hpl_; simp at hpl_; omega; done)
   | (exfalso; clear hA hW; exact h16 (congrArg sumM (by first | (rw [hle_d]; exact works_bytes))); done)
   | (
     refine st_rd (v := Value.pointer (some ⟨n2, 0, none⟩)) hA (by kernel_rfl) (by kernel_rfl) (by kernel_rfl) hW.cls (Rd.pure fun _ => by kernel_rfl) ?_; clear hA ac; intro ac hA
     refine st hA (by kernel_rfl) (by kernel_rfl) (by kernel_rfl) (Runs.callN (v := Value.int .u32 (((look (vals u8) (pgN (1))).map fun f => f (pgI (1)).toNat).getD 0)) (fun _ => by kernel_rfl) hW (e_mload n2 n3 u8 (1) w11 ((hW).get 1 rfl) ((hW).lt _ (List.mem_of_getElem? (i := 1) rfl)) (by first | assumption | omega | (simp; done) | first | assumption | (intro x hx; simp only [List.mem_cons, List.not_mem_nil, or_false] at hx; (repeat' (rcases hx with rfl | hx)) <;> first | (subst hx; simp; done) | (simp; done) | (subst hx; assumption)))) ?_); clear hA ac hW; intro w17 hW hfw17 ac hA
     refine st_rd (v := Value.bool (((((look (vals u8) (pgN (1))).map fun f => f (pgI (1)).toNat).getD 0) : Int) == (5 : Int))) hA (by kernel_rfl) (by kernel_rfl) (by kernel_rfl) hW.cls (Rd.pure fun _ => by kernel_rfl) ?_; clear hA ac; intro ac hA
     refine st_rd (v := Value.bool (((((look (vals u8) (pgN (1))).map fun f => f (pgI (1)).toNat).getD 0) : Int) == (5 : Int))) hA (by kernel_rfl) (by kernel_rfl) (by kernel_rfl) hW.cls (Rd.pure fun _ => by kernel_rfl) ?_; clear hA ac; intro ac hA
     refine st_rd (v := Value.bool (((((look (vals u8) (pgN (1))).map fun f => f (pgI (1)).toNat).getD 0) : Int) == (5 : Int))) hA (by kernel_rfl) (by kernel_rfl) (by kernel_rfl) hW.cls (Rd.pure fun _ => by kernel_rfl) ?_; clear hA ac; intro ac hA
     rcases Bool.eq_false_or_eq_true (((((look (vals u8) (pgN (1))).map fun f => f (pgI (1)).toNat).getD 0) : Int) == (5 : Int)) with h18 | h18
     · skip
       rw [h18] at hA
       have h18 := eq_of_beq h18
       first
       | (exfalso; clear hA hW; omega)
       | (exfalso; clear hA hW; exact h18 ((hq10.wd 1).trans works_l1); done)
       | (exfalso; clear hA hW; exact h18 ((hq10.wd 4096).trans works_l2); done)
       | (exfalso; clear hA hW; rw [hll_p] at h18; exact h18 rfl; done)
       | (exfalso; clear hA hW; rw [works_pages] at hpl_; simp at hpl_; omega; done)
       | (exfalso; clear hA hW; exact h18 (congrArg sumM (by first | (rw [hle_d]; exact works_bytes))); done)
       | (
         refine st_rd (v := Value.pointer (some ⟨n2, 0, none⟩)) hA (by kernel_rfl) (by kernel_rfl) (by kernel_rfl) hW.cls (Rd.pure fun _ => by kernel_rfl) ?_; clear hA ac; intro ac hA
         refine st hA (by kernel_rfl) (by kernel_rfl) (by kernel_rfl) (Runs.callN (v := Value.int .u32 (((look (vals u8) (pgN (4096))).map fun f => f (pgI (4096)).toNat).getD 0)) (fun _ => by kernel_rfl) hW (e_mload n2 n3 u8 (4096) w17 ((hW).get 1 rfl) ((hW).lt _ (List.mem_of_getElem? (i := 1) rfl)) (by first | assumption | omega | (simp; done) | first | assumption | (intro x hx; simp only [List.mem_cons, List.not_mem_nil, or_false] at hx; (repeat' (rcases hx with rfl | hx)) <;> first | (subst hx; simp; done) | (simp; done) | (subst hx; assumption)))) ?_); clear hA ac hW; intro w19 hW hfw19 ac hA
         refine st_rd (v := Value.bool (((((look (vals u8) (pgN (4096))).map fun f => f (pgI (4096)).toNat).getD 0) : Int) == (0 : Int))) hA (by kernel_rfl) (by kernel_rfl) (by kernel_rfl) hW.cls (Rd.pure fun _ => by kernel_rfl) ?_; clear hA ac; intro ac hA
         refine st_rd (v := Value.bool (((((look (vals u8) (pgN (4096))).map fun f => f (pgI (4096)).toNat).getD 0) : Int) == (0 : Int))) hA (by kernel_rfl) (by kernel_rfl) (by kernel_rfl) hW.cls (Rd.pure fun _ => by kernel_rfl) ?_; clear hA ac; intro ac hA
         refine st_rd (v := Value.bool (((((look (vals u8) (pgN (4096))).map fun f => f (pgI (4096)).toNat).getD 0) : Int) == (0 : Int))) hA (by kernel_rfl) (by kernel_rfl) (by kernel_rfl) hW.cls (Rd.pure fun _ => by kernel_rfl) ?_; clear hA ac; intro ac hA
         rcases Bool.eq_false_or_eq_true (((((look (vals u8) (pgN (4096))).map fun f => f (pgI (4096)).toNat).getD 0) : Int) == (0 : Int)) with h20 | h20
         · skip
           rw [h20] at hA
           have h20 := eq_of_beq h20
           first
           | (exfalso; clear hA hW; omega)
           | (exfalso; clear hA hW; exact h20 ((hq10.wd 1).trans works_l1); done)
           | (exfalso; clear hA hW; exact h20 ((hq10.wd 4096).trans works_l2); done)
           | (exfalso; clear hA hW; rw [hll_p] at h20; exact h20 rfl; done)
           | (exfalso; clear hA hW; rw [works_pages] at hpl_; simp at hpl_; omega; done)
           | (exfalso; clear hA hW; exact h20 (congrArg sumM (by first | (rw [hle_d]; exact works_bytes))); done)
           | (
             refine st_rd (v := Value.pointer (some ⟨n2, 0, none⟩)) hA (by kernel_rfl) (by kernel_rfl) (by kernel_rfl) hW.cls (Rd.pure fun _ => by kernel_rfl) ?_; clear hA ac; intro ac hA
             refine st hA (by kernel_rfl) (by kernel_rfl) (by kernel_rfl) (Runs.call (fun _ => by kernel_rfl) (e_mlen n2 n3 u8 w19 ((hW).get 1 rfl) ((hW).lt _ (List.mem_of_getElem? (i := 1) rfl)) (by first | assumption | omega | (simp; done) | first | assumption | (intro x hx; simp only [List.mem_cons, List.not_mem_nil, or_false] at hx; (repeat' (rcases hx with rfl | hx)) <;> first | (subst hx; simp; done) | (simp; done) | (subst hx; assumption))) (by first | assumption | omega | (simp; done) | first | assumption | (intro x hx; simp only [List.mem_cons, List.not_mem_nil, or_false] at hx; (repeat' (rcases hx with rfl | hx)) <;> first | (subst hx; simp; done) | (simp; done) | (subst hx; assumption)))) ?_)
             rintro _ w21 ⟨g22, g23, rfl, hw21_hp, hw21_hs, hw21_hO, hfw21⟩; refine ⟨_, rfl, ?_⟩; have hW0 := hW; have hW := hW0.call hfw21
             clear hW0 hA ac; intro ac hA
             have hleg23 : g23 = fromM ([⟨1, 5⟩] : List Cell6) 0 := by rw [hw21_hO, hq10.cells hw21_hp hw21_hs]
             rw [from_all hq10.rise (fun x hx => (hq10.rng x hx).1.1)] at hleg23; have hllg23 := congrArg List.length hleg23
             have hle_p := hleg23; have hll_p := hllg23; simp only [List.length_cons, List.length_nil] at hll_p
             refine st_rd (v := Value.bool ((((g23.length : Nat) : Int) : Int) == (1 : Int))) hA (by kernel_rfl) (by kernel_rfl) (by kernel_rfl) hW.cls (Rd.pure fun _ => by kernel_rfl) ?_; clear hA ac; intro ac hA
             refine st_rd (v := Value.bool ((((g23.length : Nat) : Int) : Int) == (1 : Int))) hA (by kernel_rfl) (by kernel_rfl) (by kernel_rfl) hW.cls (Rd.pure fun _ => by kernel_rfl) ?_; clear hA ac; intro ac hA
             refine st_rd (v := Value.bool ((((g23.length : Nat) : Int) : Int) == (1 : Int))) hA (by kernel_rfl) (by kernel_rfl) (by kernel_rfl) hW.cls (Rd.pure fun _ => by kernel_rfl) ?_; clear hA ac; intro ac hA
             rcases Bool.eq_false_or_eq_true ((((g23.length : Nat) : Int) : Int) == (1 : Int)) with h24 | h24
             · skip
               rw [h24] at hA
               have h24 := eq_of_beq h24
               first
               | (exfalso; clear hA hW; omega)
               | (exfalso; clear hA hW; exact h24 ((hq10.wd 1).trans works_l1); done)
               | (exfalso; clear hA hW; exact h24 ((hq10.wd 4096).trans works_l2); done)
               | (exfalso; clear hA hW; rw [hll_p] at h24; exact h24 rfl; done)
               | (exfalso; clear hA hW; rw [works_pages] at hpl_; simp at hpl_; omega; done)
               | (exfalso; clear hA hW; exact h24 (congrArg sumM (by first | (rw [hle_d]; exact works_bytes))); done)
               | (
                 refine st_rd (v := Value.slice Ao13 (g12).length co14) hA (by kernel_rfl) (by kernel_rfl) (by kernel_rfl) hW.cls (Rd.pure fun _ => by kernel_rfl) ?_; clear hA ac; intro ac hA
                 refine st_rd (v := Value.int .i64 (((g12).length : Nat) : Int)) hA (by kernel_rfl) (by kernel_rfl) (by kernel_rfl) hW.cls (Rd.pure fun _ => by kernel_rfl) ?_; clear hA ac; intro ac hA
                 refine st_rd (v := Value.bool (((((g12).length : Nat) : Int) : Int) == (1 : Int))) hA (by kernel_rfl) (by kernel_rfl) (by kernel_rfl) hW.cls (Rd.pure fun _ => by kernel_rfl) ?_; clear hA ac; intro ac hA
                 refine st_rd (v := Value.bool (((((g12).length : Nat) : Int) : Int) == (1 : Int))) hA (by kernel_rfl) (by kernel_rfl) (by kernel_rfl) hW.cls (Rd.pure fun _ => by kernel_rfl) ?_; clear hA ac; intro ac hA
                 refine st_rd (v := Value.bool (((((g12).length : Nat) : Int) : Int) == (1 : Int))) hA (by kernel_rfl) (by kernel_rfl) (by kernel_rfl) hW.cls (Rd.pure fun _ => by kernel_rfl) ?_; clear hA ac; intro ac hA
                 rcases Bool.eq_false_or_eq_true (((((g12).length : Nat) : Int) : Int) == (1 : Int)) with h25 | h25
                 · skip
                   rw [h25] at hA
                   have h25 := eq_of_beq h25
                   first
                   | (exfalso; clear hA hW; omega)
                   | (exfalso; clear hA hW; exact h25 ((hq10.wd 1).trans works_l1); done)
                   | (exfalso; clear hA hW; exact h25 ((hq10.wd 4096).trans works_l2); done)
                   | (exfalso; clear hA hW; rw [hll_p] at h25; exact h25 rfl; done)
                   | (exfalso; clear hA hW; rw [works_pages] at hpl_; simp at hpl_; omega; done)
                   | (exfalso; clear hA hW; exact h25 (congrArg sumM (by first | (rw [hle_d]; exact works_bytes))); done)
                   | (
                     refine st_rd (v := Value.slice Ao13 (g12).length co14) hA (by kernel_rfl) (by kernel_rfl) (by kernel_rfl) hW.cls (Rd.pure fun _ => by kernel_rfl) ?_; clear hA ac; intro ac hA
                     obtain ⟨y26, hy26⟩ : ∃ y, g12[0]? = some y := ⟨_, List.getElem?_eq_getElem (by first | omega | (simp; done) | (simp; omega) | (rw [hpl_, works_pages]; simp))⟩
                     obtain ⟨b27, o28, rfl, hbb27⟩ := row_some (rowR_at ((hW).get 0 rfl) elt_U4.len) hy26
                     refine st_rd (v := Value.pointer (some ⟨b27, o28 + 0 * 1, none⟩)) hA (by kernel_rfl) (by kernel_rfl) (by kernel_rfl) hW.cls (Rd.indexAddr (e := 28) (sz := 1) (b := b27) (off := o28) (n := (g12).length) (c := co14) (k := 0) (by kernel_rfl) (by kernel_rfl) (by first | omega | (simp; done) | (simp; omega) | (rw [hpl_, works_pages]; simp)) (fun _ => by kernel_rfl) (fun _ => by kernel_rfl)) ?_; clear hA ac; intro ac hA
                     refine st_rd (v := Value.int .u32 y26) hA (by kernel_rfl) (by kernel_rfl) (by kernel_rfl) hW.cls (Rd.loadRow (b := b27) (i := o28 + 0 * 1) (xs := [Value.int .u32 y26]) (by kernel_rfl) (fun _ hw => row_ld (rowR_at ((hw.1).get 0 rfl) elt_U4.len) hy26 (Fr.refl No _) (fun h => h) 0 1 (by kernel_rfl)) (by kernel_rfl)) ?_; clear hA ac; intro ac hA
                     refine st_rd (v := Value.bool ((y26 : Int) == (0 : Int))) hA (by kernel_rfl) (by kernel_rfl) (by kernel_rfl) hW.cls (Rd.pure fun _ => by kernel_rfl) ?_; clear hA ac; intro ac hA
                     refine st_rd (v := Value.bool ((y26 : Int) == (0 : Int))) hA (by kernel_rfl) (by kernel_rfl) (by kernel_rfl) hW.cls (Rd.pure fun _ => by kernel_rfl) ?_; clear hA ac; intro ac hA
                     refine st_rd (v := Value.bool ((y26 : Int) == (0 : Int))) hA (by kernel_rfl) (by kernel_rfl) (by kernel_rfl) hW.cls (Rd.pure fun _ => by kernel_rfl) ?_; clear hA ac; intro ac hA
                     rcases Bool.eq_false_or_eq_true ((y26 : Int) == (0 : Int)) with h29 | h29
                     · skip
                       rw [h29] at hA
                       have h29 := eq_of_beq h29
                       first
                       | (exfalso; clear hA hW; omega)
                       | (exfalso; clear hA hW; exact h29 ((hq10.wd 1).trans works_l1); done)
                       | (exfalso; clear hA hW; exact h29 ((hq10.wd 4096).trans works_l2); done)
                       | (exfalso; clear hA hW; rw [hll_p] at h29; exact h29 rfl; done)
                       | (exfalso; clear hA hW; rw [works_pages] at hpl_; simp at hpl_; omega; done)
                       | (exfalso; clear hA hW; rw [hpg_, works_pages] at hy26; exact h29 (Option.some.inj hy26).symm; done)
                       | (exfalso; clear hA hW; exact h29 (congrArg sumM (by first | (rw [hle_d]; exact works_bytes))); done)
                       | (
                         refine st_rd (v := Value.pointer (some ⟨n2, 0, none⟩)) hA (by kernel_rfl) (by kernel_rfl) (by kernel_rfl) hW.cls (Rd.pure fun _ => by kernel_rfl) ?_; clear hA ac; intro ac hA
                         refine st hA (by kernel_rfl) (by kernel_rfl) (by kernel_rfl) (Runs.call (fun _ => by kernel_rfl) (e_mdig n2 n3 u8 w21 ((hW).get 1 rfl) ((hW).lt _ (List.mem_of_getElem? (i := 1) rfl)) (by first | assumption | omega | (simp; done) | first | assumption | (intro x hx; simp only [List.mem_cons, List.not_mem_nil, or_false] at hx; (repeat' (rcases hx with rfl | hx)) <;> first | (subst hx; simp; done) | (simp; done) | (subst hx; assumption))) (by first | assumption | omega | (simp; done) | first | assumption | (intro x hx; simp only [List.mem_cons, List.not_mem_nil, or_false] at hx; (repeat' (rcases hx with rfl | hx)) <;> first | (subst hx; simp; done) | (simp; done) | (subst hx; assumption))) (by first | assumption | omega | (simp; done) | first | assumption | (intro x hx; simp only [List.mem_cons, List.not_mem_nil, or_false] at hx; (repeat' (rcases hx with rfl | hx)) <;> first | (subst hx; simp; done) | (simp; done) | (subst hx; assumption)))) ?_)
                         rintro _ w30 ⟨g31, g32, rfl, hw30_hp, hw30_hs, hw30_hO, hfw30⟩; refine ⟨_, rfl, ?_⟩; have hW0 := hW; have hW := hW0.call hfw30
                         clear hW0 hA ac; intro ac hA
                         have hleg32 : g32 = fromM ([⟨1, 5⟩] : List Cell6) 0 := by rw [hw30_hO, hq10.cells hw30_hp hw30_hs]
                         rw [from_all hq10.rise (fun x hx => (hq10.rng x hx).1.1)] at hleg32; have hllg32 := congrArg List.length hleg32
                         have hle_d := hleg32
                         refine st hA (by kernel_rfl) (by kernel_rfl) (by kernel_rfl) (Runs.cells (fun b => Value.slice (some ⟨b, 0, none⟩) 8 8) #[Value.int .u8 1, Value.int .u8 0, Value.int .u8 0, Value.int .u8 0, Value.int .u8 5, Value.int .u8 0, Value.int .u8 0, Value.int .u8 0] 5 (fun _ => by kernel_rfl) hW ?_); clear hA ac hW; intro b33 w34 hW hb33 hfw34 ac hA
                         refine st hA (by kernel_rfl) (by kernel_rfl) (by kernel_rfl) (Runs.callN (v := Value.int .u64 (sumM ([1, 0, 0, 0, 5, 0, 0, 0] : List Int))) (fun _ => by kernel_rfl) hW (e_of02 (some ⟨b33, 0, none⟩) 8 ([1, 0, 0, 0, 5, 0, 0, 0] : List Int) w34 (rowAt_cel ((hW).cel 0 rfl) ([1, 0, 0, 0, 5, 0, 0, 0] : List Int) (by rfl) elt_B6.len) (by first | assumption | omega | (simp; omega) | simp) (by first | assumption | omega | (simp; done) | first | assumption | (intro x hx; simp only [List.mem_cons, List.not_mem_nil, or_false] at hx; (repeat' (rcases hx with rfl | hx)) <;> first | (subst hx; simp; done) | (simp; done) | (subst hx; assumption))) (by first | assumption | omega | (simp; done) | first | assumption | (intro x hx; simp only [List.mem_cons, List.not_mem_nil, or_false] at hx; (repeat' (rcases hx with rfl | hx)) <;> first | (subst hx; simp; done) | (simp; done) | (subst hx; assumption)))) ?_); clear hA ac hW; intro w35 hW hfw35 ac hA
                         refine st_rd (v := Value.bool ((sumM (bytes6 g32) : Int) == (sumM ([1, 0, 0, 0, 5, 0, 0, 0] : List Int) : Int))) hA (by kernel_rfl) (by kernel_rfl) (by kernel_rfl) hW.cls (Rd.pure fun _ => by kernel_rfl) ?_; clear hA ac; intro ac hA
                         refine st_rd (v := Value.bool ((sumM (bytes6 g32) : Int) == (sumM ([1, 0, 0, 0, 5, 0, 0, 0] : List Int) : Int))) hA (by kernel_rfl) (by kernel_rfl) (by kernel_rfl) hW.cls (Rd.pure fun _ => by kernel_rfl) ?_; clear hA ac; intro ac hA
                         refine st_rd (v := Value.bool ((sumM (bytes6 g32) : Int) == (sumM ([1, 0, 0, 0, 5, 0, 0, 0] : List Int) : Int))) hA (by kernel_rfl) (by kernel_rfl) (by kernel_rfl) hW.cls (Rd.pure fun _ => by kernel_rfl) ?_; clear hA ac; intro ac hA
                         refine wpList_nil ?_
                         refine thenN ?_
                         refine wp_ret ?_
                         refine ret1 (v := Value.bool ((sumM (bytes6 g32) : Int) == (sumM ([1, 0, 0, 0, 5, 0, 0, 0] : List Int) : Int))) (by rfl) hA (Got.tmp hA (by kernel_rfl) (by kernel_rfl)) ?_
                         clear hA
                         exact ⟨retv (by (refine congrArg Value.bool (beq_iff_eq.2 ?_); rw [hle_d, works_bytes])), hW.fr⟩)
                     · skip
                       rw [h29] at hA
                       have h29 := ne_of_beq_false h29
                       first
                       | (exfalso; clear hA hW; omega)
                       | (exfalso; clear hA hW; exact h29 ((hq10.wd 1).trans works_l1); done)
                       | (exfalso; clear hA hW; exact h29 ((hq10.wd 4096).trans works_l2); done)
                       | (exfalso; clear hA hW; rw [hll_p] at h29; exact h29 rfl; done)
                       | (exfalso; clear hA hW; rw [works_pages] at hpl_; simp at hpl_; omega; done)
                       | (exfalso; clear hA hW; rw [hpg_, works_pages] at hy26; exact h29 (Option.some.inj hy26).symm; done)
                       | (exfalso; clear hA hW; exact h29 (congrArg sumM (by first | (rw [hle_d]; exact works_bytes))); done)
                       | (
                         refine st_skip hA (by kernel_rfl) (by kernel_rfl) ?_; clear hA ac; intro ac hA
                         refine st_skip hA (by kernel_rfl) (by kernel_rfl) ?_; clear hA ac; intro ac hA
                         refine st_skip hA (by kernel_rfl) (by kernel_rfl) ?_; clear hA ac; intro ac hA
                         refine st_skip hA (by kernel_rfl) (by kernel_rfl) ?_; clear hA ac; intro ac hA
                         refine st_skip hA (by kernel_rfl) (by kernel_rfl) ?_; clear hA ac; intro ac hA
                         refine st_rd (v := Value.bool false) hA (by kernel_rfl) (by kernel_rfl) (by kernel_rfl) hW.cls (Rd.pure fun _ => by kernel_rfl) ?_; clear hA ac; intro ac hA
                         refine st_rd (v := Value.bool false) hA (by kernel_rfl) (by kernel_rfl) (by kernel_rfl) hW.cls (Rd.pure fun _ => by kernel_rfl) ?_; clear hA ac; intro ac hA
                         refine wpList_nil ?_
                         refine thenN ?_
                         refine wp_ret ?_
                         refine ret1 (v := Value.bool false) (by rfl) hA (Got.tmp hA (by kernel_rfl) (by kernel_rfl)) ?_
                         clear hA
                         exact ⟨retv (by (refine congrArg Value.bool (beq_iff_eq.2 ?_); rw [hle_d, works_bytes])), hW.fr⟩))
                 · skip
                   rw [h25] at hA
                   have h25 := ne_of_beq_false h25
                   first
                   | (exfalso; clear hA hW; omega)
                   | (exfalso; clear hA hW; exact h25 ((hq10.wd 1).trans works_l1); done)
                   | (exfalso; clear hA hW; exact h25 ((hq10.wd 4096).trans works_l2); done)
                   | (exfalso; clear hA hW; rw [hll_p] at h25; exact h25 rfl; done)
                   | (exfalso; clear hA hW; rw [works_pages] at hpl_; simp at hpl_; omega; done)
                   | (exfalso; clear hA hW; exact h25 (congrArg sumM (by first | (rw [hle_d]; exact works_bytes))); done)
                   | (
                     refine st_skip hA (by kernel_rfl) (by kernel_rfl) ?_; clear hA ac; intro ac hA
                     refine st_skip hA (by kernel_rfl) (by kernel_rfl) ?_; clear hA ac; intro ac hA
                     refine st_skip hA (by kernel_rfl) (by kernel_rfl) ?_; clear hA ac; intro ac hA
                     refine st_skip hA (by kernel_rfl) (by kernel_rfl) ?_; clear hA ac; intro ac hA
                     refine st_rd (v := Value.bool false) hA (by kernel_rfl) (by kernel_rfl) (by kernel_rfl) hW.cls (Rd.pure fun _ => by kernel_rfl) ?_; clear hA ac; intro ac hA
                     refine st_rd (v := Value.bool false) hA (by kernel_rfl) (by kernel_rfl) (by kernel_rfl) hW.cls (Rd.pure fun _ => by kernel_rfl) ?_; clear hA ac; intro ac hA
                     refine st_skip hA (by kernel_rfl) (by kernel_rfl) ?_; clear hA ac; intro ac hA
                     refine st_skip hA (by kernel_rfl) (by kernel_rfl) ?_; clear hA ac; intro ac hA
                     refine st_skip hA (by kernel_rfl) (by kernel_rfl) ?_; clear hA ac; intro ac hA
                     refine st_skip hA (by kernel_rfl) (by kernel_rfl) ?_; clear hA ac; intro ac hA
                     refine st_skip hA (by kernel_rfl) (by kernel_rfl) ?_; clear hA ac; intro ac hA
                     refine st_rd (v := Value.bool false) hA (by kernel_rfl) (by kernel_rfl) (by kernel_rfl) hW.cls (Rd.pure fun _ => by kernel_rfl) ?_; clear hA ac; intro ac hA
                     refine st_rd (v := Value.bool false) hA (by kernel_rfl) (by kernel_rfl) (by kernel_rfl) hW.cls (Rd.pure fun _ => by kernel_rfl) ?_; clear hA ac; intro ac hA
                     refine wpList_nil ?_
                     refine thenN ?_
                     refine wp_ret ?_
                     refine ret1 (v := Value.bool false) (by rfl) hA (Got.tmp hA (by kernel_rfl) (by kernel_rfl)) ?_
                     clear hA
                     exact ⟨retv (by (refine congrArg Value.bool (beq_iff_eq.2 ?_); rw [hle_d, works_bytes])), hW.fr⟩))
             · skip
               rw [h24] at hA
               have h24 := ne_of_beq_false h24
               first
               | (exfalso; clear hA hW; omega)
               | (exfalso; clear hA hW; exact h24 ((hq10.wd 1).trans works_l1); done)
               | (exfalso; clear hA hW; exact h24 ((hq10.wd 4096).trans works_l2); done)
               | (exfalso; clear hA hW; rw [hll_p] at h24; exact h24 rfl; done)
               | (exfalso; clear hA hW; rw [works_pages] at hpl_; simp at hpl_; omega; done)
               | (exfalso; clear hA hW; exact h24 (congrArg sumM (by first | (rw [hle_d]; exact works_bytes))); done)
               | (
                 refine st_skip hA (by kernel_rfl) (by kernel_rfl) ?_; clear hA ac; intro ac hA
                 refine st_skip hA (by kernel_rfl) (by kernel_rfl) ?_; clear hA ac; intro ac hA
                 refine st_skip hA (by kernel_rfl) (by kernel_rfl) ?_; clear hA ac; intro ac hA
                 refine st_rd (v := Value.bool false) hA (by kernel_rfl) (by kernel_rfl) (by kernel_rfl) hW.cls (Rd.pure fun _ => by kernel_rfl) ?_; clear hA ac; intro ac hA
                 refine st_rd (v := Value.bool false) hA (by kernel_rfl) (by kernel_rfl) (by kernel_rfl) hW.cls (Rd.pure fun _ => by kernel_rfl) ?_; clear hA ac; intro ac hA
                 refine st_skip hA (by kernel_rfl) (by kernel_rfl) ?_; clear hA ac; intro ac hA
                 refine st_skip hA (by kernel_rfl) (by kernel_rfl) ?_; clear hA ac; intro ac hA
                 refine st_skip hA (by kernel_rfl) (by kernel_rfl) ?_; clear hA ac; intro ac hA
                 refine st_skip hA (by kernel_rfl) (by kernel_rfl) ?_; clear hA ac; intro ac hA
                 refine st_rd (v := Value.bool false) hA (by kernel_rfl) (by kernel_rfl) (by kernel_rfl) hW.cls (Rd.pure fun _ => by kernel_rfl) ?_; clear hA ac; intro ac hA
                 refine st_rd (v := Value.bool false) hA (by kernel_rfl) (by kernel_rfl) (by kernel_rfl) hW.cls (Rd.pure fun _ => by kernel_rfl) ?_; clear hA ac; intro ac hA
                 refine st_skip hA (by kernel_rfl) (by kernel_rfl) ?_; clear hA ac; intro ac hA
                 refine st_skip hA (by kernel_rfl) (by kernel_rfl) ?_; clear hA ac; intro ac hA
                 refine st_skip hA (by kernel_rfl) (by kernel_rfl) ?_; clear hA ac; intro ac hA
                 refine st_skip hA (by kernel_rfl) (by kernel_rfl) ?_; clear hA ac; intro ac hA
                 refine st_skip hA (by kernel_rfl) (by kernel_rfl) ?_; clear hA ac; intro ac hA
                 refine st_rd (v := Value.bool false) hA (by kernel_rfl) (by kernel_rfl) (by kernel_rfl) hW.cls (Rd.pure fun _ => by kernel_rfl) ?_; clear hA ac; intro ac hA
                 refine st_rd (v := Value.bool false) hA (by kernel_rfl) (by kernel_rfl) (by kernel_rfl) hW.cls (Rd.pure fun _ => by kernel_rfl) ?_; clear hA ac; intro ac hA
                 refine wpList_nil ?_
                 refine thenN ?_
                 refine wp_ret ?_
                 refine ret1 (v := Value.bool false) (by rfl) hA (Got.tmp hA (by kernel_rfl) (by kernel_rfl)) ?_
                 clear hA
                 exact ⟨retv (by (refine congrArg Value.bool (beq_iff_eq.2 ?_); rw [hle_d, works_bytes])), hW.fr⟩))
         · skip
           rw [h20] at hA
           have h20 := ne_of_beq_false h20
           first
           | (exfalso; clear hA hW; omega)
           | (exfalso; clear hA hW; exact h20 ((hq10.wd 1).trans works_l1); done)
           | (exfalso; clear hA hW; exact h20 ((hq10.wd 4096).trans works_l2); done)
           | (exfalso; clear hA hW; rw [hll_p] at h20; exact h20 rfl; done)
           | (exfalso; clear hA hW; rw [works_pages] at hpl_; simp at hpl_; omega; done)
           | (exfalso; clear hA hW; exact h20 (congrArg sumM (by first | (rw [hle_d]; exact works_bytes))); done)
           | (
             refine st_skip hA (by kernel_rfl) (by kernel_rfl) ?_; clear hA ac; intro ac hA
             refine st_skip hA (by kernel_rfl) (by kernel_rfl) ?_; clear hA ac; intro ac hA
             refine st_skip hA (by kernel_rfl) (by kernel_rfl) ?_; clear hA ac; intro ac hA
             refine st_rd (v := Value.bool false) hA (by kernel_rfl) (by kernel_rfl) (by kernel_rfl) hW.cls (Rd.pure fun _ => by kernel_rfl) ?_; clear hA ac; intro ac hA
             refine st_rd (v := Value.bool false) hA (by kernel_rfl) (by kernel_rfl) (by kernel_rfl) hW.cls (Rd.pure fun _ => by kernel_rfl) ?_; clear hA ac; intro ac hA
             refine st_skip hA (by kernel_rfl) (by kernel_rfl) ?_; clear hA ac; intro ac hA
             refine st_skip hA (by kernel_rfl) (by kernel_rfl) ?_; clear hA ac; intro ac hA
             refine st_skip hA (by kernel_rfl) (by kernel_rfl) ?_; clear hA ac; intro ac hA
             refine st_rd (v := Value.bool false) hA (by kernel_rfl) (by kernel_rfl) (by kernel_rfl) hW.cls (Rd.pure fun _ => by kernel_rfl) ?_; clear hA ac; intro ac hA
             refine st_rd (v := Value.bool false) hA (by kernel_rfl) (by kernel_rfl) (by kernel_rfl) hW.cls (Rd.pure fun _ => by kernel_rfl) ?_; clear hA ac; intro ac hA
             refine st_skip hA (by kernel_rfl) (by kernel_rfl) ?_; clear hA ac; intro ac hA
             refine st_skip hA (by kernel_rfl) (by kernel_rfl) ?_; clear hA ac; intro ac hA
             refine st_skip hA (by kernel_rfl) (by kernel_rfl) ?_; clear hA ac; intro ac hA
             refine st_skip hA (by kernel_rfl) (by kernel_rfl) ?_; clear hA ac; intro ac hA
             refine st_rd (v := Value.bool false) hA (by kernel_rfl) (by kernel_rfl) (by kernel_rfl) hW.cls (Rd.pure fun _ => by kernel_rfl) ?_; clear hA ac; intro ac hA
             refine st_rd (v := Value.bool false) hA (by kernel_rfl) (by kernel_rfl) (by kernel_rfl) hW.cls (Rd.pure fun _ => by kernel_rfl) ?_; clear hA ac; intro ac hA
             refine st_skip hA (by kernel_rfl) (by kernel_rfl) ?_; clear hA ac; intro ac hA
             refine st_skip hA (by kernel_rfl) (by kernel_rfl) ?_; clear hA ac; intro ac hA
             refine st_skip hA (by kernel_rfl) (by kernel_rfl) ?_; clear hA ac; intro ac hA
             refine st_skip hA (by kernel_rfl) (by kernel_rfl) ?_; clear hA ac; intro ac hA
             refine st_skip hA (by kernel_rfl) (by kernel_rfl) ?_; clear hA ac; intro ac hA
             refine st_rd (v := Value.bool false) hA (by kernel_rfl) (by kernel_rfl) (by kernel_rfl) hW.cls (Rd.pure fun _ => by kernel_rfl) ?_; clear hA ac; intro ac hA
             refine st_rd (v := Value.bool false) hA (by kernel_rfl) (by kernel_rfl) (by kernel_rfl) hW.cls (Rd.pure fun _ => by kernel_rfl) ?_; clear hA ac; intro ac hA
             refine wpList_nil ?_
             refine thenN ?_
             refine wp_ret ?_
             refine ret1 (v := Value.bool false) (by rfl) hA (Got.tmp hA (by kernel_rfl) (by kernel_rfl)) ?_
             clear hA
             exact ⟨retv (by (refine congrArg Value.bool (beq_iff_eq.2 ?_); rw [hle_d, works_bytes])), hW.fr⟩))
     · skip
       rw [h18] at hA
       have h18 := ne_of_beq_false h18
       first
       | (exfalso; clear hA hW; omega)
       | (exfalso; clear hA hW; exact h18 ((hq10.wd 1).trans works_l1); done)
       | (exfalso; clear hA hW; exact h18 ((hq10.wd 4096).trans works_l2); done)
       | (exfalso; clear hA hW; rw [hll_p] at h18; exact h18 rfl; done)
       | (exfalso; clear hA hW; rw [works_pages] at hpl_; simp at hpl_; omega; done)
       | (exfalso; clear hA hW; exact h18 (congrArg sumM (by first | (rw [hle_d]; exact works_bytes))); done)
       | (
         refine st_skip hA (by kernel_rfl) (by kernel_rfl) ?_; clear hA ac; intro ac hA
         refine st_skip hA (by kernel_rfl) (by kernel_rfl) ?_; clear hA ac; intro ac hA
         refine st_skip hA (by kernel_rfl) (by kernel_rfl) ?_; clear hA ac; intro ac hA
         refine st_rd (v := Value.bool false) hA (by kernel_rfl) (by kernel_rfl) (by kernel_rfl) hW.cls (Rd.pure fun _ => by kernel_rfl) ?_; clear hA ac; intro ac hA
         refine st_rd (v := Value.bool false) hA (by kernel_rfl) (by kernel_rfl) (by kernel_rfl) hW.cls (Rd.pure fun _ => by kernel_rfl) ?_; clear hA ac; intro ac hA
         refine st_skip hA (by kernel_rfl) (by kernel_rfl) ?_; clear hA ac; intro ac hA
         refine st_skip hA (by kernel_rfl) (by kernel_rfl) ?_; clear hA ac; intro ac hA
         refine st_skip hA (by kernel_rfl) (by kernel_rfl) ?_; clear hA ac; intro ac hA
         refine st_rd (v := Value.bool false) hA (by kernel_rfl) (by kernel_rfl) (by kernel_rfl) hW.cls (Rd.pure fun _ => by kernel_rfl) ?_; clear hA ac; intro ac hA
         refine st_rd (v := Value.bool false) hA (by kernel_rfl) (by kernel_rfl) (by kernel_rfl) hW.cls (Rd.pure fun _ => by kernel_rfl) ?_; clear hA ac; intro ac hA
         refine st_skip hA (by kernel_rfl) (by kernel_rfl) ?_; clear hA ac; intro ac hA
         refine st_skip hA (by kernel_rfl) (by kernel_rfl) ?_; clear hA ac; intro ac hA
         refine st_skip hA (by kernel_rfl) (by kernel_rfl) ?_; clear hA ac; intro ac hA
         refine st_rd (v := Value.bool false) hA (by kernel_rfl) (by kernel_rfl) (by kernel_rfl) hW.cls (Rd.pure fun _ => by kernel_rfl) ?_; clear hA ac; intro ac hA
         refine st_rd (v := Value.bool false) hA (by kernel_rfl) (by kernel_rfl) (by kernel_rfl) hW.cls (Rd.pure fun _ => by kernel_rfl) ?_; clear hA ac; intro ac hA
         refine st_skip hA (by kernel_rfl) (by kernel_rfl) ?_; clear hA ac; intro ac hA
         refine st_skip hA (by kernel_rfl) (by kernel_rfl) ?_; clear hA ac; intro ac hA
         refine st_skip hA (by kernel_rfl) (by kernel_rfl) ?_; clear hA ac; intro ac hA
         refine st_skip hA (by kernel_rfl) (by kernel_rfl) ?_; clear hA ac; intro ac hA
         refine st_rd (v := Value.bool false) hA (by kernel_rfl) (by kernel_rfl) (by kernel_rfl) hW.cls (Rd.pure fun _ => by kernel_rfl) ?_; clear hA ac; intro ac hA
         refine st_rd (v := Value.bool false) hA (by kernel_rfl) (by kernel_rfl) (by kernel_rfl) hW.cls (Rd.pure fun _ => by kernel_rfl) ?_; clear hA ac; intro ac hA
         refine st_skip hA (by kernel_rfl) (by kernel_rfl) ?_; clear hA ac; intro ac hA
         refine st_skip hA (by kernel_rfl) (by kernel_rfl) ?_; clear hA ac; intro ac hA
         refine st_skip hA (by kernel_rfl) (by kernel_rfl) ?_; clear hA ac; intro ac hA
         refine st_skip hA (by kernel_rfl) (by kernel_rfl) ?_; clear hA ac; intro ac hA
         refine st_skip hA (by kernel_rfl) (by kernel_rfl) ?_; clear hA ac; intro ac hA
         refine st_rd (v := Value.bool false) hA (by kernel_rfl) (by kernel_rfl) (by kernel_rfl) hW.cls (Rd.pure fun _ => by kernel_rfl) ?_; clear hA ac; intro ac hA
         refine st_rd (v := Value.bool false) hA (by kernel_rfl) (by kernel_rfl) (by kernel_rfl) hW.cls (Rd.pure fun _ => by kernel_rfl) ?_; clear hA ac; intro ac hA
         refine wpList_nil ?_
         refine thenN ?_
         refine wp_ret ?_
         refine ret1 (v := Value.bool false) (by rfl) hA (Got.tmp hA (by kernel_rfl) (by kernel_rfl)) ?_
         clear hA
         exact ⟨retv (by (refine congrArg Value.bool (beq_iff_eq.2 ?_); rw [hle_d, works_bytes])), hW.fr⟩))
 · skip
   rw [h16] at hA
   have h16 := ne_of_beq_false h16
   first
   | (exfalso; clear hA hW; omega)
   | (exfalso; clear hA hW; exact h16 ((hq10.wd 1).trans works_l1); done)
   | (exfalso; clear hA hW; exact h16 ((hq10.wd 4096).trans works_l2); done)
   | (exfalso; clear hA hW; rw [hll_p] at h16; exact h16 rfl; done)
   | (exfalso; clear hA hW; rw [works_pages] at hpl_; simp at hpl_; omega; done)
   | (exfalso; clear hA hW; exact h16 (congrArg sumM (by first | (rw [hle_d]; exact works_bytes))); done)
   | (
     refine st_skip hA (by kernel_rfl) (by kernel_rfl) ?_; clear hA ac; intro ac hA
     refine st_skip hA (by kernel_rfl) (by kernel_rfl) ?_; clear hA ac; intro ac hA
     refine st_skip hA (by kernel_rfl) (by kernel_rfl) ?_; clear hA ac; intro ac hA
     refine st_rd (v := Value.bool false) hA (by kernel_rfl) (by kernel_rfl) (by kernel_rfl) hW.cls (Rd.pure fun _ => by kernel_rfl) ?_; clear hA ac; intro ac hA
     refine st_rd (v := Value.bool false) hA (by kernel_rfl) (by kernel_rfl) (by kernel_rfl) hW.cls (Rd.pure fun _ => by kernel_rfl) ?_; clear hA ac; intro ac hA
     refine st_skip hA (by kernel_rfl) (by kernel_rfl) ?_; clear hA ac; intro ac hA
     refine st_skip hA (by kernel_rfl) (by kernel_rfl) ?_; clear hA ac; intro ac hA
     refine st_skip hA (by kernel_rfl) (by kernel_rfl) ?_; clear hA ac; intro ac hA
     refine st_rd (v := Value.bool false) hA (by kernel_rfl) (by kernel_rfl) (by kernel_rfl) hW.cls (Rd.pure fun _ => by kernel_rfl) ?_; clear hA ac; intro ac hA
     refine st_rd (v := Value.bool false) hA (by kernel_rfl) (by kernel_rfl) (by kernel_rfl) hW.cls (Rd.pure fun _ => by kernel_rfl) ?_; clear hA ac; intro ac hA
     refine st_skip hA (by kernel_rfl) (by kernel_rfl) ?_; clear hA ac; intro ac hA
     refine st_skip hA (by kernel_rfl) (by kernel_rfl) ?_; clear hA ac; intro ac hA
     refine st_skip hA (by kernel_rfl) (by kernel_rfl) ?_; clear hA ac; intro ac hA
     refine st_rd (v := Value.bool false) hA (by kernel_rfl) (by kernel_rfl) (by kernel_rfl) hW.cls (Rd.pure fun _ => by kernel_rfl) ?_; clear hA ac; intro ac hA
     refine st_rd (v := Value.bool false) hA (by kernel_rfl) (by kernel_rfl) (by kernel_rfl) hW.cls (Rd.pure fun _ => by kernel_rfl) ?_; clear hA ac; intro ac hA
     refine st_skip hA (by kernel_rfl) (by kernel_rfl) ?_; clear hA ac; intro ac hA
     refine st_skip hA (by kernel_rfl) (by kernel_rfl) ?_; clear hA ac; intro ac hA
     refine st_skip hA (by kernel_rfl) (by kernel_rfl) ?_; clear hA ac; intro ac hA
     refine st_rd (v := Value.bool false) hA (by kernel_rfl) (by kernel_rfl) (by kernel_rfl) hW.cls (Rd.pure fun _ => by kernel_rfl) ?_; clear hA ac; intro ac hA
     refine st_rd (v := Value.bool false) hA (by kernel_rfl) (by kernel_rfl) (by kernel_rfl) hW.cls (Rd.pure fun _ => by kernel_rfl) ?_; clear hA ac; intro ac hA
     refine st_skip hA (by kernel_rfl) (by kernel_rfl) ?_; clear hA ac; intro ac hA
     refine st_skip hA (by kernel_rfl) (by kernel_rfl) ?_; clear hA ac; intro ac hA
     refine st_skip hA (by kernel_rfl) (by kernel_rfl) ?_; clear hA ac; intro ac hA
     refine st_skip hA (by kernel_rfl) (by kernel_rfl) ?_; clear hA ac; intro ac hA
     refine st_rd (v := Value.bool false) hA (by kernel_rfl) (by kernel_rfl) (by kernel_rfl) hW.cls (Rd.pure fun _ => by kernel_rfl) ?_; clear hA ac; intro ac hA
     refine st_rd (v := Value.bool false) hA (by kernel_rfl) (by kernel_rfl) (by kernel_rfl) hW.cls (Rd.pure fun _ => by kernel_rfl) ?_; clear hA ac; intro ac hA
     refine st_skip hA (by kernel_rfl) (by kernel_rfl) ?_; clear hA ac; intro ac hA
     refine st_skip hA (by kernel_rfl) (by kernel_rfl) ?_; clear hA ac; intro ac hA
     refine st_skip hA (by kernel_rfl) (by kernel_rfl) ?_; clear hA ac; intro ac hA
     refine st_skip hA (by kernel_rfl) (by kernel_rfl) ?_; clear hA ac; intro ac hA
     refine st_skip hA (by kernel_rfl) (by kernel_rfl) ?_; clear hA ac; intro ac hA
     refine st_rd (v := Value.bool false) hA (by kernel_rfl) (by kernel_rfl) (by kernel_rfl) hW.cls (Rd.pure fun _ => by kernel_rfl) ?_; clear hA ac; intro ac hA
     refine st_rd (v := Value.bool false) hA (by kernel_rfl) (by kernel_rfl) (by kernel_rfl) hW.cls (Rd.pure fun _ => by kernel_rfl) ?_; clear hA ac; intro ac hA
     refine wpList_nil ?_
     refine thenN ?_
     refine wp_ret ?_
     refine ret1 (v := Value.bool false) (by rfl) hA (Got.tmp hA (by kernel_rfl) (by kernel_rfl)) ?_
     clear hA
     exact ⟨retv (by (refine congrArg Value.bool (beq_iff_eq.2 ?_); rw [hle_d, works_bytes])), hW.fr⟩)

end Go.Proofs.Ytcokpdlmahlpnaa.L
