/- Contracts, walked by program over the engine's laws. -/
import Derived.Test.YtgeikokmhkfkgaaProg
import Derived.Test.YtgeikokmhkfkgaaT7
namespace Go.Proofs.Ytgeikokmhkfkgaa.L
open Go.RowKit

set_option maxRecDepth 100000 in
theorem e_works13  (w : World)  : Calls Try.prog 7 #[] w (fun e w' => e = .returned (Value.bool true) ∧ Fr No w w') := by
  refine enter_E 56 Try.func7 rfl rfl (by kernel_rfl) (L := []) (by kernel_rfl) ?_
  intro ac hA
  have hW := Ws.start w No
  refine wp_seq ?_
  refine wp_region_lit ?_
  refine st_rd (v := Value.bool false) hA (by kernel_rfl) (by kernel_rfl) (by kernel_rfl) hW.cls (Rd.pure fun _ => by kernel_rfl) ?_; clear hA ac; intro ac hA
  refine wpList_nil ?_
  refine thenN ?_
  refine wp_seq ?_
  refine wp_region_lit ?_
  refine st hA (by kernel_rfl) (by kernel_rfl) (by kernel_rfl) (Runs.call (fun _ => by kernel_rfl) (e_newY (2) w (by first | omega | (simp; done))) ?_)
  rintro _ w1 ⟨n2, n3, rfl, hu_⟩; refine ⟨_, rfl, ?_⟩; replace hW := hW.made hu_; clear hA ac; intro ac hA
  refine st_rd (v := Value.tuple #[Value.pointer (some ⟨n2, 0, none⟩), Value.int .i64 0]) hA (by kernel_rfl) (by kernel_rfl) (by kernel_rfl) hW.cls (Rd.pure fun _ => by kernel_rfl) ?_; clear hA ac; intro ac hA
  refine st_rd (v := Value.pointer (some ⟨n2, 0, none⟩)) hA (by kernel_rfl) (by kernel_rfl) (by kernel_rfl) hW.cls (Rd.pure fun _ => by kernel_rfl) ?_; clear hA ac; intro ac hA
  refine st_rd (v := Value.int .i64 0) hA (by kernel_rfl) (by kernel_rfl) (by kernel_rfl) hW.cls (Rd.pure fun _ => by kernel_rfl) ?_; clear hA ac; intro ac hA
  refine st_rd (v := Value.pointer (some ⟨n2, 0, none⟩)) hA (by kernel_rfl) (by kernel_rfl) (by kernel_rfl) hW.cls (Rd.pure fun _ => by kernel_rfl) ?_; clear hA ac; intro ac hA
  refine st_rd (v := Value.int .i64 0) hA (by kernel_rfl) (by kernel_rfl) (by kernel_rfl) hW.cls (Rd.pure fun _ => by kernel_rfl) ?_; clear hA ac; intro ac hA
  refine wpList_nil ?_
  refine thenN ?_
  refine wp_seq ?_
  refine wp_region_lit ?_
  refine st_rd (v := Value.pointer (some ⟨n2, 0, none⟩)) hA (by kernel_rfl) (by kernel_rfl) (by kernel_rfl) hW.cls (Rd.pure fun _ => by kernel_rfl) ?_; clear hA ac; intro ac hA
  refine st hA (by kernel_rfl) (by kernel_rfl) (by kernel_rfl) (Runs.call (fun _ => by kernel_rfl) (e_lock n2 n3 ([]) (2) (1) (7) w1 ((hW).get 0 rfl) ((hW).lt _ (List.mem_of_getElem? (i := 0) rfl))) ?_)
  rintro _ w4 ⟨u5, u6, rfl, hw4_hL, hu_⟩; refine ⟨_, rfl, ?_⟩; replace hW := hW.upd (H' := [MutR n2 n3 u5 (2)]) 0 rfl hu_ rfl; clear hA ac; intro ac hA
  have ql0 : u5 = [(1, 7)] := congrArg Prod.fst hw4_hL
  have qe0 : u6 = 0 := congrArg Prod.snd hw4_hL
  refine st_rd (v := Value.pointer (some ⟨n2, 0, none⟩)) hA (by kernel_rfl) (by kernel_rfl) (by kernel_rfl) hW.cls (Rd.pure fun _ => by kernel_rfl) ?_; clear hA ac; intro ac hA
  refine st hA (by kernel_rfl) (by kernel_rfl) (by kernel_rfl) (Runs.call (fun _ => by kernel_rfl) (e_lock n2 n3 u5 (2) (1) (7) w4 ((hW).get 0 rfl) ((hW).lt _ (List.mem_of_getElem? (i := 0) rfl))) ?_)
  rintro _ w7 ⟨u8, u9, rfl, hw7_hL, hu_⟩; refine ⟨_, rfl, ?_⟩; replace hW := hW.upd (H' := [MutR n2 n3 u8 (2)]) 0 rfl hu_ rfl; clear hA ac; intro ac hA
  rw [ql0] at hw7_hL
  have ql1 : u8 = [(1, 7)] := congrArg Prod.fst hw7_hL
  have qe1 : u9 = 230 := congrArg Prod.snd hw7_hL
  refine st_rd (v := Value.int .i64 u6) hA (by kernel_rfl) (by kernel_rfl) (by kernel_rfl) hW.cls (Rd.pure fun _ => by kernel_rfl) ?_; clear hA ac; intro ac hA
  refine st_rd (v := Value.int .i64 u9) hA (by kernel_rfl) (by kernel_rfl) (by kernel_rfl) hW.cls (Rd.pure fun _ => by kernel_rfl) ?_; clear hA ac; intro ac hA
  refine wpList_nil ?_
  refine thenN ?_
  refine wp_seq ?_
  refine wp_region_lit ?_
  refine st_rd (v := Value.pointer (some ⟨n2, 0, none⟩)) hA (by kernel_rfl) (by kernel_rfl) (by kernel_rfl) hW.cls (Rd.pure fun _ => by kernel_rfl) ?_; clear hA ac; intro ac hA
  refine st hA (by kernel_rfl) (by kernel_rfl) (by kernel_rfl) (Runs.call (fun _ => by kernel_rfl) (e_unlock n2 n3 u8 (2) (1) w7 ((hW).get 0 rfl) ((hW).lt _ (List.mem_of_getElem? (i := 0) rfl))) ?_)
  rintro _ w10 ⟨u11, u12, u13, rfl, hw10_hL, hu_⟩; refine ⟨_, rfl, ?_⟩; replace hW := hW.upd (H' := [MutR n2 n3 u11 (2)]) 0 rfl hu_ rfl; clear hA ac; intro ac hA
  rw [ql1] at hw10_hL
  have ql2 : u11 = [] := congrArg Prod.fst hw10_hL
  have qw2 : u12 = 7 := congrArg (fun x => x.2.1) hw10_hL; have qe2 : u13 = 0 := congrArg (fun x => x.2.2) hw10_hL
  refine st_rd (v := Value.tuple #[Value.int .i64 u12, Value.int .i64 u13]) hA (by kernel_rfl) (by kernel_rfl) (by kernel_rfl) hW.cls (Rd.pure fun _ => by kernel_rfl) ?_; clear hA ac; intro ac hA
  refine st_rd (v := Value.int .i64 u12) hA (by kernel_rfl) (by kernel_rfl) (by kernel_rfl) hW.cls (Rd.pure fun _ => by kernel_rfl) ?_; clear hA ac; intro ac hA
  refine st_rd (v := Value.int .i64 u13) hA (by kernel_rfl) (by kernel_rfl) (by kernel_rfl) hW.cls (Rd.pure fun _ => by kernel_rfl) ?_; clear hA ac; intro ac hA
  refine st_rd (v := Value.int .i64 u12) hA (by kernel_rfl) (by kernel_rfl) (by kernel_rfl) hW.cls (Rd.pure fun _ => by kernel_rfl) ?_; clear hA ac; intro ac hA
  refine st_rd (v := Value.int .i64 u13) hA (by kernel_rfl) (by kernel_rfl) (by kernel_rfl) hW.cls (Rd.pure fun _ => by kernel_rfl) ?_; clear hA ac; intro ac hA
  refine wpList_nil ?_
  refine thenN ?_
  refine wp_seq ?_
  refine wp_region_lit ?_
  refine st_rd (v := Value.pointer (some ⟨n2, 0, none⟩)) hA (by kernel_rfl) (by kernel_rfl) (by kernel_rfl) hW.cls (Rd.pure fun _ => by kernel_rfl) ?_; clear hA ac; intro ac hA
  refine st hA (by kernel_rfl) (by kernel_rfl) (by kernel_rfl) (Runs.call (fun _ => by kernel_rfl) (e_unlock n2 n3 u11 (2) (1) w10 ((hW).get 0 rfl) ((hW).lt _ (List.mem_of_getElem? (i := 0) rfl))) ?_)
  rintro _ w14 ⟨u15, u16, u17, rfl, hw14_hL, hu_⟩; refine ⟨_, rfl, ?_⟩; replace hW := hW.upd (H' := [MutR n2 n3 u15 (2)]) 0 rfl hu_ rfl; clear hA ac; intro ac hA
  rw [ql2] at hw14_hL
  have ql3 : u15 = [] := congrArg Prod.fst hw14_hL
  have qw3 : u16 = 0 := congrArg (fun x => x.2.1) hw14_hL; have qe3 : u17 = 231 := congrArg (fun x => x.2.2) hw14_hL
  refine st_rd (v := Value.tuple #[Value.int .i64 u16, Value.int .i64 u17]) hA (by kernel_rfl) (by kernel_rfl) (by kernel_rfl) hW.cls (Rd.pure fun _ => by kernel_rfl) ?_; clear hA ac; intro ac hA
  refine st_rd (v := Value.int .i64 u16) hA (by kernel_rfl) (by kernel_rfl) (by kernel_rfl) hW.cls (Rd.pure fun _ => by kernel_rfl) ?_; clear hA ac; intro ac hA
  refine st_rd (v := Value.int .i64 u17) hA (by kernel_rfl) (by kernel_rfl) (by kernel_rfl) hW.cls (Rd.pure fun _ => by kernel_rfl) ?_; clear hA ac; intro ac hA
  refine st_rd (v := Value.int .i64 u16) hA (by kernel_rfl) (by kernel_rfl) (by kernel_rfl) hW.cls (Rd.pure fun _ => by kernel_rfl) ?_; clear hA ac; intro ac hA
  refine st_rd (v := Value.int .i64 u17) hA (by kernel_rfl) (by kernel_rfl) (by kernel_rfl) hW.cls (Rd.pure fun _ => by kernel_rfl) ?_; clear hA ac; intro ac hA
  refine wpList_nil ?_
  refine thenN ?_
  refine wp_seq ?_
  refine wp_region_lit ?_
  refine st_rd (v := Value.int .i64 0) hA (by kernel_rfl) (by kernel_rfl) (by kernel_rfl) hW.cls (Rd.pure fun _ => by kernel_rfl) ?_; clear hA ac; intro ac hA
  refine st hA (by kernel_rfl) (by kernel_rfl) (by kernel_rfl) (Runs.callS (v := Value.int .i64 (0)) (fun _ => by kernel_rfl) (e_num13 (0) w14) ?_); clear hA ac; intro  ac hA
  refine st_rd (v := Value.int .i64 u6) hA (by kernel_rfl) (by kernel_rfl) (by kernel_rfl) hW.cls (Rd.pure fun _ => by kernel_rfl) ?_; clear hA ac; intro ac hA
  refine st hA (by kernel_rfl) (by kernel_rfl) (by kernel_rfl) (Runs.callS (v := Value.int .i64 (u6)) (fun _ => by kernel_rfl) (e_num13 (u6) w14) ?_); clear hA ac; intro  ac hA
  refine st_rd (v := Value.int .i64 (((0) : Int) + (u6))) hA (by kernel_rfl) (by kernel_rfl) (by kernel_rfl) hW.cls (Rd.pureE (v0 := Value.int .i64 (IntKind.i64.wrap (((0) : Int) + (u6)))) (fun _ => by kernel_rfl) (congrArg (Value.int .i64) ((w_i64 (x := ((0) : Int) + (u6)) (by omega) (by omega)).trans (by omega)))) ?_; clear hA ac; intro ac hA
  refine st_rd (v := Value.int .i64 u13) hA (by kernel_rfl) (by kernel_rfl) (by kernel_rfl) hW.cls (Rd.pure fun _ => by kernel_rfl) ?_; clear hA ac; intro ac hA
  refine st hA (by kernel_rfl) (by kernel_rfl) (by kernel_rfl) (Runs.callS (v := Value.int .i64 (u13)) (fun _ => by kernel_rfl) (e_num13 (u13) w14) ?_); clear hA ac; intro  ac hA
  refine st_rd (v := Value.int .i64 ((((0) : Int) + (u6) : Int) + (u13))) hA (by kernel_rfl) (by kernel_rfl) (by kernel_rfl) hW.cls (Rd.pureE (v0 := Value.int .i64 (IntKind.i64.wrap ((((0) : Int) + (u6) : Int) + (u13)))) (fun _ => by kernel_rfl) (congrArg (Value.int .i64) ((w_i64 (x := (((0) : Int) + (u6) : Int) + (u13)) (by omega) (by omega)).trans (by omega)))) ?_; clear hA ac; intro ac hA
  refine st_rd (v := Value.bool (((((0) : Int) + (u6) : Int) + (u13) : Int) == (0 : Int))) hA (by kernel_rfl) (by kernel_rfl) (by kernel_rfl) hW.cls (Rd.pure fun _ => by kernel_rfl) ?_; clear hA ac; intro ac hA
  refine st_rd (v := Value.bool (((((0) : Int) + (u6) : Int) + (u13) : Int) == (0 : Int))) hA (by kernel_rfl) (by kernel_rfl) (by kernel_rfl) hW.cls (Rd.pure fun _ => by kernel_rfl) ?_; clear hA ac; intro ac hA
  rcases Bool.eq_false_or_eq_true (((((0) : Int) + (u6) : Int) + (u13) : Int) == (0 : Int)) with h18 | h18
  · skip
    rw [h18] at hA
    have h18 := eq_of_beq h18
    first
    | (exfalso; clear hA hW; omega)
    | (
        refine st_rd (v := Value.int .i64 u9) hA (by kernel_rfl) (by kernel_rfl) (by kernel_rfl) hW.cls (Rd.pure fun _ => by kernel_rfl) ?_; clear hA ac; intro ac hA
        refine st hA (by kernel_rfl) (by kernel_rfl) (by kernel_rfl) (Runs.callS (v := Value.int .i64 (u9)) (fun _ => by kernel_rfl) (e_num13 (u9) w14) ?_); clear hA ac; intro  ac hA
        refine st_rd (v := Value.bool (((u9) : Int) == (230 : Int))) hA (by kernel_rfl) (by kernel_rfl) (by kernel_rfl) hW.cls (Rd.pure fun _ => by kernel_rfl) ?_; clear hA ac; intro ac hA
        refine st_rd (v := Value.bool (((u9) : Int) == (230 : Int))) hA (by kernel_rfl) (by kernel_rfl) (by kernel_rfl) hW.cls (Rd.pure fun _ => by kernel_rfl) ?_; clear hA ac; intro ac hA
        refine st_rd (v := Value.bool (((u9) : Int) == (230 : Int))) hA (by kernel_rfl) (by kernel_rfl) (by kernel_rfl) hW.cls (Rd.pure fun _ => by kernel_rfl) ?_; clear hA ac; intro ac hA
        rcases Bool.eq_false_or_eq_true (((u9) : Int) == (230 : Int)) with h19 | h19
        · skip
          rw [h19] at hA
          have h19 := eq_of_beq h19
          first
          | (exfalso; clear hA hW; omega)
          | (
              refine st_rd (v := Value.int .i64 u12) hA (by kernel_rfl) (by kernel_rfl) (by kernel_rfl) hW.cls (Rd.pure fun _ => by kernel_rfl) ?_; clear hA ac; intro ac hA
              refine st_rd (v := Value.bool ((u12 : Int) == (7 : Int))) hA (by kernel_rfl) (by kernel_rfl) (by kernel_rfl) hW.cls (Rd.pure fun _ => by kernel_rfl) ?_; clear hA ac; intro ac hA
              refine st_rd (v := Value.bool ((u12 : Int) == (7 : Int))) hA (by kernel_rfl) (by kernel_rfl) (by kernel_rfl) hW.cls (Rd.pure fun _ => by kernel_rfl) ?_; clear hA ac; intro ac hA
              refine st_rd (v := Value.bool ((u12 : Int) == (7 : Int))) hA (by kernel_rfl) (by kernel_rfl) (by kernel_rfl) hW.cls (Rd.pure fun _ => by kernel_rfl) ?_; clear hA ac; intro ac hA
              rcases Bool.eq_false_or_eq_true ((u12 : Int) == (7 : Int)) with h20 | h20
              · skip
                rw [h20] at hA
                have h20 := eq_of_beq h20
                first
                | (exfalso; clear hA hW; omega)
                | (
                    refine st_rd (v := Value.int .i64 u17) hA (by kernel_rfl) (by kernel_rfl) (by kernel_rfl) hW.cls (Rd.pure fun _ => by kernel_rfl) ?_; clear hA ac; intro ac hA
                    refine st hA (by kernel_rfl) (by kernel_rfl) (by kernel_rfl) (Runs.callS (v := Value.int .i64 (u17)) (fun _ => by kernel_rfl) (e_num13 (u17) w14) ?_); clear hA ac; intro  ac hA
                    refine st_rd (v := Value.bool (((u17) : Int) == (231 : Int))) hA (by kernel_rfl) (by kernel_rfl) (by kernel_rfl) hW.cls (Rd.pure fun _ => by kernel_rfl) ?_; clear hA ac; intro ac hA
                    refine st_rd (v := Value.bool (((u17) : Int) == (231 : Int))) hA (by kernel_rfl) (by kernel_rfl) (by kernel_rfl) hW.cls (Rd.pure fun _ => by kernel_rfl) ?_; clear hA ac; intro ac hA
                    refine st_rd (v := Value.bool (((u17) : Int) == (231 : Int))) hA (by kernel_rfl) (by kernel_rfl) (by kernel_rfl) hW.cls (Rd.pure fun _ => by kernel_rfl) ?_; clear hA ac; intro ac hA
                    rcases Bool.eq_false_or_eq_true (((u17) : Int) == (231 : Int)) with h21 | h21
                    · skip
                      rw [h21] at hA
                      have h21 := eq_of_beq h21
                      first
                      | (exfalso; clear hA hW; omega)
                      | (
                          refine st_rd (v := Value.pointer (some ⟨n2, 0, none⟩)) hA (by kernel_rfl) (by kernel_rfl) (by kernel_rfl) hW.cls (Rd.pure fun _ => by kernel_rfl) ?_; clear hA ac; intro ac hA
                          refine st hA (by kernel_rfl) (by kernel_rfl) (by kernel_rfl) (Runs.call (fun _ => by kernel_rfl) (e_lock n2 n3 u15 (2) (2) (0) w14 ((hW).get 0 rfl) ((hW).lt _ (List.mem_of_getElem? (i := 0) rfl))) ?_)
                          rintro _ w22 ⟨u23, u24, rfl, hw22_hL, hu_⟩; refine ⟨_, rfl, ?_⟩; replace hW := hW.upd (H' := [MutR n2 n3 u23 (2)]) 0 rfl hu_ rfl; clear hA ac; intro ac hA
                          rw [ql3] at hw22_hL
                          have ql4 : u23 = [] := congrArg Prod.fst hw22_hL
                          have qe4 : u24 = 4 := congrArg Prod.snd hw22_hL
                          refine st hA (by kernel_rfl) (by kernel_rfl) (by kernel_rfl) (Runs.callS (v := Value.int .i64 (u24)) (fun _ => by kernel_rfl) (e_num13 (u24) w22) ?_); clear hA ac; intro  ac hA
                          refine st_rd (v := Value.bool (((u24) : Int) == (4 : Int))) hA (by kernel_rfl) (by kernel_rfl) (by kernel_rfl) hW.cls (Rd.pure fun _ => by kernel_rfl) ?_; clear hA ac; intro ac hA
                          refine st_rd (v := Value.bool (((u24) : Int) == (4 : Int))) hA (by kernel_rfl) (by kernel_rfl) (by kernel_rfl) hW.cls (Rd.pure fun _ => by kernel_rfl) ?_; clear hA ac; intro ac hA
                          refine st_rd (v := Value.bool (((u24) : Int) == (4 : Int))) hA (by kernel_rfl) (by kernel_rfl) (by kernel_rfl) hW.cls (Rd.pure fun _ => by kernel_rfl) ?_; clear hA ac; intro ac hA
                          refine wpList_nil ?_
                          refine thenN ?_
                          refine wp_ret ?_
                          refine ret1 (v := Value.bool (((u24) : Int) == (4 : Int))) (by rfl) hA (Got.tmp hA (by kernel_rfl) (by kernel_rfl)) ?_
                          clear hA
                          exact ⟨retv (by (refine congrArg Value.bool (beq_iff_eq.2 ?_); omega)), hW.fr⟩)
                    · skip
                      rw [h21] at hA
                      have h21 := ne_of_beq_false h21
                      first
                      | (exfalso; clear hA hW; omega)
                      | (
                          refine st_skip hA (by kernel_rfl) (by kernel_rfl) ?_; clear hA ac; intro ac hA
                          refine st_skip hA (by kernel_rfl) (by kernel_rfl) ?_; clear hA ac; intro ac hA
                          refine st_skip hA (by kernel_rfl) (by kernel_rfl) ?_; clear hA ac; intro ac hA
                          refine st_skip hA (by kernel_rfl) (by kernel_rfl) ?_; clear hA ac; intro ac hA
                          refine st_rd (v := Value.bool false) hA (by kernel_rfl) (by kernel_rfl) (by kernel_rfl) hW.cls (Rd.pure fun _ => by kernel_rfl) ?_; clear hA ac; intro ac hA
                          refine st_rd (v := Value.bool false) hA (by kernel_rfl) (by kernel_rfl) (by kernel_rfl) hW.cls (Rd.pure fun _ => by kernel_rfl) ?_; clear hA ac; intro ac hA
                          refine wpList_nil ?_
                          refine thenN ?_
                          refine wp_ret ?_
                          refine ret1 (v := Value.bool false) (by rfl) hA (Got.tmp hA (by kernel_rfl) (by kernel_rfl)) ?_
                          clear hA
                          exact ⟨retv (by (refine congrArg Value.bool (beq_iff_eq.2 ?_); omega)), hW.fr⟩))
              · skip
                rw [h20] at hA
                have h20 := ne_of_beq_false h20
                first
                | (exfalso; clear hA hW; omega)
                | (
                    refine st_skip hA (by kernel_rfl) (by kernel_rfl) ?_; clear hA ac; intro ac hA
                    refine st_skip hA (by kernel_rfl) (by kernel_rfl) ?_; clear hA ac; intro ac hA
                    refine st_skip hA (by kernel_rfl) (by kernel_rfl) ?_; clear hA ac; intro ac hA
                    refine st_rd (v := Value.bool false) hA (by kernel_rfl) (by kernel_rfl) (by kernel_rfl) hW.cls (Rd.pure fun _ => by kernel_rfl) ?_; clear hA ac; intro ac hA
                    refine st_rd (v := Value.bool false) hA (by kernel_rfl) (by kernel_rfl) (by kernel_rfl) hW.cls (Rd.pure fun _ => by kernel_rfl) ?_; clear hA ac; intro ac hA
                    refine st_skip hA (by kernel_rfl) (by kernel_rfl) ?_; clear hA ac; intro ac hA
                    refine st_skip hA (by kernel_rfl) (by kernel_rfl) ?_; clear hA ac; intro ac hA
                    refine st_skip hA (by kernel_rfl) (by kernel_rfl) ?_; clear hA ac; intro ac hA
                    refine st_skip hA (by kernel_rfl) (by kernel_rfl) ?_; clear hA ac; intro ac hA
                    refine st_rd (v := Value.bool false) hA (by kernel_rfl) (by kernel_rfl) (by kernel_rfl) hW.cls (Rd.pure fun _ => by kernel_rfl) ?_; clear hA ac; intro ac hA
                    refine st_rd (v := Value.bool false) hA (by kernel_rfl) (by kernel_rfl) (by kernel_rfl) hW.cls (Rd.pure fun _ => by kernel_rfl) ?_; clear hA ac; intro ac hA
                    refine wpList_nil ?_
                    refine thenN ?_
                    refine wp_ret ?_
                    refine ret1 (v := Value.bool false) (by rfl) hA (Got.tmp hA (by kernel_rfl) (by kernel_rfl)) ?_
                    clear hA
                    exact ⟨retv (by (refine congrArg Value.bool (beq_iff_eq.2 ?_); omega)), hW.fr⟩))
        · skip
          rw [h19] at hA
          have h19 := ne_of_beq_false h19
          first
          | (exfalso; clear hA hW; omega)
          | (
              refine st_skip hA (by kernel_rfl) (by kernel_rfl) ?_; clear hA ac; intro ac hA
              refine st_skip hA (by kernel_rfl) (by kernel_rfl) ?_; clear hA ac; intro ac hA
              refine st_rd (v := Value.bool false) hA (by kernel_rfl) (by kernel_rfl) (by kernel_rfl) hW.cls (Rd.pure fun _ => by kernel_rfl) ?_; clear hA ac; intro ac hA
              refine st_rd (v := Value.bool false) hA (by kernel_rfl) (by kernel_rfl) (by kernel_rfl) hW.cls (Rd.pure fun _ => by kernel_rfl) ?_; clear hA ac; intro ac hA
              refine st_skip hA (by kernel_rfl) (by kernel_rfl) ?_; clear hA ac; intro ac hA
              refine st_skip hA (by kernel_rfl) (by kernel_rfl) ?_; clear hA ac; intro ac hA
              refine st_skip hA (by kernel_rfl) (by kernel_rfl) ?_; clear hA ac; intro ac hA
              refine st_rd (v := Value.bool false) hA (by kernel_rfl) (by kernel_rfl) (by kernel_rfl) hW.cls (Rd.pure fun _ => by kernel_rfl) ?_; clear hA ac; intro ac hA
              refine st_rd (v := Value.bool false) hA (by kernel_rfl) (by kernel_rfl) (by kernel_rfl) hW.cls (Rd.pure fun _ => by kernel_rfl) ?_; clear hA ac; intro ac hA
              refine st_skip hA (by kernel_rfl) (by kernel_rfl) ?_; clear hA ac; intro ac hA
              refine st_skip hA (by kernel_rfl) (by kernel_rfl) ?_; clear hA ac; intro ac hA
              refine st_skip hA (by kernel_rfl) (by kernel_rfl) ?_; clear hA ac; intro ac hA
              refine st_skip hA (by kernel_rfl) (by kernel_rfl) ?_; clear hA ac; intro ac hA
              refine st_rd (v := Value.bool false) hA (by kernel_rfl) (by kernel_rfl) (by kernel_rfl) hW.cls (Rd.pure fun _ => by kernel_rfl) ?_; clear hA ac; intro ac hA
              refine st_rd (v := Value.bool false) hA (by kernel_rfl) (by kernel_rfl) (by kernel_rfl) hW.cls (Rd.pure fun _ => by kernel_rfl) ?_; clear hA ac; intro ac hA
              refine wpList_nil ?_
              refine thenN ?_
              refine wp_ret ?_
              refine ret1 (v := Value.bool false) (by rfl) hA (Got.tmp hA (by kernel_rfl) (by kernel_rfl)) ?_
              clear hA
              exact ⟨retv (by (refine congrArg Value.bool (beq_iff_eq.2 ?_); omega)), hW.fr⟩))
  · skip
    rw [h18] at hA
    have h18 := ne_of_beq_false h18
    first
    | (exfalso; clear hA hW; omega)
    | (
        refine st_skip hA (by kernel_rfl) (by kernel_rfl) ?_; clear hA ac; intro ac hA
        refine st_skip hA (by kernel_rfl) (by kernel_rfl) ?_; clear hA ac; intro ac hA
        refine st_skip hA (by kernel_rfl) (by kernel_rfl) ?_; clear hA ac; intro ac hA
        refine st_rd (v := Value.bool false) hA (by kernel_rfl) (by kernel_rfl) (by kernel_rfl) hW.cls (Rd.pure fun _ => by kernel_rfl) ?_; clear hA ac; intro ac hA
        refine st_rd (v := Value.bool false) hA (by kernel_rfl) (by kernel_rfl) (by kernel_rfl) hW.cls (Rd.pure fun _ => by kernel_rfl) ?_; clear hA ac; intro ac hA
        refine st_skip hA (by kernel_rfl) (by kernel_rfl) ?_; clear hA ac; intro ac hA
        refine st_skip hA (by kernel_rfl) (by kernel_rfl) ?_; clear hA ac; intro ac hA
        refine st_rd (v := Value.bool false) hA (by kernel_rfl) (by kernel_rfl) (by kernel_rfl) hW.cls (Rd.pure fun _ => by kernel_rfl) ?_; clear hA ac; intro ac hA
        refine st_rd (v := Value.bool false) hA (by kernel_rfl) (by kernel_rfl) (by kernel_rfl) hW.cls (Rd.pure fun _ => by kernel_rfl) ?_; clear hA ac; intro ac hA
        refine st_skip hA (by kernel_rfl) (by kernel_rfl) ?_; clear hA ac; intro ac hA
        refine st_skip hA (by kernel_rfl) (by kernel_rfl) ?_; clear hA ac; intro ac hA
        refine st_skip hA (by kernel_rfl) (by kernel_rfl) ?_; clear hA ac; intro ac hA
        refine st_rd (v := Value.bool false) hA (by kernel_rfl) (by kernel_rfl) (by kernel_rfl) hW.cls (Rd.pure fun _ => by kernel_rfl) ?_; clear hA ac; intro ac hA
        refine st_rd (v := Value.bool false) hA (by kernel_rfl) (by kernel_rfl) (by kernel_rfl) hW.cls (Rd.pure fun _ => by kernel_rfl) ?_; clear hA ac; intro ac hA
        refine st_skip hA (by kernel_rfl) (by kernel_rfl) ?_; clear hA ac; intro ac hA
        refine st_skip hA (by kernel_rfl) (by kernel_rfl) ?_; clear hA ac; intro ac hA
        refine st_skip hA (by kernel_rfl) (by kernel_rfl) ?_; clear hA ac; intro ac hA
        refine st_skip hA (by kernel_rfl) (by kernel_rfl) ?_; clear hA ac; intro ac hA
        refine st_rd (v := Value.bool false) hA (by kernel_rfl) (by kernel_rfl) (by kernel_rfl) hW.cls (Rd.pure fun _ => by kernel_rfl) ?_; clear hA ac; intro ac hA
        refine st_rd (v := Value.bool false) hA (by kernel_rfl) (by kernel_rfl) (by kernel_rfl) hW.cls (Rd.pure fun _ => by kernel_rfl) ?_; clear hA ac; intro ac hA
        refine wpList_nil ?_
        refine thenN ?_
        refine wp_ret ?_
        refine ret1 (v := Value.bool false) (by rfl) hA (Got.tmp hA (by kernel_rfl) (by kernel_rfl)) ?_
        clear hA
        exact ⟨retv (by (refine congrArg Value.bool (beq_iff_eq.2 ?_); omega)), hW.fr⟩)

set_option maxRecDepth 100000 in
theorem e_rsame (A_L : Option Addr) (c_L : Nat) (L : List Int) (A_K : Option Addr) (c_K : Nat) (K : List Int) (w : World) (hr_L : RowAt w A_L 1 enI L) (hc_L : L.length ≤ c_L) (hr_K : RowAt w A_K 1 enI K) (hc_K : K.length ≤ c_K) (hl : L.length ≤ 1000 ∧ K.length ≤ 1000) : Calls Try.prog 17 #[Value.agg #[Value.slice A_L L.length c_L], Value.agg #[Value.slice A_K K.length c_K]] w (fun e w' => e = .returned (Value.bool (decide (L = K))) ∧ Fr No w w') := by
  have _hu := hc_L; have _hv := hr_L; clear _hu _hv
  have _hu := hc_K; have _hv := hr_K; clear _hu _hv
  have _hu := hl; clear _hu
  refine enter_E 31 Try.func17 rfl rfl (by kernel_rfl) (L := [(0, Value.agg #[Value.slice A_L L.length c_L]), (1, Value.agg #[Value.slice A_K K.length c_K])]) (by kernel_rfl) ?_
  intro ac hA
  have hW := Ws.start w No
  have hW := hW.arg hr_L
  have hW := hW.arg hr_K
  refine wp_seq ?_
  refine wp_region_lit ?_
  refine st hA (by kernel_rfl) (by kernel_rfl) (by kernel_rfl) (Runs.cells (fun b => Value.pointer (some ⟨b, 0, none⟩)) #[Value.slice A_L L.length c_L] 40 (fun _ => by kernel_rfl) hW ?_); clear hA ac hW; intro b1 w2 hW hb1 hfw2 ac hA
  refine st hA (by kernel_rfl) (by kernel_rfl) (by kernel_rfl) (Runs.cells (fun b => Value.pointer (some ⟨b, 0, none⟩)) #[Value.slice A_K K.length c_K] 40 (fun _ => by kernel_rfl) hW ?_); clear hA ac hW; intro b3 w4 hW hb3 hfw4 ac hA
  refine st_rd (v := Value.bool false) hA (by kernel_rfl) (by kernel_rfl) (by kernel_rfl) hW.cls (Rd.pure fun _ => by kernel_rfl) ?_; clear hA ac; intro ac hA
  refine wpList_nil ?_
  refine thenN ?_
  refine wp_seq ?_
  refine wp_seq ?_
  refine wp_region_lit ?_
  refine st_rd (v := Value.pointer (some ⟨b1, 0, none⟩)) hA (by kernel_rfl) (by kernel_rfl) (by kernel_rfl) hW.cls (Rd.pure fun _ => by kernel_rfl) ?_; clear hA ac; intro ac hA
  refine st_rd (v := Value.slice A_L L.length c_L) hA (by kernel_rfl) (by kernel_rfl) (by kernel_rfl) hW.cls (Rd.load (b := b1) (i := 0) (by kernel_rfl) (fun _ hw => (hw.1).cel 1 rfl) (by kernel_rfl)) ?_; clear hA ac; intro ac hA
  refine st_rd (v := Value.int .i64 ((L.length : Nat) : Int)) hA (by kernel_rfl) (by kernel_rfl) (by kernel_rfl) hW.cls (Rd.pure fun _ => by kernel_rfl) ?_; clear hA ac; intro ac hA
  refine st_rd (v := Value.pointer (some ⟨b3, 0, none⟩)) hA (by kernel_rfl) (by kernel_rfl) (by kernel_rfl) hW.cls (Rd.pure fun _ => by kernel_rfl) ?_; clear hA ac; intro ac hA
  refine st_rd (v := Value.slice A_K K.length c_K) hA (by kernel_rfl) (by kernel_rfl) (by kernel_rfl) hW.cls (Rd.load (b := b3) (i := 0) (by kernel_rfl) (fun _ hw => (hw.1).cel 0 rfl) (by kernel_rfl)) ?_; clear hA ac; intro ac hA
  refine st_rd (v := Value.int .i64 ((K.length : Nat) : Int)) hA (by kernel_rfl) (by kernel_rfl) (by kernel_rfl) hW.cls (Rd.pure fun _ => by kernel_rfl) ?_; clear hA ac; intro ac hA
  refine st_rd (v := Value.bool ((((L.length : Nat) : Int) : Int) != (((K.length : Nat) : Int) : Int))) hA (by kernel_rfl) (by kernel_rfl) (by kernel_rfl) hW.cls (Rd.pure fun _ => by kernel_rfl) ?_; clear hA ac; intro ac hA
  refine wpList_nil ?_
  refine thenN ?_
  refine wp_cond_split (t := (((L.length : Nat) : Int) : Int) != (((K.length : Nat) : Int) : Int)) (hA.eval (by kernel_rfl)) (fun h5 => ?_) (fun h5 => ?_)
  · skip
    have h5 := bne_iff_ne.1 h5
    first
    | (exfalso; clear hA hW; omega)
    | (
        refine wp_seq ?_
        refine wp_region_lit ?_
        refine st_rd (v := Value.bool false) hA (by kernel_rfl) (by kernel_rfl) (by kernel_rfl) hW.cls (Rd.pure fun _ => by kernel_rfl) ?_; clear hA ac; intro ac hA
        refine wpList_nil ?_
        refine thenN ?_
        refine wp_ret ?_
        refine thenR ?_
        refine ret1 (v := Value.bool false) (by rfl) hA (Got.tmp hA (by kernel_rfl) (by kernel_rfl)) ?_
        clear hA
        refine ⟨retv (congrArg Value.bool (decide_eq_false ?_).symm), hW.fr⟩; intro e; subst e; exact absurd rfl (by omega))
  · skip
    have h5 := of_bne_f h5
    first
    | (exfalso; clear hA hW; omega)
    | (
        refine wp_skip ?_
        refine thenN ?_
        refine wp_seq ?_
        refine wp_seq ?_
        refine wp_region_lit ?_
        refine st_rd (v := Value.int .i64 0) hA (by kernel_rfl) (by kernel_rfl) (by kernel_rfl) hW.cls (Rd.pure fun _ => by kernel_rfl) ?_; clear hA ac; intro ac hA
        refine wpList_nil ?_
        refine thenN ?_
        refine wp_block ?_
        refine wp_loop_m (fun m_ ac_ wl_ => ∃ k : Nat, m_ = L.length - k ∧ (k ≤ L.length) ∧ (L.take k = K.take k) ∧ Fm 31 [] [(2, Value.pointer (some ⟨b1, 0, none⟩)), (3, Value.pointer (some ⟨b3, 0, none⟩)), (5, Value.int .i64 ((k : Nat) : Int))] ac_ ∧ Ws w No [Cel b3 #[Value.slice A_K K.length c_K] 40, Cel b1 #[Value.slice A_L L.length c_L] 40] [roR A_K 1 enI K, roR A_L 1 enI L] wl_) _ ⟨0, rfl, by omega, by rfl, hA.sub ⟨⟨by kernel_rfl, by kernel_rfl⟩, ⟨by kernel_rfl, by kernel_rfl⟩, ⟨by kernel_rfl, by kernel_rfl⟩, trivial⟩, (hW.pick [0, 1] (by decide) rfl).pickG [0, 1] rfl⟩ ?_
        clear hA ac hW; rintro m_ ac w6 ⟨k, rfl, hk, hn, hA, hW⟩
        refine wp_seq ?_
        refine wp_seq ?_
        refine wp_region_lit ?_
        refine st_rd (v := Value.int .i64 ((k : Nat) : Int)) hA (by kernel_rfl) (by kernel_rfl) (by kernel_rfl) hW.cls (Rd.pure fun _ => by kernel_rfl) ?_; clear hA ac; intro ac hA
        refine st_rd (v := Value.pointer (some ⟨b1, 0, none⟩)) hA (by kernel_rfl) (by kernel_rfl) (by kernel_rfl) hW.cls (Rd.pure fun _ => by kernel_rfl) ?_; clear hA ac; intro ac hA
        refine st_rd (v := Value.slice A_L L.length c_L) hA (by kernel_rfl) (by kernel_rfl) (by kernel_rfl) hW.cls (Rd.load (b := b1) (i := 0) (by kernel_rfl) (fun _ hw => (hw.1).cel 1 rfl) (by kernel_rfl)) ?_; clear hA ac; intro ac hA
        refine st_rd (v := Value.int .i64 ((L.length : Nat) : Int)) hA (by kernel_rfl) (by kernel_rfl) (by kernel_rfl) hW.cls (Rd.pure fun _ => by kernel_rfl) ?_; clear hA ac; intro ac hA
        refine st_rd (v := Value.bool (decide ((((k : Nat) : Int) : Int) < (((L.length : Nat) : Int) : Int)))) hA (by kernel_rfl) (by kernel_rfl) (by kernel_rfl) hW.cls (Rd.pure fun _ => by kernel_rfl) ?_; clear hA ac; intro ac hA
        refine wpList_nil ?_
        refine thenN ?_
        refine wp_cond_split (t := decide ((((k : Nat) : Int) : Int) < (((L.length : Nat) : Int) : Int))) (hA.eval (by kernel_rfl)) (fun h7 => ?_) (fun h7 => ?_)
        · skip
          have h7 := of_decide_eq_true h7
          first
          | (exfalso; clear hA hW; omega)
          | (
              refine wp_skip ?_
              refine thenN ?_
              refine wp_seq ?_
              refine wp_block ?_
              refine wp_seq ?_
              refine q_region (by kernel_rfl) (by kernel_rfl) hW ?_
              refine sq_rd (v := Value.pointer (some ⟨b1, 0, none⟩)) hA (by kernel_rfl) (by kernel_rfl) (by kernel_rfl) (Rd.pure fun _ => by kernel_rfl) ?_; clear hA ac; intro ac hA
              refine sq_rd (v := Value.slice A_L L.length c_L) hA (by kernel_rfl) (by kernel_rfl) (by kernel_rfl) (Rd.load (b := b1) (i := 0) (by kernel_rfl) (fun _ hw => (hw.1).cel 1 rfl) (by kernel_rfl)) ?_; clear hA ac; intro ac hA
              refine sq_rd (v := Value.int .i64 ((k : Nat) : Int)) hA (by kernel_rfl) (by kernel_rfl) (by kernel_rfl) (Rd.pure fun _ => by kernel_rfl) ?_; clear hA ac; intro ac hA
              obtain ⟨y8, hy8⟩ : ∃ y, L[k]? = some y := ⟨_, List.getElem?_eq_getElem (by first | omega | (simp; done) | (simp; omega))⟩
              obtain ⟨b9, o10, rfl, hbb9⟩ := row_some ((hW).getG 1 rfl) hy8
              refine sq_rd (v := Value.pointer (some ⟨b9, o10 + k * 1, none⟩)) hA (by kernel_rfl) (by kernel_rfl) (by kernel_rfl) (Rd.indexAddr (e := 3) (sz := 1) (b := b9) (off := o10) (n := L.length) (c := c_L) (k := k) (by kernel_rfl) (by kernel_rfl) (by first | omega | (simp; done) | (simp; omega)) (fun _ => by kernel_rfl) (fun _ => by kernel_rfl)) ?_; clear hA ac; intro ac hA
              refine sq_rd (v := Value.int .i64 y8) hA (by kernel_rfl) (by kernel_rfl) (by kernel_rfl) (Rd.loadRow (b := b9) (i := o10 + k * 1) (xs := [Value.int .i64 y8]) (by kernel_rfl) (fun _ hw => row_ld ((hw.1).getG 1 rfl) hy8 (Fr.refl No _) (fun h => h) 0 1 (by kernel_rfl)) (by kernel_rfl)) ?_; clear hA ac; intro ac hA
              refine sq_rd (v := Value.pointer (some ⟨b3, 0, none⟩)) hA (by kernel_rfl) (by kernel_rfl) (by kernel_rfl) (Rd.pure fun _ => by kernel_rfl) ?_; clear hA ac; intro ac hA
              refine sq_rd (v := Value.slice A_K K.length c_K) hA (by kernel_rfl) (by kernel_rfl) (by kernel_rfl) (Rd.load (b := b3) (i := 0) (by kernel_rfl) (fun _ hw => (hw.1).cel 0 rfl) (by kernel_rfl)) ?_; clear hA ac; intro ac hA
              refine sq_rd (v := Value.int .i64 ((k : Nat) : Int)) hA (by kernel_rfl) (by kernel_rfl) (by kernel_rfl) (Rd.pure fun _ => by kernel_rfl) ?_; clear hA ac; intro ac hA
              obtain ⟨y11, hy11⟩ : ∃ y, K[k]? = some y := ⟨_, List.getElem?_eq_getElem (by first | omega | (simp; done) | (simp; omega))⟩
              obtain ⟨b12, o13, rfl, hbb12⟩ := row_some ((hW).getG 0 rfl) hy11
              refine sq_rd (v := Value.pointer (some ⟨b12, o13 + k * 1, none⟩)) hA (by kernel_rfl) (by kernel_rfl) (by kernel_rfl) (Rd.indexAddr (e := 3) (sz := 1) (b := b12) (off := o13) (n := K.length) (c := c_K) (k := k) (by kernel_rfl) (by kernel_rfl) (by first | omega | (simp; done) | (simp; omega)) (fun _ => by kernel_rfl) (fun _ => by kernel_rfl)) ?_; clear hA ac; intro ac hA
              refine sq_rd (v := Value.int .i64 y11) hA (by kernel_rfl) (by kernel_rfl) (by kernel_rfl) (Rd.loadRow (b := b12) (i := o13 + k * 1) (xs := [Value.int .i64 y11]) (by kernel_rfl) (fun _ hw => row_ld ((hw.1).getG 0 rfl) hy11 (Fr.refl No _) (fun h => h) 0 1 (by kernel_rfl)) (by kernel_rfl)) ?_; clear hA ac; intro ac hA
              refine sq_rd (v := Value.bool ((y8 : Int) != (y11 : Int))) hA (by kernel_rfl) (by kernel_rfl) (by kernel_rfl) (Rd.pure fun _ => by kernel_rfl) ?_; clear hA ac; intro ac hA
              refine sq_nil ?_; intro w14 hww14; have hW := hww14.1; have hfw14 := hww14.2; clear hww14
              refine thenN ?_
              refine wp_cond_split (t := (y8 : Int) != (y11 : Int)) (hA.eval (by kernel_rfl)) (fun h15 => ?_) (fun h15 => ?_)
              · skip
                have h15 := bne_iff_ne.1 h15
                first
                | (exfalso; clear hA hW; omega)
                | (
                    refine wp_seq ?_
                    refine wp_region_lit ?_
                    refine st_rd (v := Value.bool false) hA (by kernel_rfl) (by kernel_rfl) (by kernel_rfl) hW.cls (Rd.pure fun _ => by kernel_rfl) ?_; clear hA ac; intro ac hA
                    refine wpList_nil ?_
                    refine thenN ?_
                    refine wp_ret ?_
                    refine blkR ?_
                    refine thenR ?_
                    refine thenR ?_
                    refine blkR ?_
                    refine thenR ?_
                    refine ret1 (v := Value.bool false) (by rfl) hA (Got.tmp hA (by kernel_rfl) (by kernel_rfl)) ?_
                    clear hA
                    refine ⟨retv (congrArg Value.bool (decide_eq_false ?_).symm), hW.fr⟩; intro e; subst e; rw [hy8] at hy11; exact h15 (Option.some.inj hy11))
              · skip
                have h15 := of_bne_f h15
                first
                | (exfalso; clear hA hW; omega)
                | (
                    refine wp_skip ?_
                    refine blkN ?_
                    refine thenN ?_
                    refine wp_region_lit ?_
                    refine st_rd (v := Value.int .i64 ((k : Nat) : Int)) hA (by kernel_rfl) (by kernel_rfl) (by kernel_rfl) hW.cls (Rd.pure fun _ => by kernel_rfl) ?_; clear hA ac; intro ac hA
                    refine st_rd (v := Value.int .i64 ((k + 1 : Nat) : Int)) hA (by kernel_rfl) (by kernel_rfl) (by kernel_rfl) hW.cls (Rd.pureE (v0 := Value.int .i64 (IntKind.i64.wrap ((((k : Nat) : Int) : Int) + 1))) (fun _ => by kernel_rfl) (congrArg (Value.int .i64) ((w_i64 (x := (((k : Nat) : Int) : Int) + 1) (by omega) (by omega)).trans (by omega)))) ?_; clear hA ac; intro ac hA
                    refine st_rd (v := Value.int .i64 ((k + 1 : Nat) : Int)) hA (by kernel_rfl) (by kernel_rfl) (by kernel_rfl) hW.cls (Rd.pure fun _ => by kernel_rfl) ?_; clear hA ac; intro ac hA
                    refine wpList_nil ?_
                    refine thenN ?_
                    exact ⟨L.length - (k + 1), by omega, k + 1, rfl, by omega, by rw [tk_snoc hy8, tk_snoc hy11, hn, h15], hA.sub ⟨⟨by kernel_rfl, by kernel_rfl⟩, ⟨by kernel_rfl, by kernel_rfl⟩, ⟨by kernel_rfl, by kernel_rfl⟩, trivial⟩, (hW.pick [0, 1] (by decide) rfl).pickG [0, 1] rfl⟩))
        · skip
          have h7 := of_decide_eq_false h7
          first
          | (exfalso; clear hA hW; omega)
          | (
              refine wp_exit ?_
              refine thenX ?_
              refine thenX ?_
              refine blkX ?_
              refine thenN ?_
              refine wp_seq ?_
              refine wp_region_lit ?_
              refine st_rd (v := Value.bool true) hA (by kernel_rfl) (by kernel_rfl) (by kernel_rfl) hW.cls (Rd.pure fun _ => by kernel_rfl) ?_; clear hA ac; intro ac hA
              refine wpList_nil ?_
              refine thenN ?_
              refine wp_ret ?_
              refine ret1 (v := Value.bool true) (by rfl) hA (Got.tmp hA (by kernel_rfl) (by kernel_rfl)) ?_
              clear hA
              refine ⟨retv (congrArg Value.bool (decide_eq_true ?_).symm), hW.fr⟩; rw [List.take_of_length_le (by omega), List.take_of_length_le (by omega)] at hn; exact hn))

end Go.Proofs.Ytgeikokmhkfkgaa.L
