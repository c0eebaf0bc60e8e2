/- Contracts, walked by program over the engine's laws. -/
import Derived.Test.YtefmglgejjaipaaGreatDoorProg
import Derived.Test.YtefmglgejjaipaaGreatDoorT17
namespace Go.Proofs.YtefmglgejjaipaaGreatDoor.L
open Go.RowKit

set_option maxRecDepth 100000 in
theorem e_radd (A_L : Option Addr) (c_L : Nat) (L : List Event) (A_B : Option Addr) (c_B : Nat) (B : List BV) (x : Event) (w : World) (hr_L : RowAt w A_L 9 enEvent L) (hc_L : L.length ≤ c_L) (hr_B : RowAt w A_B 1 enBV B) (hc_B : B.length ≤ c_B) (hn_B : (nestR innerBV B).p w) (hk_B : ∀ x_ ∈ B, capBV x_) (hL : L.length ≤ 4096) (hev : ∀ e ∈ L, EvOk e) (hB : B.map BV.l = ahM L) (hkx : (-9223372036854775808 ≤ x.kind ∧ x.kind ≤ 9223372036854775807)) : Calls Tryz.prog 18 #[Value.agg #[Value.slice A_L L.length c_L, Value.slice A_B B.length c_B], x.v] w (fun e w' => ∃ er : Int, ∃ L' : List Event, ∃ B' : List BV, ∃ (A_oL : Option Addr) (c_oL : Nat), ∃ (A_oB : Option Addr) (c_oB : Nat), e = .returned (Value.tuple #[Value.agg #[Value.slice A_oL (L').length c_oL, Value.slice A_oB (B').length c_oB], Value.int .i64 er]) ∧ ((er, L') = addE L x) ∧ (B'.map BV.l = ahM L') ∧ (L').length ≤ c_oL ∧ (B').length ≤ c_oB ∧ (∀ x_ ∈ (B'), capBV x_) ∧ (roR A_oL 9 enEvent L').from_ [roR A_L 9 enEvent L, roR A_B 1 enBV B, nestR innerBV B] w w' ∧ (roR A_oB 1 enBV B').from_ [roR A_L 9 enEvent L, roR A_B 1 enBV B, nestR innerBV B] w w' ∧ (nestR innerBV B').from_ [roR A_L 9 enEvent L, roR A_B 1 enBV B, nestR innerBV B] w w' ∧ Fr No w w') := by
 have _hu := hc_L; have _hv := hr_L; clear _hu _hv
 have _hu := hc_B; have _hv := hr_B; clear _hu _hv
 have _hu := hk_B; have _hv := hn_B; clear _hu _hv
 have _hu := hL; clear _hu
 have _hu := hev; clear _hu
 have _hu := hB; clear _hu
 have _hu := hkx; clear _hu
 have hbl_ := ah_blen hB
 have hkx_ := hkx
 refine enter_E 78 Tryz.func18 rfl rfl (by kernel_rfl) (L := [(0, Value.agg #[Value.slice A_L L.length c_L, Value.slice A_B B.length c_B]), (1, x.v)]) (by kernel_rfl) ?_
 intro ac hA
 have hW := Ws.start w No
 have hW := hW.arg hr_L
 have hW := hW.arg hr_B
 have hW := hW.addG _ hn_B (nest_ltBV hn_B) (by simp)
 refine wp_seq ?_
 refine wp_region_lit ?_
 refine st_s hA (Runs.cells (fun b => Value.pointer (some ⟨b, 0, none⟩)) #[Value.slice A_L L.length c_L, Value.slice A_B B.length c_B] 31 (fun _ => by kernel_rfl) hW ?_); clear hA ac hW; intro b1 w2 hW hb1 hfw2 ac hA
 refine st_s hA (Runs.cells (fun b => Value.pointer (some ⟨b, 0, none⟩)) #[Value.int .i64 x.g, Value.int .i64 x.kind, Value.int .i64 x.site.f, Value.int .i64 x.site.pc, Value.int .u32 x.addr, Value.int .i64 x.child, Value.int .i64 x.obj, Value.int .i64 x.n, Value.int .i64 x.trap] 50 (fun _ => by kernel_rfl) hW ?_); clear hA ac hW; intro b3 w4 hW hb3 hfw4 ac hA
 refine st_s hA (Runs.cells (fun b => Value.pointer (some ⟨b, 0, none⟩)) #[Value.slice none 0 0, Value.slice none 0 0] 31 (fun _ => by kernel_rfl) hW ?_); clear hA ac hW; intro b5 w6 hW hb5 hfw6 ac hA
 refine st_p (Value.int .i64 0) hA ?_; clear hA ac; intro ac hA
 refine wpList_nil ?_
 refine thenN ?_
 refine wp_seq ?_
 refine wp_region_lit ?_
 refine st_p (Value.pointer (some ⟨b1, 0, none⟩)) hA fun ac hA => st_q (Value.slice A_L L.length c_L) hA hW.cls (Rd.load (b := b1) (i := 0) (by kernel_rfl) (fun _ hw => (hw.1).cel 2 rfl) (by kernel_rfl)) fun ac hA => st_p (Value.int .i64 ((L.length : Nat) : Int)) hA fun ac hA => st_p (Value.int .i64 ((L.length : Nat) : Int)) hA fun ac hA => ?_
 refine wpList_nil ?_
 refine thenN ?_
 refine wp_seq ?_
 refine wp_seq ?_
 refine wp_region_lit ?_
 refine st_p (Value.int .i64 ((L.length : Nat) : Int)) hA fun ac hA => st_p (Value.bool (decide ((((L.length : Nat) : Int) : Int) ≥ (4096 : Int)))) hA fun ac hA => ?_
 refine wpList_nil ?_
 refine thenN ?_
 refine wp_cond_split (t := decide ((((L.length : Nat) : Int) : Int) ≥ (4096 : Int))) (hA.eval (by kernel_rfl)) (fun h7 => ?_) (fun h7 => ?_)
 ·
  have h7 := of_decide_eq_true h7
  first
  | (exfalso; clear hA hW; omega)
  | (
   refine wp_seq ?_
   refine wp_region_lit ?_
   refine st_q (Value.agg #[Value.slice A_L L.length c_L, Value.slice A_B B.length c_B]) hA hW.cls (Rd.load (b := b1) (i := 0) (by kernel_rfl) (fun _ hw => (hw.1).cel 2 rfl) (by kernel_rfl)) ?_; clear hA ac; intro ac hA
   refine st_s hA (Runs.store (v := Value.agg #[Value.slice A_L L.length c_L, Value.slice A_B B.length c_B]) (b := b5) (j := 0) (n := 2) (cs' := #[Value.slice A_L L.length c_L, Value.slice A_B B.length c_B]) (H' := [Cel b5 #[Value.slice A_L L.length c_L, Value.slice A_B B.length c_B] 31, Cel b3 #[Value.int .i64 x.g, Value.int .i64 x.kind, Value.int .i64 x.site.f, Value.int .i64 x.site.pc, Value.int .u32 x.addr, Value.int .i64 x.child, Value.int .i64 x.obj, Value.int .i64 x.n, Value.int .i64 x.trap] 50, Cel b1 #[Value.slice A_L L.length c_L, Value.slice A_B B.length c_B] 31]) (by kernel_rfl) (by kernel_rfl) (by kernel_rfl) (by kernel_rfl) (by kernel_rfl) hW 0 (by rfl) (Nat.le_of_ble_eq_true (by kernel_rfl)) (by kernel_rfl) (by rfl) ?_); clear hA ac hW; intro w8 hW ac hA
   refine st_p (Value.int .i64 3) hA ?_; clear hA ac; intro ac hA
   refine wpList_nil ?_
   refine thenN ?_
   refine wp_ret ?_
   refine thenR ?_
   refine ret2 (v1 := Value.agg #[Value.slice A_L L.length c_L, Value.slice A_B B.length c_B]) (v2 := Value.int .i64 3) (by rfl) hA (Got.cell (b := b5) (i := 0) hA (by kernel_rfl) (by kernel_rfl) (hW.cel 0 rfl) (by kernel_rfl)) (Got.tmp hA (by kernel_rfl) (by kernel_rfl)) ?_
   clear hA
   exact ⟨3, L, B, A_L, c_L, A_B, c_B, by first | rfl | (simp; done), by exact addE_no3 (by omega), by exact hB, (by first | assumption | omega | (simp; omega) | simp), (by first | assumption | omega | (simp; omega) | simp), hk_B, (hW.outSrc 2 rfl (src_arg (.head _))), (hW.outSrc 1 rfl (src_arg (.tail _ (.head _)))), (hW.outSrc 0 rfl (src_arg (.tail _ (.tail _ (.head _))))), hW.fr⟩)
 have h7 := of_decide_eq_false h7
 first
 | (exfalso; clear hA hW; omega)
 | (
  refine wp_skip ?_
  refine thenN ?_
  refine wp_seq ?_
  refine wp_seq ?_
  refine wp_region_lit ?_
  refine st_q (Value.agg #[Value.int .i64 x.g, Value.int .i64 x.kind, Value.int .i64 x.site.f, Value.int .i64 x.site.pc, Value.int .u32 x.addr, Value.int .i64 x.child, Value.int .i64 x.obj, Value.int .i64 x.n, Value.int .i64 x.trap]) hA hW.cls (Rd.load (b := b3) (i := 0) (by kernel_rfl) (fun _ hw => (hw.1).cel 1 rfl) (by kernel_rfl)) ?_; clear hA ac; intro ac hA
  refine st_s hA (Runs.callN (v := Value.bool (evOk x)) (fun _ => by kernel_rfl) hW (e_r16right x w6 (by first | omega | assumption | exact hkx_)) ?_); clear hA ac hW; intro w9 hW hfw9 ac hA
  refine st_p (Value.bool (!(evOk x))) hA ?_; clear hA ac; intro ac hA
  refine wpList_nil ?_
  refine thenN ?_
  refine wp_cond_split (t := !(evOk x)) (hA.eval (by kernel_rfl)) (fun h10 => ?_) (fun h10 => ?_)
  ·
   have h10 := not_t h10
   first
   | (exfalso; clear hA hW; omega)
   | (
    refine wp_seq ?_
    refine wp_region_lit ?_
    refine st_q (Value.agg #[Value.slice A_L L.length c_L, Value.slice A_B B.length c_B]) hA hW.cls (Rd.load (b := b1) (i := 0) (by kernel_rfl) (fun _ hw => (hw.1).cel 2 rfl) (by kernel_rfl)) ?_; clear hA ac; intro ac hA
    refine st_s hA (Runs.store (v := Value.agg #[Value.slice A_L L.length c_L, Value.slice A_B B.length c_B]) (b := b5) (j := 0) (n := 2) (cs' := #[Value.slice A_L L.length c_L, Value.slice A_B B.length c_B]) (H' := [Cel b5 #[Value.slice A_L L.length c_L, Value.slice A_B B.length c_B] 31, Cel b3 #[Value.int .i64 x.g, Value.int .i64 x.kind, Value.int .i64 x.site.f, Value.int .i64 x.site.pc, Value.int .u32 x.addr, Value.int .i64 x.child, Value.int .i64 x.obj, Value.int .i64 x.n, Value.int .i64 x.trap] 50, Cel b1 #[Value.slice A_L L.length c_L, Value.slice A_B B.length c_B] 31]) (by kernel_rfl) (by kernel_rfl) (by kernel_rfl) (by kernel_rfl) (by kernel_rfl) hW 0 (by rfl) (Nat.le_of_ble_eq_true (by kernel_rfl)) (by kernel_rfl) (by rfl) ?_); clear hA ac hW; intro w11 hW ac hA
    refine st_p (Value.int .i64 2) hA ?_; clear hA ac; intro ac hA
    refine wpList_nil ?_
    refine thenN ?_
    refine wp_ret ?_
    refine thenR ?_
    refine ret2 (v1 := Value.agg #[Value.slice A_L L.length c_L, Value.slice A_B B.length c_B]) (v2 := Value.int .i64 2) (by rfl) hA (Got.cell (b := b5) (i := 0) hA (by kernel_rfl) (by kernel_rfl) (hW.cel 0 rfl) (by kernel_rfl)) (Got.tmp hA (by kernel_rfl) (by kernel_rfl)) ?_
    clear hA
    exact ⟨2, L, B, A_L, c_L, A_B, c_B, by first | rfl | (simp; done), by exact addE_no2 (by omega) (fun q_ => by have q2_ := decide_eq_true q_; first | exact absurd (q2_.symm.trans (show evOk x = false from by first | exact h10 | simpa using h10)) (by decide)), by exact hB, (by first | assumption | omega | (simp; omega) | simp), (by first | assumption | omega | (simp; omega) | simp), hk_B, (hW.outSrc 2 rfl (src_arg (.head _))), (hW.outSrc 1 rfl (src_arg (.tail _ (.head _)))), (hW.outSrc 0 rfl (src_arg (.tail _ (.tail _ (.head _))))), hW.fr⟩)
  have h10 := not_f h10
  first
  | (exfalso; clear hA hW; omega)
  | (
   refine wp_skip ?_
   refine thenN ?_
   refine wp_seq ?_
   have hxo_ : EvOk x := of_decide_eq_true (show evOk x = true from by first | exact h10 | simpa using h10)
   refine wp_region_lit ?_
   refine st_p (Value.int .i64 ((L.length : Nat) : Int)) hA ?_; clear hA ac; intro ac hA
   refine st_s hA (Runs.makeSlice (E := 4) (sz := 1) (en := enBo) (n := L.length) (bytes := 1) (z0 := Value.bool false) (false : Bool) (by kernel_rfl) (by kernel_rfl) (by kernel_rfl) elt_Bo (by kernel_rfl) (by kernel_rfl) (by omega) (by omega) (by simp only [maxLen]; omega) hW ?_); clear hA ac hW; intro b12 w13 hW hfw13 ac hA
   refine st_p (Value.slice (some ⟨b12, 0, none⟩) L.length L.length) hA ?_; clear hA ac; intro ac hA
   refine wpList_nil ?_
   refine thenN ?_
   refine wp_seq ?_
   refine wp_seq ?_
   refine wp_region_lit ?_
   refine st_p (Value.int .i64 ((L.length : Nat) : Int)) hA fun ac hA => st_q (Value.int .i64 ((((L.length : Nat) : Int) : Int) - 1)) hA hW.cls (Rd.pureE (v0 := Value.int .i64 (IntKind.i64.wrap ((((L.length : Nat) : Int) : Int) - 1))) (fun _ => by kernel_rfl) (congrArg (Value.int .i64) ((w_i64 (x := (((L.length : Nat) : Int) : Int) - 1) (by omega) (by omega)).trans (by omega)))) fun ac hA => st_p (Value.int .i64 ((((L.length : Nat) : Int) : Int) - 1)) hA fun ac hA => ?_
   refine wpList_nil ?_
   refine thenN ?_
   refine wp_block ?_
   refine wp_loop_m (fun m_ ac_ wl_ => ∃ u : Nat, ∃ z : Int, ∃ d : List Bool, m_ = u + 1 ∧ (z = (u : Int) - 1) ∧ (u ≤ L.length) ∧ (0 ≤ u) ∧ (d.length = L.length) ∧ (Under L x u d) ∧ Fm 78 [] [(2, Value.pointer (some ⟨b1, 0, none⟩)), (3, Value.pointer (some ⟨b3, 0, none⟩)), (4, Value.pointer (some ⟨b5, 0, none⟩)), (6, Value.int .i64 ((L.length : Nat) : Int)), (7, Value.slice (some ⟨b12, 0, none⟩) L.length L.length), (8, Value.int .i64 z)] ac_ ∧ Ws w No [rowR 4 1 enBo (Value.slice (some ⟨b12, 0, none⟩) L.length L.length) d, Cel b5 #[Value.slice none 0 0, Value.slice none 0 0] 31, Cel b3 #[Value.int .i64 x.g, Value.int .i64 x.kind, Value.int .i64 x.site.f, Value.int .i64 x.site.pc, Value.int .u32 x.addr, Value.int .i64 x.child, Value.int .i64 x.obj, Value.int .i64 x.n, Value.int .i64 x.trap] 50, Cel b1 #[Value.slice A_L L.length c_L, Value.slice A_B B.length c_B] 31] [nestR innerBV B, roR A_B 1 enBV B, roR A_L 9 enEvent L] wl_) _ ⟨L.length, (((L.length : Nat) : Int) : Int) - 1, List.replicate L.length (false : Bool), rfl, by rfl, by omega, by omega, by simp, by exact Under.start L x, hA.sub (by and_intros <;> first | kernel_rfl | trivial), (hW.pick [0, 1, 2, 3] (by decide) rfl).pickG [0, 1, 2] rfl⟩ ?_
   clear hA ac hW; rintro m_ ac w15 ⟨u, z, d, rfl, hz, hu, hdummy, hdl, hd, hA, hW⟩
   refine wp_seq ?_
   refine wp_seq ?_
   refine wp_region_lit ?_
   refine st_p (Value.int .i64 z) hA fun ac hA => st_p (Value.bool (decide ((z : Int) ≥ (0 : Int)))) hA fun ac hA => ?_
   refine wpList_nil ?_
   refine thenN ?_
   refine wp_cond_split (t := decide ((z : Int) ≥ (0 : Int))) (hA.eval (by kernel_rfl)) (fun h16 => ?_) (fun h16 => ?_)
   ·
    have h16 := of_decide_eq_true h16
    first
    | (exfalso; clear hA hW; omega)
    | (
     refine wp_skip ?_
     refine thenN ?_
     refine wp_seq ?_
     refine wp_block ?_
     refine wp_seq ?_
     refine wp_seq ?_
     refine q_region (by kernel_rfl) (by kernel_rfl) hW ?_
     refine sq_p (Value.pointer (some ⟨b1, 0, none⟩)) hA fun ac hA => sq_q (Value.slice A_L L.length c_L) hA (Rd.load (b := b1) (i := 0) (by kernel_rfl) (fun _ hw => (hw.1).cel 3 rfl) (by kernel_rfl)) fun ac hA => sq_p (Value.int .i64 z) hA fun ac hA => ?_
     obtain ⟨y17, hy17⟩ : ∃ y, L[Int.toNat (z)]? = some y := ⟨_, List.getElem?_eq_getElem (by first | omega | (simp; done) | (simp; omega) | (have := ah_len hB (by assumption); omega))⟩
     obtain ⟨b18, o19, rfl, hbb18⟩ := row_some ((hW).getG 2 rfl) hy17
     refine sq_q (Value.pointer (some ⟨b18, o19 + (Int.toNat (z)) * 9, none⟩)) hA (Rd.indexAddrI (e := 50) (sz := 9) (b := b18) (off := o19) (n := L.length) (c := c_L) (k := z) (by kernel_rfl) (by kernel_rfl) (by omega) (by first | omega | (simp; done) | (simp; omega) | (have := ah_len hB (by assumption); omega)) (fun _ => by kernel_rfl) (fun _ => by kernel_rfl)) fun ac hA => sq_q (Value.agg #[Value.int .i64 y17.g, Value.int .i64 y17.kind, Value.int .i64 y17.site.f, Value.int .i64 y17.site.pc, Value.int .u32 y17.addr, Value.int .i64 y17.child, Value.int .i64 y17.obj, Value.int .i64 y17.n, Value.int .i64 y17.trap]) hA (Rd.loadRow (b := b18) (i := o19 + (Int.toNat (z)) * 9) (xs := [Value.int .i64 y17.g, Value.int .i64 y17.kind, Value.int .i64 y17.site.f, Value.int .i64 y17.site.pc, Value.int .u32 y17.addr, Value.int .i64 y17.child, Value.int .i64 y17.obj, Value.int .i64 y17.n, Value.int .i64 y17.trap]) (by kernel_rfl) (fun _ hw => row_ld ((hw.1).getG 2 rfl) hy17 (Fr.refl No _) (fun h => h) 0 9 (by kernel_rfl)) (by kernel_rfl)) fun ac hA => sq_q (Value.agg #[Value.int .i64 x.g, Value.int .i64 x.kind, Value.int .i64 x.site.f, Value.int .i64 x.site.pc, Value.int .u32 x.addr, Value.int .i64 x.child, Value.int .i64 x.obj, Value.int .i64 x.n, Value.int .i64 x.trap]) hA (Rd.load (b := b3) (i := 0) (by kernel_rfl) (fun _ hw => (hw.1).cel 2 rfl) (by kernel_rfl)) fun ac hA => ?_
     refine sq_call (v := Value.bool (evLeads y17 x)) hA (by kernel_rfl) (by kernel_rfl) (by kernel_rfl) (fun _ => by kernel_rfl) (Cls.callNC fun wx hwx => e_r16leads y17 x wx) ?_; clear hA ac; intro ac hA
     refine sq_p (Value.bool (!(evLeads y17 x))) hA ?_; clear hA ac; intro ac hA
     refine sq_nil ?_; intro w20 hww20; have hW := hww20.1; have hfw20 := hww20.2; clear hww20
     refine thenN ?_
     refine wp_cond_split (t := !(evLeads y17 x)) (hA.eval (by kernel_rfl)) (fun h21 => ?_) (fun h21 => ?_)
     ·
      have h21 := not_t h21
      first
      | (exfalso; clear hA hW; omega)
      | (
       refine wp_exit ?_
       refine thenX ?_
       refine blkX ?_
       refine thenN ?_
       refine wp_region_lit ?_
       refine st_p (Value.int .i64 z) hA fun ac hA => st_q (Value.int .i64 ((z : Int) - 1)) hA hW.cls (Rd.pureE (v0 := Value.int .i64 (IntKind.i64.wrap ((z : Int) - 1))) (fun _ => by kernel_rfl) (congrArg (Value.int .i64) ((w_i64 (x := (z : Int) - 1) (by omega) (by omega)).trans (by omega)))) fun ac hA => st_p (Value.int .i64 ((z : Int) - 1)) hA fun ac hA => ?_
       refine wpList_nil ?_
       refine thenN ?_
       exact ⟨(u - 1) + 1, by omega, u - 1, (z : Int) - 1, d, rfl, by omega, by omega, by omega, by exact hdl, by exact (show Under L x (u - 1 + 1) d from by rw [show u - 1 + 1 = u from by omega]; exact hd).skip (show L[u - 1]? = some y17 from by rw [show u - 1 = Int.toNat z from by omega]; exact hy17) (of_decide_eq_false (show evLeads y17 x = false from by first | exact h21 | simpa using h21)), hA.sub (by and_intros <;> first | kernel_rfl | trivial), (hW.pick [0, 1, 2, 3] (by decide) rfl).pickG [0, 1, 2] rfl⟩)
     have h21 := not_f h21
     first
     | (exfalso; clear hA hW; omega)
     | (
      refine wp_skip ?_
      refine thenN ?_
      refine wp_seq ?_
      refine wp_region_lit ?_
      refine st_p (Value.slice (some ⟨b12, 0, none⟩) L.length L.length) hA fun ac hA => st_p (Value.int .i64 z) hA fun ac hA => ?_
      obtain ⟨y22, hy22⟩ : ∃ y, d[Int.toNat (z)]? = some y := ⟨_, List.getElem?_eq_getElem (by first | omega | (simp; done) | (simp; omega) | (have := ah_len hB (by assumption); omega))⟩
      refine st_q (Value.pointer (some ⟨b12, 0 + (Int.toNat (z)) * 1, none⟩)) hA hW.cls (Rd.indexAddrI (e := 4) (sz := 1) (b := b12) (off := 0) (n := L.length) (c := L.length) (k := z) (by kernel_rfl) (by kernel_rfl) (by omega) (by first | omega | (simp; done) | (simp; omega) | (have := ah_len hB (by assumption); omega)) (fun _ => by kernel_rfl) (fun _ => by kernel_rfl)) ?_; clear hA ac; intro ac hA
      refine st_s hA (Runs.storeRow (E := 4) (sz := 1) (en := enBo) (b := b12) (off := 0) (k := Int.toNat (z)) (n := L.length) (c := L.length) (v := Value.bool true) (true : Bool) elt_Bo (by kernel_rfl) (by kernel_rfl) (by kernel_rfl) (by kernel_rfl) hW (i := 0) rfl (by first | omega | (simp; done) | (simp; omega)) (by first | rfl | omega | (simp; done) | (simp; omega)) ?_); clear hA ac hW; intro w23 hW ac hA
      refine wpList_nil ?_
      refine thenN ?_
      refine wp_seq ?_
      refine wp_region_lit ?_
      refine st_p (Value.int .i64 0) hA ?_; clear hA ac; intro ac hA
      refine wpList_nil ?_
      refine thenN ?_
      refine wp_block ?_
      refine wp_loop_m (fun m_ ac_ wl_ => ∃ v : Nat, ∃ d2 : List Bool, m_ = Int.toNat z - v ∧ ((v : Int) ≤ z) ∧ (d2.length = L.length) ∧ (Under2 L (u - 1) v d d2) ∧ Fm 78 [] [(2, Value.pointer (some ⟨b1, 0, none⟩)), (3, Value.pointer (some ⟨b3, 0, none⟩)), (4, Value.pointer (some ⟨b5, 0, none⟩)), (6, Value.int .i64 ((L.length : Nat) : Int)), (7, Value.slice (some ⟨b12, 0, none⟩) L.length L.length), (8, Value.int .i64 z), (9, Value.int .i64 ((v : Nat) : Int))] ac_ ∧ Ws w No [rowR 4 1 enBo (Value.slice (some ⟨b12, 0, none⟩) L.length L.length) d2, Cel b5 #[Value.slice none 0 0, Value.slice none 0 0] 31, Cel b3 #[Value.int .i64 x.g, Value.int .i64 x.kind, Value.int .i64 x.site.f, Value.int .i64 x.site.pc, Value.int .u32 x.addr, Value.int .i64 x.child, Value.int .i64 x.obj, Value.int .i64 x.n, Value.int .i64 x.trap] 50, Cel b1 #[Value.slice (some ⟨b18, o19, none⟩) L.length c_L, Value.slice A_B B.length c_B] 31] [nestR innerBV B, roR A_B 1 enBV B, roR (some ⟨b18, o19, none⟩) 9 enEvent L] wl_) _ ⟨0, List.set d (Int.toNat (z)) (true : Bool), rfl, by omega, by rw [List.length_set]; exact hdl, by rw [show Int.toNat z = u - 1 from by omega]; exact Under2.start hdl (by omega), hA.sub (by and_intros <;> first | kernel_rfl | trivial), (hW.pick [0, 1, 2, 3] (by decide) rfl).pickG [0, 1, 2] rfl⟩ ?_
      clear hA ac hW; rintro m_ ac w24 ⟨v, d2, rfl, hv, hdl2, hd2, hA, hW⟩
      refine wp_seq ?_
      refine wp_seq ?_
      refine wp_region_lit ?_
      refine st_p (Value.int .i64 ((v : Nat) : Int)) hA fun ac hA => st_p (Value.int .i64 z) hA fun ac hA => st_p (Value.bool (decide ((((v : Nat) : Int) : Int) < (z : Int)))) hA fun ac hA => ?_
      refine wpList_nil ?_
      refine thenN ?_
      refine wp_cond_split (t := decide ((((v : Nat) : Int) : Int) < (z : Int))) (hA.eval (by kernel_rfl)) (fun h25 => ?_) (fun h25 => ?_)
      ·
       have h25 := of_decide_eq_true h25
       first
       | (exfalso; clear hA hW; omega)
       | (
        refine wp_skip ?_
        refine thenN ?_
        refine wp_seq ?_
        refine wp_block ?_
        refine wp_region_lit ?_
        refine st_p (Value.slice (some ⟨b12, 0, none⟩) L.length L.length) hA fun ac hA => st_p (Value.int .i64 ((v : Nat) : Int)) hA fun ac hA => st_p (Value.slice (some ⟨b12, 0, none⟩) L.length L.length) hA fun ac hA => st_p (Value.int .i64 ((v : Nat) : Int)) hA fun ac hA => ?_
        obtain ⟨y26, hy26⟩ : ∃ y, d2[v]? = some y := ⟨_, List.getElem?_eq_getElem (by first | omega | (simp; done) | (simp; omega) | (have := ah_len hB (by assumption); omega))⟩
        refine st_q (Value.pointer (some ⟨b12, 0 + v * 1, none⟩)) hA hW.cls (Rd.indexAddr (e := 4) (sz := 1) (b := b12) (off := 0) (n := L.length) (c := L.length) (k := v) (by kernel_rfl) (by kernel_rfl) (by first | omega | (simp; done) | (simp; omega) | (have := ah_len hB (by assumption); omega)) (fun _ => by kernel_rfl) (fun _ => by kernel_rfl)) fun ac hA => st_q (Value.bool y26) hA hW.cls (Rd.loadRow (b := b12) (i := 0 + v * 1) (xs := [Value.bool y26]) (by kernel_rfl) (fun _ hw => row_ld (rowR_at ((hw.1).get 0 rfl) elt_Bo.len) hy26 (Fr.refl No _) (fun h => h) 0 1 (by kernel_rfl)) (by kernel_rfl)) fun ac hA => st_p (Value.bool y26) hA fun ac hA => ?_
        rcases Bool.eq_false_or_eq_true (y26) with h27 | h27
        ·
         rw [h27] at hA
         first
         | (exfalso; clear hA hW; omega)
         | (
          refine st_k hA fun ac hA => st_k hA fun ac hA => st_k hA fun ac hA => st_k hA fun ac hA => st_k hA fun ac hA => st_k hA fun ac hA => st_k hA fun ac hA => st_k hA fun ac hA => st_p (Value.bool true) hA fun ac hA => st_q (Value.pointer (some ⟨b12, 0 + v * 1, none⟩)) hA hW.cls (Rd.indexAddr (e := 4) (sz := 1) (b := b12) (off := 0) (n := L.length) (c := L.length) (k := v) (by kernel_rfl) (by kernel_rfl) (by first | omega | (simp; done) | (simp; omega) | (have := ah_len hB (by assumption); omega)) (fun _ => by kernel_rfl) (fun _ => by kernel_rfl)) fun ac hA => ?_
          refine st_s hA (Runs.storeRow (E := 4) (sz := 1) (en := enBo) (b := b12) (off := 0) (k := v) (n := L.length) (c := L.length) (v := Value.bool true) (true : Bool) elt_Bo (by kernel_rfl) (by kernel_rfl) (by kernel_rfl) (by kernel_rfl) hW (i := 0) rfl (by first | omega | (simp; done) | (simp; omega)) (by first | rfl | omega | (simp; done) | (simp; omega)) ?_); clear hA ac hW; intro w28 hW ac hA
          refine wpList_nil ?_
          refine blkN ?_
          refine thenN ?_
          refine wp_region_lit ?_
          refine st_p (Value.int .i64 ((v : Nat) : Int)) hA fun ac hA => st_q (Value.int .i64 ((v + 1 : Nat) : Int)) hA hW.cls (Rd.pureE (v0 := Value.int .i64 (IntKind.i64.wrap ((((v : Nat) : Int) : Int) + 1))) (fun _ => by kernel_rfl) (congrArg (Value.int .i64) ((w_i64 (x := (((v : Nat) : Int) : Int) + 1) (by omega) (by omega)).trans (by omega)))) fun ac hA => st_p (Value.int .i64 ((v + 1 : Nat) : Int)) hA fun ac hA => ?_
          refine wpList_nil ?_
          refine thenN ?_
          exact ⟨Int.toNat z - (v + 1), by omega, v + 1, List.set d2 v (true : Bool), rfl, by omega, by rw [List.length_set]; exact hdl2, by exact hd2.step hdl2 (by omega) (b := true) ⟨fun _ => .inl (by rw [hy26, h27]), fun _ => rfl⟩, hA.sub (by and_intros <;> first | kernel_rfl | trivial), (hW.pick [0, 1, 2, 3] (by decide) rfl).pickG [0, 1, 2] rfl⟩)
        rw [h27] at hA
        first
        | (exfalso; clear hA hW; omega)
        | (
         refine st_p (Value.pointer (some ⟨b1, 1, none⟩)) hA fun ac hA => st_q (Value.slice A_B B.length c_B) hA hW.cls (Rd.load (b := b1) (i := 1) (by kernel_rfl) (fun _ hw => (hw.1).cel 3 rfl) (by kernel_rfl)) fun ac hA => st_p (Value.int .i64 z) hA fun ac hA => ?_
         obtain ⟨y29, hy29⟩ : ∃ y, B[Int.toNat (z)]? = some y := ⟨_, List.getElem?_eq_getElem (by first | omega | (simp; done) | (simp; omega) | (have := ah_len hB (by assumption); omega))⟩
         rcases y29 with ⟨y29_l, y29_l_A, y29_l_c⟩
         obtain ⟨b30, o31, rfl, hbb30⟩ := row_some ((hW).getG 1 rfl) hy29
         refine st_q (Value.pointer (some ⟨b30, o31 + (Int.toNat (z)) * 1, none⟩)) hA hW.cls (Rd.indexAddrI (e := 76) (sz := 1) (b := b30) (off := o31) (n := B.length) (c := c_B) (k := z) (by kernel_rfl) (by kernel_rfl) (by omega) (by first | omega | (simp; done) | (simp; omega) | (have := ah_len hB (by assumption); omega)) (fun _ => by kernel_rfl) (fun _ => by kernel_rfl)) ?_; clear hA ac; intro ac hA
         have hW := hW.nestAt 0 rfl (List.mem_of_getElem? hy29)
         have hc_y29_l : y29_l.length ≤ y29_l_c := hk_B _ (List.mem_of_getElem? hy29)
         have hsy29_l : Res.src (roR y29_l_A 1 enBo y29_l) [roR (some ⟨b18, o19, none⟩) 9 enEvent L, roR (some ⟨b30, o31, none⟩) 1 enBV B, nestR innerBV B] w := nsrc_at (inner := innerBV) (x := (⟨y29_l, y29_l_A, y29_l_c⟩ : BV)) (src_arg (.tail _ (.tail _ (.head _)))) (List.mem_of_getElem? hy29)
         replace hW : Ws w No [rowR 4 1 enBo (Value.slice (some ⟨b12, 0, none⟩) L.length L.length) d2, Cel b5 #[Value.slice none 0 0, Value.slice none 0 0] 31, Cel b3 #[Value.int .i64 x.g, Value.int .i64 x.kind, Value.int .i64 x.site.f, Value.int .i64 x.site.pc, Value.int .u32 x.addr, Value.int .i64 x.child, Value.int .i64 x.obj, Value.int .i64 x.n, Value.int .i64 x.trap] 50, Cel b1 #[Value.slice (some ⟨b18, o19, none⟩) L.length c_L, Value.slice (some ⟨b30, o31, none⟩) B.length c_B] 31] [roR y29_l_A 1 enBo y29_l, nestR innerBV B, roR (some ⟨b30, o31, none⟩) 1 enBV B, roR (some ⟨b18, o19, none⟩) 9 enEvent L] w24 := hW
         refine st_q (Value.slice y29_l_A y29_l.length y29_l_c) hA hW.cls (Rd.loadRow (b := b30) (i := o31 + (Int.toNat (z)) * 1) (xs := [Value.slice y29_l_A y29_l.length y29_l_c]) (by kernel_rfl) (fun _ hw => row_ld ((hw.1).getG 2 rfl) hy29 (Fr.refl No _) (fun h => h) 0 1 (by kernel_rfl)) (by kernel_rfl)) fun ac hA => st_p (Value.int .i64 ((v : Nat) : Int)) hA fun ac hA => ?_
         obtain ⟨y32, hy32⟩ : ∃ y, y29_l[v]? = some y := ⟨_, List.getElem?_eq_getElem (by first | omega | (simp; done) | (simp; omega) | (have := ah_len hB (by assumption); omega))⟩
         obtain ⟨b33, o34, rfl, hbb33⟩ := row_some ((hW).getG 0 rfl) hy32
         refine st_q (Value.pointer (some ⟨b33, o34 + v * 1, none⟩)) hA hW.cls (Rd.indexAddr (e := 4) (sz := 1) (b := b33) (off := o34) (n := y29_l.length) (c := y29_l_c) (k := v) (by kernel_rfl) (by kernel_rfl) (by first | omega | (simp; done) | (simp; omega) | (have := ah_len hB (by assumption); omega)) (fun _ => by kernel_rfl) (fun _ => by kernel_rfl)) fun ac hA => st_q (Value.bool y32) hA hW.cls (Rd.loadRow (b := b33) (i := o34 + v * 1) (xs := [Value.bool y32]) (by kernel_rfl) (fun _ hw => row_ld ((hw.1).getG 0 rfl) hy32 (Fr.refl No _) (fun h => h) 0 1 (by kernel_rfl)) (by kernel_rfl)) fun ac hA => st_p (Value.bool y32) hA fun ac hA => st_q (Value.pointer (some ⟨b12, 0 + v * 1, none⟩)) hA hW.cls (Rd.indexAddr (e := 4) (sz := 1) (b := b12) (off := 0) (n := L.length) (c := L.length) (k := v) (by kernel_rfl) (by kernel_rfl) (by first | omega | (simp; done) | (simp; omega) | (have := ah_len hB (by assumption); omega)) (fun _ => by kernel_rfl) (fun _ => by kernel_rfl)) fun ac hA => ?_
         refine st_s hA (Runs.storeRow (E := 4) (sz := 1) (en := enBo) (b := b12) (off := 0) (k := v) (n := L.length) (c := L.length) (v := Value.bool y32) (y32 : Bool) elt_Bo (by kernel_rfl) (by kernel_rfl) (by kernel_rfl) (by kernel_rfl) hW (i := 0) rfl (by first | omega | (simp; done) | (simp; omega)) (by first | rfl | omega | (simp; done) | (simp; omega)) ?_); clear hA ac hW; intro w35 hW ac hA
         refine wpList_nil ?_
         refine blkN ?_
         refine thenN ?_
         refine wp_region_lit ?_
         refine st_p (Value.int .i64 ((v : Nat) : Int)) hA fun ac hA => st_q (Value.int .i64 ((v + 1 : Nat) : Int)) hA hW.cls (Rd.pureE (v0 := Value.int .i64 (IntKind.i64.wrap ((((v : Nat) : Int) : Int) + 1))) (fun _ => by kernel_rfl) (congrArg (Value.int .i64) ((w_i64 (x := (((v : Nat) : Int) : Int) + 1) (by omega) (by omega)).trans (by omega)))) fun ac hA => st_p (Value.int .i64 ((v + 1 : Nat) : Int)) hA fun ac hA => ?_
         refine wpList_nil ?_
         refine thenN ?_
         exact ⟨Int.toNat z - (v + 1), by omega, v + 1, List.set d2 v (y32 : Bool), rfl, by omega, by rw [List.length_set]; exact hdl2, by exact hd2.step hdl2 (by omega) (b := y32) (by rw [hy26, h27]; have q_ := ah_el hB (show B[u - 1]? = some _ from by rw [show u - 1 = Int.toNat z from by omega]; exact hy29) hy32; rw [q_]; simp), hA.sub (by and_intros <;> first | kernel_rfl | trivial), (hW.pick [0, 1, 2, 3] (by decide) rfl).pickG [1, 2, 3] rfl⟩))
      have h25 := of_decide_eq_false h25
      first
      | (exfalso; clear hA hW; omega)
      | (
       refine wp_exit ?_
       refine thenX ?_
       refine thenX ?_
       refine blkX ?_
       refine blkN ?_
       refine thenN ?_
       refine wp_region_lit ?_
       refine st_p (Value.int .i64 z) hA fun ac hA => st_q (Value.int .i64 ((z : Int) - 1)) hA hW.cls (Rd.pureE (v0 := Value.int .i64 (IntKind.i64.wrap ((z : Int) - 1))) (fun _ => by kernel_rfl) (congrArg (Value.int .i64) ((w_i64 (x := (z : Int) - 1) (by omega) (by omega)).trans (by omega)))) fun ac hA => st_p (Value.int .i64 ((z : Int) - 1)) hA fun ac hA => ?_
       refine wpList_nil ?_
       refine thenN ?_
       exact ⟨(u - 1) + 1, by omega, u - 1, (z : Int) - 1, d2, rfl, by omega, by omega, by omega, by exact hdl2, by exact (show Under L x (u - 1 + 1) d from by rw [show u - 1 + 1 = u from by omega]; exact hd).next (show L[u - 1]? = some y17 from by rw [show u - 1 = Int.toNat z from by omega]; exact hy17) (of_decide_eq_true (show evLeads y17 x = true from by first | exact h21 | simpa using h21)) hd2 (by omega), hA.sub (by and_intros <;> first | kernel_rfl | trivial), (hW.pick [0, 1, 2, 3] (by decide) rfl).pickG [0, 1, 2] rfl⟩)))
   have h16 := of_decide_eq_false h16
   first
   | (exfalso; clear hA hW; omega)
   | (
    refine wp_exit ?_
    refine thenX ?_
    refine thenX ?_
    refine blkX ?_
    refine thenN ?_
    refine wp_seq ?_
    refine wp_cut (fun ac_ wl_ => ∃ Ar16_3 : Option Addr, ∃ Ar16_6 : Option Addr, ∃ br16_0 : Nat, ∃ br16_5 : Nat, ∃ cr16_3 : Nat, ∃ cr16_6 : Nat, ((([] : List Event) ++ L).length ≤ cr16_3) ∧ (((([] : List Event) ++ L) ++ ([x] : List Event)).length ≤ cr16_6) ∧ Fm 78 [] [(2, Value.pointer (some ⟨b1, 0, none⟩)), (3, Value.pointer (some ⟨b3, 0, none⟩)), (4, Value.pointer (some ⟨b5, 0, none⟩)), (6, Value.int .i64 ((L.length : Nat) : Int)), (7, Value.slice (some ⟨b12, 0, none⟩) L.length L.length), (8, Value.int .i64 z), (24, Value.int .i64 z), (25, Value.bool (decide ((z : Int) ≥ (0 : Int))))] ac_ ∧ Ws w No [Cel br16_5 #[Value.int .i64 x.g, Value.int .i64 x.kind, Value.int .i64 x.site.f, Value.int .i64 x.site.pc, Value.int .u32 x.addr, Value.int .i64 x.child, Value.int .i64 x.obj, Value.int .i64 x.n, Value.int .i64 x.trap] 50, rowR 50 9 enEvent (Value.slice Ar16_6 ((([] : List Event) ++ L) ++ ([x] : List Event)).length cr16_6) ((([] : List Event) ++ L) ++ ([x] : List Event)), rowR 4 1 enBo (Value.slice (some ⟨b12, 0, none⟩) L.length L.length) d, Cel b5 #[Value.slice none 0 0, Value.slice none 0 0] 31, Cel b3 #[Value.int .i64 x.g, Value.int .i64 x.kind, Value.int .i64 x.site.f, Value.int .i64 x.site.pc, Value.int .u32 x.addr, Value.int .i64 x.child, Value.int .i64 x.obj, Value.int .i64 x.n, Value.int .i64 x.trap] 50, Cel b1 #[Value.slice Ar16_6 ((([] : List Event) ++ L) ++ ([x] : List Event)).length cr16_6, Value.slice A_B B.length c_B] 31] [nestR innerBV B, roR A_B 1 enBV B, roR A_L 9 enEvent L] wl_) ?_ ?_
    · refine sr_region (m := 9) (C := Ws w No [rowR 4 1 enBo (Value.slice (some ⟨b12, 0, none⟩) L.length L.length) d, Cel b5 #[Value.slice none 0 0, Value.slice none 0 0] 31, Cel b3 #[Value.int .i64 x.g, Value.int .i64 x.kind, Value.int .i64 x.site.f, Value.int .i64 x.site.pc, Value.int .u32 x.addr, Value.int .i64 x.child, Value.int .i64 x.obj, Value.int .i64 x.n, Value.int .i64 x.trap] 50, Cel b1 #[Value.slice A_L L.length c_L, Value.slice A_B B.length c_B] 31] [nestR innerBV B, roR A_B 1 enBV B, roR A_L 9 enEvent L]) (fun i => [2, 4].contains i) (fun i => [0, 2, 3, 4, 5].contains i) (fun i => [1, 7].contains i) (by kernel_rfl) (by kernel_rfl) (by kernel_rfl) (by kernel_rfl) hW ?_; clear hW; intro w36 hW hfw36 hR; have hC : Ws w No [rowR 4 1 enBo (Value.slice (some ⟨b12, 0, none⟩) L.length L.length) d, Cel b5 #[Value.slice none 0 0, Value.slice none 0 0] 31, Cel b3 #[Value.int .i64 x.g, Value.int .i64 x.kind, Value.int .i64 x.site.f, Value.int .i64 x.site.pc, Value.int .u32 x.addr, Value.int .i64 x.child, Value.int .i64 x.obj, Value.int .i64 x.n, Value.int .i64 x.trap] 50, Cel b1 #[Value.slice A_L L.length c_L, Value.slice A_B B.length c_B] 31] [nestR innerBV B, roR A_B 1 enBV B, roR A_L 9 enEvent L] w36 := hW.pick [0, 1, 2, 3] (by decide) rfl
      refine sr_p 1 (Value.pointer (some ⟨b1, 0, none⟩)) hR rfl hA fun ac hA => sr_t 2 (Value.slice A_L L.length c_L) hR rfl hA hC (Rd.load (b := b1) (i := 0) (by kernel_rfl) (fun _ hw => (hw).cel 3 rfl) (by kernel_rfl)) fun ac hA => sr_t 4 (Value.agg #[Value.int .i64 x.g, Value.int .i64 x.kind, Value.int .i64 x.site.f, Value.int .i64 x.site.pc, Value.int .u32 x.addr, Value.int .i64 x.child, Value.int .i64 x.obj, Value.int .i64 x.n, Value.int .i64 x.trap]) hR rfl hA hC (Rd.load (b := b3) (i := 0) (by kernel_rfl) (fun _ hw => (hw).cel 2 rfl) (by kernel_rfl)) fun ac hA => ?_
      refine sr_two (i := 0) (j := 5) (by kernel_rfl) ?_ ?_
      ·
       refine (sr_d rfl hA (Runs.cells (fun b => Value.slice (some ⟨b, 0, none⟩) 0 0) #[] 50 (fun _ => by kernel_rfl) hW ?_)); clear hA ac hW; intro br16_0 w37 hW hbr16_0 hfw37 ac hA
       refine ⟨⟨fun _ => (hW.pick [1, 2, 3, 4] (by decide) rfl).pickG [0, 1, 2] rfl, fun h => absurd h (by decide)⟩, ?_⟩; have hC : Ws w No [rowR 4 1 enBo (Value.slice (some ⟨b12, 0, none⟩) L.length L.length) d, Cel b5 #[Value.slice none 0 0, Value.slice none 0 0] 31, Cel b3 #[Value.int .i64 x.g, Value.int .i64 x.kind, Value.int .i64 x.site.f, Value.int .i64 x.site.pc, Value.int .u32 x.addr, Value.int .i64 x.child, Value.int .i64 x.obj, Value.int .i64 x.n, Value.int .i64 x.trap] 50, Cel b1 #[Value.slice A_L L.length c_L, Value.slice A_B B.length c_B] 31] [nestR innerBV B, roR A_B 1 enBV B, roR A_L 9 enEvent L] w37 := (hW.pick [1, 2, 3, 4] (by decide) rfl).pickG [0, 1, 2] rfl
       refine sr_two (i := 3) (j := 5) (by kernel_rfl) ?_ ?_
       ·
        have hW := hW.celRow (en := enEvent) (H' := [rowR 50 9 enEvent (Value.slice (some ⟨br16_0, 0, none⟩) ([] : List Event).length ([] : List Event).length) ([] : List Event), rowR 4 1 enBo (Value.slice (some ⟨b12, 0, none⟩) L.length L.length) d, Cel b5 #[Value.slice none 0 0, Value.slice none 0 0] 31, Cel b3 #[Value.int .i64 x.g, Value.int .i64 x.kind, Value.int .i64 x.site.f, Value.int .i64 x.site.pc, Value.int .u32 x.addr, Value.int .i64 x.child, Value.int .i64 x.obj, Value.int .i64 x.n, Value.int .i64 x.trap] 50, Cel b1 #[Value.slice A_L L.length c_L, Value.slice A_B B.length c_B] 31]) 0 rfl ([] : List Event) (by rfl) elt_Event.len (by decide) rfl
        refine (sr_d rfl hA (Runs.appOwn (B := A_L) (k := c_L) (E := 50) (sz := 9) (en := enEvent) (l := ([] : List Event)) (m := L) (i := 0) (by kernel_rfl) (by kernel_rfl) elt_Event (by kernel_rfl) hW rfl ((hW).getG 2 rfl) (by first | omega | (simp; done) | (simp; omega)) (by first | omega | (simp; done) | (simp; omega)) ?_)); clear hA ac hW; intro Ar16_3 cr16_3 w38 hW hccr16_3 ac hA
        refine ⟨⟨fun _ => (hW.pick [1, 2, 3, 4] (by decide) rfl).pickG [0, 1, 2] rfl, fun h => absurd h (by decide)⟩, ?_⟩; have hC : Ws w No [rowR 4 1 enBo (Value.slice (some ⟨b12, 0, none⟩) L.length L.length) d, Cel b5 #[Value.slice none 0 0, Value.slice none 0 0] 31, Cel b3 #[Value.int .i64 x.g, Value.int .i64 x.kind, Value.int .i64 x.site.f, Value.int .i64 x.site.pc, Value.int .u32 x.addr, Value.int .i64 x.child, Value.int .i64 x.obj, Value.int .i64 x.n, Value.int .i64 x.trap] 50, Cel b1 #[Value.slice A_L L.length c_L, Value.slice A_B B.length c_B] 31] [nestR innerBV B, roR A_B 1 enBV B, roR A_L 9 enEvent L] w38 := (hW.pick [1, 2, 3, 4] (by decide) rfl).pickG [0, 1, 2] rfl
        refine sr_one (i := 5) (by kernel_rfl) (sr_d rfl hA (Runs.cells (fun b => Value.slice (some ⟨b, 0, none⟩) 1 1) #[Value.int .i64 x.g, Value.int .i64 x.kind, Value.int .i64 x.site.f, Value.int .i64 x.site.pc, Value.int .u32 x.addr, Value.int .i64 x.child, Value.int .i64 x.obj, Value.int .i64 x.n, Value.int .i64 x.trap] 50 (fun _ => by kernel_rfl) hW ?_)); clear hA ac hW; intro br16_5 w39 hW hbr16_5 hfw39 ac hA
        refine ⟨⟨fun _ => (hW.pick [2, 3, 4, 5] (by decide) rfl).pickG [0, 1, 2] rfl, fun h => absurd h (by decide)⟩, ?_⟩; have hC : Ws w No [rowR 4 1 enBo (Value.slice (some ⟨b12, 0, none⟩) L.length L.length) d, Cel b5 #[Value.slice none 0 0, Value.slice none 0 0] 31, Cel b3 #[Value.int .i64 x.g, Value.int .i64 x.kind, Value.int .i64 x.site.f, Value.int .i64 x.site.pc, Value.int .u32 x.addr, Value.int .i64 x.child, Value.int .i64 x.obj, Value.int .i64 x.n, Value.int .i64 x.trap] 50, Cel b1 #[Value.slice A_L L.length c_L, Value.slice A_B B.length c_B] 31] [nestR innerBV B, roR A_B 1 enBV B, roR A_L 9 enEvent L] w39 := (hW.pick [2, 3, 4, 5] (by decide) rfl).pickG [0, 1, 2] rfl
        refine sr_one (i := 6) (by kernel_rfl) (sr_d rfl hA (Runs.appOwn (B := (some ⟨br16_5, 0, none⟩)) (k := 1) (E := 50) (sz := 9) (en := enEvent) (l := (([] : List Event) ++ L)) (m := ([x] : List Event)) (i := 1) (by kernel_rfl) (by kernel_rfl) elt_Event (by kernel_rfl) hW rfl (rowAt_cel ((hW).cel 0 rfl) ([x] : List Event) (by rfl) elt_Event.len) (by first | omega | (simp; done) | (simp; omega)) (by first | omega | (simp; done) | (simp; omega)) ?_)); clear hA ac hW; intro Ar16_6 cr16_6 w40 hW hccr16_6 ac hA
        refine qn ?_
        refine sr_p 7 (Value.pointer (some ⟨b1, 0, none⟩)) hR rfl hA ?_; clear hA ac; intro ac hA
        refine sr_one (i := 8) (by kernel_rfl) (sr_d rfl hA (Runs.store (v := Value.slice Ar16_6 ((([] : List Event) ++ L) ++ ([x] : List Event)).length cr16_6) (b := b1) (j := 0) (n := 1) (cs' := #[Value.slice Ar16_6 ((([] : List Event) ++ L) ++ ([x] : List Event)).length cr16_6, Value.slice A_B B.length c_B]) (H' := [Cel br16_5 #[Value.int .i64 x.g, Value.int .i64 x.kind, Value.int .i64 x.site.f, Value.int .i64 x.site.pc, Value.int .u32 x.addr, Value.int .i64 x.child, Value.int .i64 x.obj, Value.int .i64 x.n, Value.int .i64 x.trap] 50, rowR 50 9 enEvent (Value.slice Ar16_6 ((([] : List Event) ++ L) ++ ([x] : List Event)).length cr16_6) ((([] : List Event) ++ L) ++ ([x] : List Event)), rowR 4 1 enBo (Value.slice (some ⟨b12, 0, none⟩) L.length L.length) d, Cel b5 #[Value.slice none 0 0, Value.slice none 0 0] 31, Cel b3 #[Value.int .i64 x.g, Value.int .i64 x.kind, Value.int .i64 x.site.f, Value.int .i64 x.site.pc, Value.int .u32 x.addr, Value.int .i64 x.child, Value.int .i64 x.obj, Value.int .i64 x.n, Value.int .i64 x.trap] 50, Cel b1 #[Value.slice Ar16_6 ((([] : List Event) ++ L) ++ ([x] : List Event)).length cr16_6, Value.slice A_B B.length c_B] 31]) (by kernel_rfl) (by kernel_rfl) (by kernel_rfl) (by kernel_rfl) (by kernel_rfl) hW 5 (by rfl) (Nat.le_of_ble_eq_true (by kernel_rfl)) (by kernel_rfl) (by rfl) ?_)); clear hA ac hW; intro w41 hW ac hA
        refine qn ?_
        refine sr_done (by kernel_rfl) ?_ _
        exact ⟨Ar16_3, Ar16_6, br16_0, br16_5, cr16_3, cr16_6, hccr16_3, hccr16_6, hA.sub (by and_intros <;> first | kernel_rfl | trivial), (hW.pick [0, 1, 2, 3, 4, 5] (by decide) rfl).pickG [0, 1, 2] rfl⟩
       ·
        refine (sr_d rfl hA (Runs.cells (fun b => Value.slice (some ⟨b, 0, none⟩) 1 1) #[Value.int .i64 x.g, Value.int .i64 x.kind, Value.int .i64 x.site.f, Value.int .i64 x.site.pc, Value.int .u32 x.addr, Value.int .i64 x.child, Value.int .i64 x.obj, Value.int .i64 x.n, Value.int .i64 x.trap] 50 (fun _ => by kernel_rfl) hW ?_)); clear hA ac hW; intro br16_5 w42 hW hbr16_5 hfw42 ac hA
        refine ⟨⟨fun _ => (hW.pick [2, 3, 4, 5] (by decide) rfl).pickG [0, 1, 2] rfl, fun h => absurd h (by decide)⟩, ?_⟩; have hC : Ws w No [rowR 4 1 enBo (Value.slice (some ⟨b12, 0, none⟩) L.length L.length) d, Cel b5 #[Value.slice none 0 0, Value.slice none 0 0] 31, Cel b3 #[Value.int .i64 x.g, Value.int .i64 x.kind, Value.int .i64 x.site.f, Value.int .i64 x.site.pc, Value.int .u32 x.addr, Value.int .i64 x.child, Value.int .i64 x.obj, Value.int .i64 x.n, Value.int .i64 x.trap] 50, Cel b1 #[Value.slice A_L L.length c_L, Value.slice A_B B.length c_B] 31] [nestR innerBV B, roR A_B 1 enBV B, roR A_L 9 enEvent L] w42 := (hW.pick [2, 3, 4, 5] (by decide) rfl).pickG [0, 1, 2] rfl
        have hW := hW.celRow (en := enEvent) (H' := [Cel br16_5 #[Value.int .i64 x.g, Value.int .i64 x.kind, Value.int .i64 x.site.f, Value.int .i64 x.site.pc, Value.int .u32 x.addr, Value.int .i64 x.child, Value.int .i64 x.obj, Value.int .i64 x.n, Value.int .i64 x.trap] 50, rowR 50 9 enEvent (Value.slice (some ⟨br16_0, 0, none⟩) ([] : List Event).length ([] : List Event).length) ([] : List Event), rowR 4 1 enBo (Value.slice (some ⟨b12, 0, none⟩) L.length L.length) d, Cel b5 #[Value.slice none 0 0, Value.slice none 0 0] 31, Cel b3 #[Value.int .i64 x.g, Value.int .i64 x.kind, Value.int .i64 x.site.f, Value.int .i64 x.site.pc, Value.int .u32 x.addr, Value.int .i64 x.child, Value.int .i64 x.obj, Value.int .i64 x.n, Value.int .i64 x.trap] 50, Cel b1 #[Value.slice A_L L.length c_L, Value.slice A_B B.length c_B] 31]) 1 rfl ([] : List Event) (by rfl) elt_Event.len (by decide) rfl
        refine sr_one (i := 3) (by kernel_rfl) (sr_d rfl hA (Runs.appOwn (B := A_L) (k := c_L) (E := 50) (sz := 9) (en := enEvent) (l := ([] : List Event)) (m := L) (i := 1) (by kernel_rfl) (by kernel_rfl) elt_Event (by kernel_rfl) hW rfl ((hW).getG 2 rfl) (by first | omega | (simp; done) | (simp; omega)) (by first | omega | (simp; done) | (simp; omega)) ?_)); clear hA ac hW; intro Ar16_3 cr16_3 w43 hW hccr16_3 ac hA
        refine ⟨⟨fun _ => (hW.pick [2, 3, 4, 5] (by decide) rfl).pickG [0, 1, 2] rfl, fun h => absurd h (by decide)⟩, ?_⟩; have hC : Ws w No [rowR 4 1 enBo (Value.slice (some ⟨b12, 0, none⟩) L.length L.length) d, Cel b5 #[Value.slice none 0 0, Value.slice none 0 0] 31, Cel b3 #[Value.int .i64 x.g, Value.int .i64 x.kind, Value.int .i64 x.site.f, Value.int .i64 x.site.pc, Value.int .u32 x.addr, Value.int .i64 x.child, Value.int .i64 x.obj, Value.int .i64 x.n, Value.int .i64 x.trap] 50, Cel b1 #[Value.slice A_L L.length c_L, Value.slice A_B B.length c_B] 31] [nestR innerBV B, roR A_B 1 enBV B, roR A_L 9 enEvent L] w43 := (hW.pick [2, 3, 4, 5] (by decide) rfl).pickG [0, 1, 2] rfl
        refine sr_one (i := 6) (by kernel_rfl) (sr_d rfl hA (Runs.appOwn (B := (some ⟨br16_5, 0, none⟩)) (k := 1) (E := 50) (sz := 9) (en := enEvent) (l := (([] : List Event) ++ L)) (m := ([x] : List Event)) (i := 1) (by kernel_rfl) (by kernel_rfl) elt_Event (by kernel_rfl) hW rfl (rowAt_cel ((hW).cel 0 rfl) ([x] : List Event) (by rfl) elt_Event.len) (by first | omega | (simp; done) | (simp; omega)) (by first | omega | (simp; done) | (simp; omega)) ?_)); clear hA ac hW; intro Ar16_6 cr16_6 w44 hW hccr16_6 ac hA
        refine qn ?_
        refine sr_p 7 (Value.pointer (some ⟨b1, 0, none⟩)) hR rfl hA ?_; clear hA ac; intro ac hA
        refine sr_one (i := 8) (by kernel_rfl) (sr_d rfl hA (Runs.store (v := Value.slice Ar16_6 ((([] : List Event) ++ L) ++ ([x] : List Event)).length cr16_6) (b := b1) (j := 0) (n := 1) (cs' := #[Value.slice Ar16_6 ((([] : List Event) ++ L) ++ ([x] : List Event)).length cr16_6, Value.slice A_B B.length c_B]) (H' := [Cel br16_5 #[Value.int .i64 x.g, Value.int .i64 x.kind, Value.int .i64 x.site.f, Value.int .i64 x.site.pc, Value.int .u32 x.addr, Value.int .i64 x.child, Value.int .i64 x.obj, Value.int .i64 x.n, Value.int .i64 x.trap] 50, rowR 50 9 enEvent (Value.slice Ar16_6 ((([] : List Event) ++ L) ++ ([x] : List Event)).length cr16_6) ((([] : List Event) ++ L) ++ ([x] : List Event)), rowR 4 1 enBo (Value.slice (some ⟨b12, 0, none⟩) L.length L.length) d, Cel b5 #[Value.slice none 0 0, Value.slice none 0 0] 31, Cel b3 #[Value.int .i64 x.g, Value.int .i64 x.kind, Value.int .i64 x.site.f, Value.int .i64 x.site.pc, Value.int .u32 x.addr, Value.int .i64 x.child, Value.int .i64 x.obj, Value.int .i64 x.n, Value.int .i64 x.trap] 50, Cel b1 #[Value.slice Ar16_6 ((([] : List Event) ++ L) ++ ([x] : List Event)).length cr16_6, Value.slice A_B B.length c_B] 31]) (by kernel_rfl) (by kernel_rfl) (by kernel_rfl) (by kernel_rfl) (by kernel_rfl) hW 5 (by rfl) (Nat.le_of_ble_eq_true (by kernel_rfl)) (by kernel_rfl) (by rfl) ?_)); clear hA ac hW; intro w45 hW ac hA
        refine qn ?_
        refine sr_done (by kernel_rfl) ?_ _
        exact ⟨Ar16_3, Ar16_6, br16_0, br16_5, cr16_3, cr16_6, hccr16_3, hccr16_6, hA.sub (by and_intros <;> first | kernel_rfl | trivial), (hW.pick [0, 1, 2, 3, 4, 5] (by decide) rfl).pickG [0, 1, 2] rfl⟩
      ·
       refine (sr_d rfl hA (Runs.cells (fun b => Value.slice (some ⟨b, 0, none⟩) 1 1) #[Value.int .i64 x.g, Value.int .i64 x.kind, Value.int .i64 x.site.f, Value.int .i64 x.site.pc, Value.int .u32 x.addr, Value.int .i64 x.child, Value.int .i64 x.obj, Value.int .i64 x.n, Value.int .i64 x.trap] 50 (fun _ => by kernel_rfl) hW ?_)); clear hA ac hW; intro br16_5 w46 hW hbr16_5 hfw46 ac hA
       refine ⟨⟨fun _ => (hW.pick [1, 2, 3, 4] (by decide) rfl).pickG [0, 1, 2] rfl, fun h => absurd h (by decide)⟩, ?_⟩; have hC : Ws w No [rowR 4 1 enBo (Value.slice (some ⟨b12, 0, none⟩) L.length L.length) d, Cel b5 #[Value.slice none 0 0, Value.slice none 0 0] 31, Cel b3 #[Value.int .i64 x.g, Value.int .i64 x.kind, Value.int .i64 x.site.f, Value.int .i64 x.site.pc, Value.int .u32 x.addr, Value.int .i64 x.child, Value.int .i64 x.obj, Value.int .i64 x.n, Value.int .i64 x.trap] 50, Cel b1 #[Value.slice A_L L.length c_L, Value.slice A_B B.length c_B] 31] [nestR innerBV B, roR A_B 1 enBV B, roR A_L 9 enEvent L] w46 := (hW.pick [1, 2, 3, 4] (by decide) rfl).pickG [0, 1, 2] rfl
       refine sr_one (i := 0) (by kernel_rfl) (sr_d rfl hA (Runs.cells (fun b => Value.slice (some ⟨b, 0, none⟩) 0 0) #[] 50 (fun _ => by kernel_rfl) hW ?_)); clear hA ac hW; intro br16_0 w47 hW hbr16_0 hfw47 ac hA
       refine ⟨⟨fun _ => (hW.pick [2, 3, 4, 5] (by decide) rfl).pickG [0, 1, 2] rfl, fun h => absurd h (by decide)⟩, ?_⟩; have hC : Ws w No [rowR 4 1 enBo (Value.slice (some ⟨b12, 0, none⟩) L.length L.length) d, Cel b5 #[Value.slice none 0 0, Value.slice none 0 0] 31, Cel b3 #[Value.int .i64 x.g, Value.int .i64 x.kind, Value.int .i64 x.site.f, Value.int .i64 x.site.pc, Value.int .u32 x.addr, Value.int .i64 x.child, Value.int .i64 x.obj, Value.int .i64 x.n, Value.int .i64 x.trap] 50, Cel b1 #[Value.slice A_L L.length c_L, Value.slice A_B B.length c_B] 31] [nestR innerBV B, roR A_B 1 enBV B, roR A_L 9 enEvent L] w47 := (hW.pick [2, 3, 4, 5] (by decide) rfl).pickG [0, 1, 2] rfl
       have hW := hW.celRow (en := enEvent) (H' := [rowR 50 9 enEvent (Value.slice (some ⟨br16_0, 0, none⟩) ([] : List Event).length ([] : List Event).length) ([] : List Event), Cel br16_5 #[Value.int .i64 x.g, Value.int .i64 x.kind, Value.int .i64 x.site.f, Value.int .i64 x.site.pc, Value.int .u32 x.addr, Value.int .i64 x.child, Value.int .i64 x.obj, Value.int .i64 x.n, Value.int .i64 x.trap] 50, rowR 4 1 enBo (Value.slice (some ⟨b12, 0, none⟩) L.length L.length) d, Cel b5 #[Value.slice none 0 0, Value.slice none 0 0] 31, Cel b3 #[Value.int .i64 x.g, Value.int .i64 x.kind, Value.int .i64 x.site.f, Value.int .i64 x.site.pc, Value.int .u32 x.addr, Value.int .i64 x.child, Value.int .i64 x.obj, Value.int .i64 x.n, Value.int .i64 x.trap] 50, Cel b1 #[Value.slice A_L L.length c_L, Value.slice A_B B.length c_B] 31]) 0 rfl ([] : List Event) (by rfl) elt_Event.len (by decide) rfl
       refine sr_one (i := 3) (by kernel_rfl) (sr_d rfl hA (Runs.appOwn (B := A_L) (k := c_L) (E := 50) (sz := 9) (en := enEvent) (l := ([] : List Event)) (m := L) (i := 0) (by kernel_rfl) (by kernel_rfl) elt_Event (by kernel_rfl) hW rfl ((hW).getG 2 rfl) (by first | omega | (simp; done) | (simp; omega)) (by first | omega | (simp; done) | (simp; omega)) ?_)); clear hA ac hW; intro Ar16_3 cr16_3 w48 hW hccr16_3 ac hA
       refine ⟨⟨fun _ => (hW.pick [2, 3, 4, 5] (by decide) rfl).pickG [0, 1, 2] rfl, fun h => absurd h (by decide)⟩, ?_⟩; have hC : Ws w No [rowR 4 1 enBo (Value.slice (some ⟨b12, 0, none⟩) L.length L.length) d, Cel b5 #[Value.slice none 0 0, Value.slice none 0 0] 31, Cel b3 #[Value.int .i64 x.g, Value.int .i64 x.kind, Value.int .i64 x.site.f, Value.int .i64 x.site.pc, Value.int .u32 x.addr, Value.int .i64 x.child, Value.int .i64 x.obj, Value.int .i64 x.n, Value.int .i64 x.trap] 50, Cel b1 #[Value.slice A_L L.length c_L, Value.slice A_B B.length c_B] 31] [nestR innerBV B, roR A_B 1 enBV B, roR A_L 9 enEvent L] w48 := (hW.pick [2, 3, 4, 5] (by decide) rfl).pickG [0, 1, 2] rfl
       refine sr_one (i := 6) (by kernel_rfl) (sr_d rfl hA (Runs.appOwn (B := (some ⟨br16_5, 0, none⟩)) (k := 1) (E := 50) (sz := 9) (en := enEvent) (l := (([] : List Event) ++ L)) (m := ([x] : List Event)) (i := 0) (by kernel_rfl) (by kernel_rfl) elt_Event (by kernel_rfl) hW rfl (rowAt_cel ((hW).cel 1 rfl) ([x] : List Event) (by rfl) elt_Event.len) (by first | omega | (simp; done) | (simp; omega)) (by first | omega | (simp; done) | (simp; omega)) ?_)); clear hA ac hW; intro Ar16_6 cr16_6 w49 hW hccr16_6 ac hA
       refine qn ?_
       refine sr_p 7 (Value.pointer (some ⟨b1, 0, none⟩)) hR rfl hA ?_; clear hA ac; intro ac hA
       refine sr_one (i := 8) (by kernel_rfl) (sr_d rfl hA (Runs.store (v := Value.slice Ar16_6 ((([] : List Event) ++ L) ++ ([x] : List Event)).length cr16_6) (b := b1) (j := 0) (n := 1) (cs' := #[Value.slice Ar16_6 ((([] : List Event) ++ L) ++ ([x] : List Event)).length cr16_6, Value.slice A_B B.length c_B]) (H' := [rowR 50 9 enEvent (Value.slice Ar16_6 ((([] : List Event) ++ L) ++ ([x] : List Event)).length cr16_6) ((([] : List Event) ++ L) ++ ([x] : List Event)), Cel br16_5 #[Value.int .i64 x.g, Value.int .i64 x.kind, Value.int .i64 x.site.f, Value.int .i64 x.site.pc, Value.int .u32 x.addr, Value.int .i64 x.child, Value.int .i64 x.obj, Value.int .i64 x.n, Value.int .i64 x.trap] 50, rowR 4 1 enBo (Value.slice (some ⟨b12, 0, none⟩) L.length L.length) d, Cel b5 #[Value.slice none 0 0, Value.slice none 0 0] 31, Cel b3 #[Value.int .i64 x.g, Value.int .i64 x.kind, Value.int .i64 x.site.f, Value.int .i64 x.site.pc, Value.int .u32 x.addr, Value.int .i64 x.child, Value.int .i64 x.obj, Value.int .i64 x.n, Value.int .i64 x.trap] 50, Cel b1 #[Value.slice Ar16_6 ((([] : List Event) ++ L) ++ ([x] : List Event)).length cr16_6, Value.slice A_B B.length c_B] 31]) (by kernel_rfl) (by kernel_rfl) (by kernel_rfl) (by kernel_rfl) (by kernel_rfl) hW 5 (by rfl) (Nat.le_of_ble_eq_true (by kernel_rfl)) (by kernel_rfl) (by rfl) ?_)); clear hA ac hW; intro w50 hW ac hA
       refine qn ?_
       refine sr_done (by kernel_rfl) ?_ _
       exact ⟨Ar16_3, Ar16_6, br16_0, br16_5, cr16_3, cr16_6, hccr16_3, hccr16_6, hA.sub (by and_intros <;> first | kernel_rfl | trivial), (hW.pick [1, 0, 2, 3, 4, 5] (by decide) rfl).pickG [0, 1, 2] rfl⟩
    clear hA ac hW; rintro ac w51 ⟨Ar16_3, Ar16_6, br16_0, br16_5, cr16_3, cr16_6, hccr16_3, hccr16_6, hA, hW⟩
    refine thenN ?_
    refine wp_seq ?_
    have hdl3_ := hdl.symm; rw [hdl3_] at hW hA
    replace hW : Ws w No [Cel br16_5 #[Value.int .i64 x.g, Value.int .i64 x.kind, Value.int .i64 x.site.f, Value.int .i64 x.site.pc, Value.int .u32 x.addr, Value.int .i64 x.child, Value.int .i64 x.obj, Value.int .i64 x.n, Value.int .i64 x.trap] 50, rowR 50 9 enEvent (Value.slice Ar16_6 ((([] : List Event) ++ L) ++ ([x] : List Event)).length cr16_6) ((([] : List Event) ++ L) ++ ([x] : List Event)), rowR 4 1 enBo (Value.slice (some ⟨b12, 0, none⟩) d.length d.length) d, Cel b5 #[Value.slice none 0 0, Value.slice none 0 0] 31, Cel b3 #[Value.int .i64 x.g, Value.int .i64 x.kind, Value.int .i64 x.site.f, Value.int .i64 x.site.pc, Value.int .u32 x.addr, Value.int .i64 x.child, Value.int .i64 x.obj, Value.int .i64 x.n, Value.int .i64 x.trap] 50, Cel b1 #[Value.slice Ar16_6 ((([] : List Event) ++ L) ++ ([x] : List Event)).length cr16_6, Value.slice A_B B.length c_B] 31] [nestR innerBV B, roR A_B 1 enBV B, roR A_L 9 enEvent L] w51 := hW
    refine wp_region_lit ?_
    refine st_s hA (Runs.cells (fun b => Value.slice (some ⟨b, 0, none⟩) 0 0) #[] 76 (fun _ => by kernel_rfl) hW ?_); clear hA ac hW; intro b52 w53 hW hb52 hfw53 ac hA
    refine st_p (Value.pointer (some ⟨b1, 1, none⟩)) hA fun ac hA => st_q (Value.slice A_B B.length c_B) hA hW.cls (Rd.load (b := b1) (i := 1) (by kernel_rfl) (fun _ hw => (hw.1).cel 6 rfl) (by kernel_rfl)) fun ac hA => ?_
    have hW := hW.celRow (en := enBV) (H' := [rowR 76 1 enBV (Value.slice (some ⟨b52, 0, none⟩) ([] : List BV).length ([] : List BV).length) ([] : List BV), Cel br16_5 #[Value.int .i64 x.g, Value.int .i64 x.kind, Value.int .i64 x.site.f, Value.int .i64 x.site.pc, Value.int .u32 x.addr, Value.int .i64 x.child, Value.int .i64 x.obj, Value.int .i64 x.n, Value.int .i64 x.trap] 50, rowR 50 9 enEvent (Value.slice Ar16_6 ((([] : List Event) ++ L) ++ ([x] : List Event)).length cr16_6) ((([] : List Event) ++ L) ++ ([x] : List Event)), rowR 4 1 enBo (Value.slice (some ⟨b12, 0, none⟩) d.length d.length) d, Cel b5 #[Value.slice none 0 0, Value.slice none 0 0] 31, Cel b3 #[Value.int .i64 x.g, Value.int .i64 x.kind, Value.int .i64 x.site.f, Value.int .i64 x.site.pc, Value.int .u32 x.addr, Value.int .i64 x.child, Value.int .i64 x.obj, Value.int .i64 x.n, Value.int .i64 x.trap] 50, Cel b1 #[Value.slice Ar16_6 ((([] : List Event) ++ L) ++ ([x] : List Event)).length cr16_6, Value.slice A_B B.length c_B] 31]) 0 rfl ([] : List BV) (by rfl) elt_BV.len (by decide) rfl
    have hW := hW.nestNil innerBV
    have hknq55 : ∀ x_ ∈ ([] : List BV), capBV x_ := all_nil
    have hsnq55 : Res.src (nestR innerBV ([] : List BV)) [roR A_L 9 enEvent L, roR A_B 1 enBV B, nestR innerBV B] w := nsrc_nil
    have hW := hW.nestApp 0 1 rfl rfl
    have hknq56 : ∀ x_ ∈ (([] : List BV) ++ B), capBV x_ := all_app hknq55 hk_B
    have hsnq56 : Res.src (nestR innerBV (([] : List BV) ++ B)) [roR A_L 9 enEvent L, roR A_B 1 enBV B, nestR innerBV B] w := nsrc_app hsnq55 (src_arg (.tail _ (.tail _ (.head _))))
    refine st_s hA (Runs.appOwn (B := A_B) (k := c_B) (E := 76) (sz := 1) (en := enBV) (l := ([] : List BV)) (m := B) (i := 0) (by kernel_rfl) (by kernel_rfl) elt_BV (by kernel_rfl) hW rfl ((hW).getG 3 rfl) (by first | omega | (simp; done) | (simp; omega)) (by first | omega | (simp; done) | (simp; omega)) ?_); clear hA ac hW; intro A57 c58 w59 hW hcc58 ac hA
    refine st_p (Value.slice (some ⟨b12, 0, none⟩) d.length d.length) hA ?_; clear hA ac; intro ac hA
    refine st_s hA (Runs.cells (fun b => Value.slice (some ⟨b, 0, none⟩) 1 1) #[Value.slice (some ⟨b12, 0, none⟩) d.length d.length] 76 (fun _ => by kernel_rfl) hW ?_); clear hA ac hW; intro b60 w61 hW hb60 hfw61 ac hA
    have hsrow14 : Res.src (roR (some ⟨b12, 0, none⟩) 1 enBo d) [roR A_L 9 enEvent L, roR A_B 1 enBV B, nestR innerBV B] w := fun b_ hb_ => .inr ((hW.may _ (List.mem_of_getElem? (i := 4) rfl) b_ (rowR_fp b_ hb_)).resolve_left (fun h_ => h_))
    have hW := hW.share 4 rfl (H' := [Cel b60 #[Value.slice (some ⟨b12, 0, none⟩) d.length d.length] 76, rowR 76 1 enBV (Value.slice A57 (([] : List BV) ++ B).length c58) (([] : List BV) ++ B), Cel br16_5 #[Value.int .i64 x.g, Value.int .i64 x.kind, Value.int .i64 x.site.f, Value.int .i64 x.site.pc, Value.int .u32 x.addr, Value.int .i64 x.child, Value.int .i64 x.obj, Value.int .i64 x.n, Value.int .i64 x.trap] 50, rowR 50 9 enEvent (Value.slice Ar16_6 ((([] : List Event) ++ L) ++ ([x] : List Event)).length cr16_6) ((([] : List Event) ++ L) ++ ([x] : List Event)), Cel b5 #[Value.slice none 0 0, Value.slice none 0 0] 31, Cel b3 #[Value.int .i64 x.g, Value.int .i64 x.kind, Value.int .i64 x.site.f, Value.int .i64 x.site.pc, Value.int .u32 x.addr, Value.int .i64 x.child, Value.int .i64 x.obj, Value.int .i64 x.n, Value.int .i64 x.trap] 50, Cel b1 #[Value.slice Ar16_6 ((([] : List Event) ++ L) ++ ([x] : List Event)).length cr16_6, Value.slice A_B B.length c_B] 31]) rfl
    have hcq62 : d.length ≤ d.length := (own_cap (E := 4) (sz := 1) (en := enBo) ((hW).getG 0 rfl))
    have hW := Ws.nestCons (inner := innerBV) hW 2 rfl (⟨d, (some ⟨b12, 0, none⟩), d.length⟩ : BV) (rowR_at (E := 4) (hW.getG 0 rfl) elt_Bo.len) (fun _ hb_ => ⟨_, List.mem_of_getElem? (i := 0) rfl, rowR_fp _ hb_⟩)
    have hknq63 : ∀ x_ ∈ ([(⟨d, (some ⟨b12, 0, none⟩), d.length⟩ : BV)] : List BV), capBV x_ := all_cons hcq62 hknq55
    have hsnq63 : Res.src (nestR innerBV ([(⟨d, (some ⟨b12, 0, none⟩), d.length⟩ : BV)] : List BV)) [roR A_L 9 enEvent L, roR A_B 1 enBV B, nestR innerBV B] w := nsrc_cons hsrow14 hsnq55
    have hW := hW.nestApp 2 0 rfl rfl
    have hknq64 : ∀ x_ ∈ ((([] : List BV) ++ B) ++ ([(⟨d, (some ⟨b12, 0, none⟩), d.length⟩ : BV)] : List BV)), capBV x_ := all_app hknq56 hknq63
    have hsnq64 : Res.src (nestR innerBV ((([] : List BV) ++ B) ++ ([(⟨d, (some ⟨b12, 0, none⟩), d.length⟩ : BV)] : List BV))) [roR A_L 9 enEvent L, roR A_B 1 enBV B, nestR innerBV B] w := nsrc_app hsnq56 hsnq63
    refine st_s hA (Runs.appOwn (B := (some ⟨b60, 0, none⟩)) (k := 1) (E := 76) (sz := 1) (en := enBV) (l := (([] : List BV) ++ B)) (m := ([(⟨d, (some ⟨b12, 0, none⟩), d.length⟩ : BV)] : List BV)) (i := 1) (by kernel_rfl) (by kernel_rfl) elt_BV (by kernel_rfl) hW rfl (rowAt_cel ((hW).cel 0 rfl) ([(⟨d, (some ⟨b12, 0, none⟩), d.length⟩ : BV)] : List BV) (by rfl) elt_BV.len) (by first | omega | (simp; done) | (simp; omega)) (by first | omega | (simp; done) | (simp; omega)) ?_); clear hA ac hW; intro A65 c66 w67 hW hcc66 ac hA
    refine st_p (Value.pointer (some ⟨b1, 1, none⟩)) hA ?_; clear hA ac; intro ac hA
    refine st_s hA (Runs.store (v := Value.slice A65 ((([] : List BV) ++ B) ++ ([(⟨d, (some ⟨b12, 0, none⟩), d.length⟩ : BV)] : List BV)).length c66) (b := b1) (j := 1) (n := 1) (cs' := #[Value.slice Ar16_6 ((([] : List Event) ++ L) ++ ([x] : List Event)).length cr16_6, Value.slice A65 ((([] : List BV) ++ B) ++ ([(⟨d, (some ⟨b12, 0, none⟩), d.length⟩ : BV)] : List BV)).length c66]) (H' := [Cel b60 #[Value.slice (some ⟨b12, 0, none⟩) d.length d.length] 76, rowR 76 1 enBV (Value.slice A65 ((([] : List BV) ++ B) ++ ([(⟨d, (some ⟨b12, 0, none⟩), d.length⟩ : BV)] : List BV)).length c66) ((([] : List BV) ++ B) ++ ([(⟨d, (some ⟨b12, 0, none⟩), d.length⟩ : BV)] : List BV)), Cel br16_5 #[Value.int .i64 x.g, Value.int .i64 x.kind, Value.int .i64 x.site.f, Value.int .i64 x.site.pc, Value.int .u32 x.addr, Value.int .i64 x.child, Value.int .i64 x.obj, Value.int .i64 x.n, Value.int .i64 x.trap] 50, rowR 50 9 enEvent (Value.slice Ar16_6 ((([] : List Event) ++ L) ++ ([x] : List Event)).length cr16_6) ((([] : List Event) ++ L) ++ ([x] : List Event)), Cel b5 #[Value.slice none 0 0, Value.slice none 0 0] 31, Cel b3 #[Value.int .i64 x.g, Value.int .i64 x.kind, Value.int .i64 x.site.f, Value.int .i64 x.site.pc, Value.int .u32 x.addr, Value.int .i64 x.child, Value.int .i64 x.obj, Value.int .i64 x.n, Value.int .i64 x.trap] 50, Cel b1 #[Value.slice Ar16_6 ((([] : List Event) ++ L) ++ ([x] : List Event)).length cr16_6, Value.slice A65 ((([] : List BV) ++ B) ++ ([(⟨d, (some ⟨b12, 0, none⟩), d.length⟩ : BV)] : List BV)).length c66] 31]) (by kernel_rfl) (by kernel_rfl) (by kernel_rfl) (by kernel_rfl) (by kernel_rfl) hW 6 (by rfl) (Nat.le_of_ble_eq_true (by kernel_rfl)) (by kernel_rfl) (by rfl) ?_); clear hA ac hW; intro w68 hW ac hA
    refine wpList_nil ?_
    refine thenN ?_
    refine wp_seq ?_
    refine wp_region_lit ?_
    refine st_q (Value.agg #[Value.slice Ar16_6 ((([] : List Event) ++ L) ++ ([x] : List Event)).length cr16_6, Value.slice A65 ((([] : List BV) ++ B) ++ ([(⟨d, (some ⟨b12, 0, none⟩), d.length⟩ : BV)] : List BV)).length c66]) hA hW.cls (Rd.load (b := b1) (i := 0) (by kernel_rfl) (fun _ hw => (hw.1).cel 6 rfl) (by kernel_rfl)) ?_; clear hA ac; intro ac hA
    refine st_s hA (Runs.store (v := Value.agg #[Value.slice Ar16_6 ((([] : List Event) ++ L) ++ ([x] : List Event)).length cr16_6, Value.slice A65 ((([] : List BV) ++ B) ++ ([(⟨d, (some ⟨b12, 0, none⟩), d.length⟩ : BV)] : List BV)).length c66]) (b := b5) (j := 0) (n := 2) (cs' := #[Value.slice Ar16_6 ((([] : List Event) ++ L) ++ ([x] : List Event)).length cr16_6, Value.slice A65 ((([] : List BV) ++ B) ++ ([(⟨d, (some ⟨b12, 0, none⟩), d.length⟩ : BV)] : List BV)).length c66]) (H' := [Cel b60 #[Value.slice (some ⟨b12, 0, none⟩) d.length d.length] 76, rowR 76 1 enBV (Value.slice A65 ((([] : List BV) ++ B) ++ ([(⟨d, (some ⟨b12, 0, none⟩), d.length⟩ : BV)] : List BV)).length c66) ((([] : List BV) ++ B) ++ ([(⟨d, (some ⟨b12, 0, none⟩), d.length⟩ : BV)] : List BV)), Cel br16_5 #[Value.int .i64 x.g, Value.int .i64 x.kind, Value.int .i64 x.site.f, Value.int .i64 x.site.pc, Value.int .u32 x.addr, Value.int .i64 x.child, Value.int .i64 x.obj, Value.int .i64 x.n, Value.int .i64 x.trap] 50, rowR 50 9 enEvent (Value.slice Ar16_6 ((([] : List Event) ++ L) ++ ([x] : List Event)).length cr16_6) ((([] : List Event) ++ L) ++ ([x] : List Event)), Cel b5 #[Value.slice Ar16_6 ((([] : List Event) ++ L) ++ ([x] : List Event)).length cr16_6, Value.slice A65 ((([] : List BV) ++ B) ++ ([(⟨d, (some ⟨b12, 0, none⟩), d.length⟩ : BV)] : List BV)).length c66] 31, Cel b3 #[Value.int .i64 x.g, Value.int .i64 x.kind, Value.int .i64 x.site.f, Value.int .i64 x.site.pc, Value.int .u32 x.addr, Value.int .i64 x.child, Value.int .i64 x.obj, Value.int .i64 x.n, Value.int .i64 x.trap] 50, Cel b1 #[Value.slice Ar16_6 ((([] : List Event) ++ L) ++ ([x] : List Event)).length cr16_6, Value.slice A65 ((([] : List BV) ++ B) ++ ([(⟨d, (some ⟨b12, 0, none⟩), d.length⟩ : BV)] : List BV)).length c66] 31]) (by kernel_rfl) (by kernel_rfl) (by kernel_rfl) (by kernel_rfl) (by kernel_rfl) hW 4 (by rfl) (Nat.le_of_ble_eq_true (by kernel_rfl)) (by kernel_rfl) (by rfl) ?_); clear hA ac hW; intro w69 hW ac hA
    refine st_p (Value.int .i64 0) hA ?_; clear hA ac; intro ac hA
    refine wpList_nil ?_
    refine thenN ?_
    refine wp_ret ?_
    refine ret2 (v1 := Value.agg #[Value.slice Ar16_6 ((([] : List Event) ++ L) ++ ([x] : List Event)).length cr16_6, Value.slice A65 ((([] : List BV) ++ B) ++ ([(⟨d, (some ⟨b12, 0, none⟩), d.length⟩ : BV)] : List BV)).length c66]) (v2 := Value.int .i64 0) (by rfl) hA (Got.cell (b := b5) (i := 0) hA (by kernel_rfl) (by kernel_rfl) (hW.cel 4 rfl) (by kernel_rfl)) (Got.tmp hA (by kernel_rfl) (by kernel_rfl)) ?_
    clear hA
    exact ⟨0, (([] : List Event) ++ L) ++ ([x] : List Event), (([] : List BV) ++ B) ++ ([(⟨d, (some ⟨b12, 0, none⟩), d.length⟩ : BV)] : List BV), Ar16_6, cr16_6, A65, c66, by first | rfl | (simp; done), by exact addE_yes (E := L) (by omega) hxo_, by have q_ := Under.done hev hxo_ (by rw [show u = 0 from by omega] at hd; exact hd) hdl; show _ = ahM (L ++ [x]); rw [ah_snoc hev hxo_, ← q_]; simp [hB], (own_cap ((hW).get 3 rfl)), (own_cap ((hW).get 1 rfl)), hknq64, (hW.outRow 3 rfl elt_Event.len (fun _ h => h)), (hW.outRow 1 rfl elt_BV.len (fun _ h => h)), (hW.outSrc 0 rfl hsnq64), hW.fr⟩)))

end Go.Proofs.YtefmglgejjaipaaGreatDoor.L
