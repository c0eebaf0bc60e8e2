/- Contracts, walked by program over the engine's laws. -/
import Derived.Test.YtfkbjfbbigbacaaGreatDoorProg
import Derived.Test.YtfkbjfbbigbacaaGreatDoorT15
import Derived.Test.YtfkbjfbbigbacaaGreatDoorLen1
namespace Go.Proofs.YtfkbjfbbigbacaaGreatDoor.L
open Go.RowKit
open Go.Value renaming int → vI, slice → vS, bool → vB, pointer → vP, func → vF, agg → vA, map → vM, tuple → vT

def gE : List Event := [⟨0, 3, ⟨0, 0⟩, 5, 0, 0, 0, 0⟩, ⟨1, 2, ⟨1, 2⟩, 5, 0, 0, 0, 0⟩, ⟨0, 3, ⟨0, 3⟩, 5, 0, 0, 0, 0⟩, ⟨1, 3, ⟨0, 0⟩, 6, 0, 0, 0, 0⟩]
theorem addE_z {E E' : List Event} {er : Int} (h : (er, E') = addE E ⟨0, 0, ⟨0, 0⟩, 0, 0, 0, 0, 0⟩) : er ≠ 1 ∧ E' = E := by
  unfold addE at h
  split at h
  · have h1 := congrArg Prod.fst h; have h2 := congrArg Prod.snd h; simp only at h1 h2; exact ⟨by omega, h2⟩
  · rw [if_neg (by decide)] at h; have h1 := congrArg Prod.fst h; have h2 := congrArg Prod.snd h; simp only at h1 h2; exact ⟨by omega, h2⟩
def zeroR : Race := ⟨0, 0, 0, ⟨⟨0, 0⟩, ⟨0, 0⟩⟩⟩
def firstR (E : List Event) : Race := ((raceL E)[0]?).getD zeroR
def errR (E : List Event) : Int := if (raceL E).length = 0 then 5 else 0
theorem first_no {E : List Event} (h : (raceL E).length = 0) : firstR E = zeroR ∧ errR E = 5 := by unfold firstR errR; rw [List.getElem?_eq_none (by omega), if_pos h]; exact ⟨rfl, rfl⟩
theorem first_yes {E : List Event} {y : Race} (h : (raceL E)[0]? = some y) : firstR E = y ∧ errR E = 0 := by
  have := (List.getElem?_eq_some_iff.1 h).1
  unfold firstR errR; rw [h, if_neg (by omega)]; exact ⟨rfl, rfl⟩
theorem len_of {n : Nat} (h : n = 1) (w : World) : Calls Tryz.prog 66 #[.int .u64 (n : Int)] w fun e w' => e = .returned (.int .i64 1) ∧ w = w' := by subst h; exact len_1 w
set_option maxRecDepth 100000 in
theorem e_given  (w : World)  : Calls Tryz.prog 30 #[] w (Fresh 51 9 enEvent gE w) := by
 refine enter_E 8 Tryz.func30 rfl rfl (by kernel_rfl) (L := []) (by kernel_rfl) ?_
 intro ac hA
 have hW := Ws.start w No
 refine wr <| st_p (vS none 0 0) hA ?_; clear hA ac; intro ac hA
 refine wn <| wr <| st_p (vA #[vI .i64 0, vI .i64 3, vI .i64 0, vI .i64 0, vI .u32 5, vI .i64 0, vI .i64 0, vI .i64 0, vI .i64 0]) hA fun ac hA => st_p (vA #[vI .i64 1, vI .i64 2]) hA fun ac hA => st_p (vA #[vI .i64 1, vI .i64 2, vI .i64 1, vI .i64 2, vI .u32 5, vI .i64 0, vI .i64 0, vI .i64 0, vI .i64 0]) hA fun ac hA => st_p (vA #[vI .i64 0, vI .i64 3]) hA fun ac hA => st_p (vA #[vI .i64 0, vI .i64 3, vI .i64 0, vI .i64 3, vI .u32 5, vI .i64 0, vI .i64 0, vI .i64 0, vI .i64 0]) hA fun ac hA => st_p (vA #[vI .i64 1, vI .i64 3, vI .i64 0, vI .i64 0, vI .u32 6, vI .i64 0, vI .i64 0, vI .i64 0, vI .i64 0]) hA fun ac hA => st_s hA (Runs.cells (fun b => vS (some ⟨b, 0, none⟩) 4 4) #[vI .i64 0, vI .i64 3, vI .i64 0, vI .i64 0, vI .u32 5, vI .i64 0, vI .i64 0, vI .i64 0, vI .i64 0, vI .i64 1, vI .i64 2, vI .i64 1, vI .i64 2, vI .u32 5, vI .i64 0, vI .i64 0, vI .i64 0, vI .i64 0, vI .i64 0, vI .i64 3, vI .i64 0, vI .i64 3, vI .u32 5, vI .i64 0, vI .i64 0, vI .i64 0, vI .i64 0, vI .i64 1, vI .i64 3, vI .i64 0, vI .i64 0, vI .u32 6, vI .i64 0, vI .i64 0, vI .i64 0, vI .i64 0] 51 (fun _ => by kernel_rfl) hW ?_); clear hA ac hW; intro b1 w2 hW hb1 hfw2 ac hA
 refine st_p (vS (some ⟨b1, 0, none⟩) 4 4) hA ?_; clear hA ac; intro ac hA
 refine wn <| wp_ret <| r1 (vS (some ⟨b1, 0, none⟩) 4 4) hA ?_
 clear hA
 have hW := hW.celRow (en := enEvent) (H' := [rowR 51 9 enEvent (vS (some ⟨b1, 0, none⟩) ([(⟨0, 3, (⟨0, 0⟩ : Site), 5, 0, 0, 0, 0⟩ : Event), (⟨1, 2, (⟨1, 2⟩ : Site), 5, 0, 0, 0, 0⟩ : Event), (⟨0, 3, (⟨0, 3⟩ : Site), 5, 0, 0, 0, 0⟩ : Event), (⟨1, 3, (⟨0, 0⟩ : Site), 6, 0, 0, 0, 0⟩ : Event)] : List Event).length ([(⟨0, 3, (⟨0, 0⟩ : Site), 5, 0, 0, 0, 0⟩ : Event), (⟨1, 2, (⟨1, 2⟩ : Site), 5, 0, 0, 0, 0⟩ : Event), (⟨0, 3, (⟨0, 3⟩ : Site), 5, 0, 0, 0, 0⟩ : Event), (⟨1, 3, (⟨0, 0⟩ : Site), 6, 0, 0, 0, 0⟩ : Event)] : List Event).length) ([(⟨0, 3, (⟨0, 0⟩ : Site), 5, 0, 0, 0, 0⟩ : Event), (⟨1, 2, (⟨1, 2⟩ : Site), 5, 0, 0, 0, 0⟩ : Event), (⟨0, 3, (⟨0, 3⟩ : Site), 5, 0, 0, 0, 0⟩ : Event), (⟨1, 3, (⟨0, 0⟩ : Site), 6, 0, 0, 0, 0⟩ : Event)] : List Event)]) 0 rfl ([(⟨0, 3, (⟨0, 0⟩ : Site), 5, 0, 0, 0, 0⟩ : Event), (⟨1, 2, (⟨1, 2⟩ : Site), 5, 0, 0, 0, 0⟩ : Event), (⟨0, 3, (⟨0, 3⟩ : Site), 5, 0, 0, 0, 0⟩ : Event), (⟨1, 3, (⟨0, 0⟩ : Site), 6, 0, 0, 0, 0⟩ : Event)] : List Event) (by rfl) elt_Event.len (by decide) rfl
 rw [show gE = ([(⟨0, 3, (⟨0, 0⟩ : Site), 5, 0, 0, 0, 0⟩ : Event), (⟨1, 2, (⟨1, 2⟩ : Site), 5, 0, 0, 0, 0⟩ : Event), (⟨0, 3, (⟨0, 3⟩ : Site), 5, 0, 0, 0, 0⟩ : Event), (⟨1, 3, (⟨0, 0⟩ : Site), 6, 0, 0, 0, 0⟩ : Event)] : List Event) from rfl]; exact ⟨_, rfl, hW.fresh 0 rfl (fun _ h => h), hW.fr⟩

set_option maxRecDepth 100000 in
theorem e_made (m : Nat) (Ae : Option Addr) (ce : Nat) (E : List Event) (Ak : Option Addr) (ck : Nat) (C : List SV) (bg : Nat) (G : List (Int × SV)) (bt : Nat) (T : List (Thing × SV)) (w : World) (ho_o : (OrdR m Ae ce E Ak ck C bg G bt T).p w) (hl_o : ∀ x_ ∈ (OrdR m Ae ce E Ak ck C bg G bt T).fp, x_ < w.heap.size) (hok : OrdOk E C G T) : Calls Tryz.prog 42 #[pA m 0] w (fun e w' => ∃ Ae' : Option Addr, ∃ ce' : Nat, ∃ C' : List SV, ∃ Ak' : Option Addr, ∃ ck' : Nat, ∃ G' : List (Int × SV), ∃ T' : List (Thing × SV), e = .returned (vB true) ∧ (OrdOk E C' G' T') ∧ Upd (OrdR m Ae ce E Ak ck C bg G bt T) (OrdR m Ae' ce' E Ak' ck' C' bg G' bt T') w w') := by
 have _hu := ho_o; have _hv := hl_o; clear _hu _hv
 have _hu := hok; clear _hu
 refine enter_E 11 Tryz.func42 rfl rfl (by kernel_rfl) (L := [(0, pA m 0)]) (by kernel_rfl) ?_
 intro ac hA
 have hW : Ws w (· ∈ (OrdR m Ae ce E Ak ck C bg G bt T).fp) [OrdR m Ae ce E Ak ck C bg G bt T] [] w := objW ho_o hl_o
 clear ho_o hl_o
 refine wr <| st_p (vB false) hA ?_; clear hA ac; intro ac hA
 refine wn <| wr <| st_p (pA m 0) hA fun ac hA => st_p (vB true) hA fun ac hA => st_p (vB true) hA fun ac hA => st_p (pA m 0) hA fun ac hA => st_p (vA #[vI .i64 0, vI .i64 0, vI .i64 0, vI .i64 0, vI .u32 0, vI .i64 0, vI .i64 0, vI .i64 0, vI .i64 0]) hA fun ac hA => st_s hA (Runs.call (fun _ => by kernel_rfl) (e_oadd m Ae ce E Ak ck C bg G bt T (⟨0, 0, (⟨0, 0⟩ : Site), 0, 0, 0, 0, 0⟩ : Event) w ((hW).get 0 rfl) ((hW).lt _ (List.mem_of_getElem? (i := 0) rfl)) (by first | omega | assumption | decide) (by first | omega | assumption | decide)) ?_)
 rintro _ w1 ⟨u2, u3, u4, u5, u6, u7, u8, u9, u10, rfl, hw1_hE, hw1_hK, hu_⟩; refine ⟨_, rfl, ?_⟩; replace hW := hW.upd (H' := [OrdR m u4 u5 u3 u7 u8 u6 bg u9 bt u10]) 0 rfl hu_ rfl; clear hA ac; intro ac hA
 refine st_p (vB ((u2 : Int) != (1 : Int))) hA fun ac hA => st_p (vB ((u2 : Int) != (1 : Int))) hA fun ac hA => st_p (vB ((u2 : Int) != (1 : Int))) hA fun ac hA => wn <| wp_ret <| r1 (vB ((u2 : Int) != (1 : Int))) hA ?_
 clear hA
 have hz_ := addE_z hw1_hE; rw [hz_.2] at hW hw1_hK
 exact ⟨u4, u5, u6, u7, u8, u9, u10, retv (congrArg vB (by simpa using hz_.1)), hw1_hK, hW.updDone 0 rfl⟩

set_option maxRecDepth 100000 in
theorem e_rFirst (m : Nat) (Ae : Option Addr) (ce : Nat) (E : List Event) (Ak : Option Addr) (ck : Nat) (C : List SV) (bg : Nat) (G : List (Int × SV)) (bt : Nat) (T : List (Thing × SV)) (w : World) (ho_o : (OrdR m Ae ce E Ak ck C bg G bt T).p w) (hl_o : ∀ x_ ∈ (OrdR m Ae ce E Ak ck C bg G bt T).fp, x_ < w.heap.size) (hok : OrdOk E C G T) (hE100 : E.length ≤ 100) : Calls Tryz.prog 19 #[pA m 0] w (fun e w' => ∃ Ae' : Option Addr, ∃ ce' : Nat, ∃ C' : List SV, ∃ Ak' : Option Addr, ∃ ck' : Nat, ∃ G' : List (Int × SV), ∃ T' : List (Thing × SV), e = .returned (vT #[(firstR E).v, vI .i64 (errR E)]) ∧ (OrdOk E C' G' T') ∧ Upd (OrdR m Ae ce E Ak ck C bg G bt T) (OrdR m Ae' ce' E Ak' ck' C' bg G' bt T') w w') := by
 have _hu := ho_o; have _hv := hl_o; clear _hu _hv
 have _hu := hok; clear _hu
 have _hu := hE100; clear _hu
 have hbg_ := race_lil hE100
 refine enter_E 18 Tryz.func19 rfl rfl (by kernel_rfl) (L := [(0, pA m 0)]) (by kernel_rfl) ?_
 intro ac hA
 have hW : Ws w (· ∈ (OrdR m Ae ce E Ak ck C bg G bt T).fp) [OrdR m Ae ce E Ak ck C bg G bt T] [] w := objW ho_o hl_o
 clear ho_o hl_o
 refine wr <| st_s hA (Runs.cells (fun b => pA b 0) #[vI .i64 0, vI .i64 0, vI .u32 0, vI .i64 0, vI .i64 0, vI .i64 0, vI .i64 0] 47 (fun _ => by kernel_rfl) hW ?_); clear hA ac hW; intro b1 w2 hW hb1 hfw2 ac hA
 refine st_p (vI .i64 0) hA ?_; clear hA ac; intro ac hA
 refine wn <| wp_fwd (l := 0) rfl <| wr <| st_p (vS none 0 0) hA ?_; clear hA ac; intro ac hA
 refine wn <| wp_seq <| wr <| st_p (vI .i64 1) hA ?_; clear hA ac; intro ac hA
 refine wn <| wr <| st_p (pA m 0) hA ?_; clear hA ac; intro ac hA
 refine st_s hA (Runs.call (fun _ => by kernel_rfl) (e_made m Ae ce E Ak ck C bg G bt T w2 ((hW).get 1 rfl) ((hW).lt _ (List.mem_of_getElem? (i := 1) rfl)) (by first | omega | assumption)) ?_)
 rintro _ w3 ⟨u4, u5, u6, u7, u8, u9, u10, rfl, hw3_hK, hu_⟩; refine ⟨_, rfl, ?_⟩; replace hW := hW.upd (H' := [Cel b1 #[vI .i64 0, vI .i64 0, vI .u32 0, vI .i64 0, vI .i64 0, vI .i64 0, vI .i64 0] 47, OrdR m u4 u5 E u7 u8 u6 bg u9 bt u10]) 1 rfl hu_ rfl; clear hA ac; intro ac hA
 refine st_p (vB false) hA ?_; clear hA ac; intro ac hA
 refine wn <| wp_cond_false (hA.eval (by kernel_rfl)) <| wp_skip <| thenN <| wp_seq <| wr <| st_p (pA m 0) hA ?_; clear hA ac; intro ac hA
 refine st_s hA (Runs.callRow (E := 47) (sz := 7) (en := enRace) (l := (raceL E)) (fun _ => by kernel_rfl) hW (e_rall_ m u4 u5 E u7 u8 u6 bg u9 bt u10 w3 ((hW).get 1 rfl) ((hW).lt _ (List.mem_of_getElem? (i := 1) rfl)) (by first | omega | assumption) (by first | omega | assumption)) ?_); clear hA ac hW; intro A12 c13 w11 hW hcc13 hfw11 ac hA
 refine st_p (vS A12 (raceL E).length c13) hA ?_; clear hA ac; intro ac hA
 refine wn <| wr <| st_p (vS A12 (raceL E).length c13) hA fun ac hA => st_p (vI .i64 (((raceL E).length : Nat) : Int)) hA fun ac hA => st_p (vB (((((raceL E).length : Nat) : Int) : Int) == (0 : Int))) hA fun ac hA => wn <| wp_cond_split (t := ((((raceL E).length : Nat) : Int) : Int) == (0 : Int)) (hA.eval (by kernel_rfl)) (fun h15 => ?_) (fun h15 => ?_)
 ·
  have h15 := eq_of_beq h15
  refine wr <| st_p (vI .i64 5) hA ?_; clear hA ac; intro ac hA
  refine wn <| wp_goto <| thenG <| fwdG <| wp_seq <| wp_skip <| thenN <| wr <| st_p (vA #[vI .i64 0, vI .i64 0, vI .u32 0, vI .i64 0, vI .i64 0, vI .i64 0, vI .i64 0]) hA fun ac hA => st_p (vI .i64 5) hA fun ac hA => st_s hA (Runs.store (v := vA #[vI .i64 0, vI .i64 0, vI .u32 0, vI .i64 0, vI .i64 0, vI .i64 0, vI .i64 0]) (b := b1) (j := 0) (n := 7) (cs' := #[vI .i64 0, vI .i64 0, vI .u32 0, vI .i64 0, vI .i64 0, vI .i64 0, vI .i64 0]) (H' := [rowR 47 7 enRace (vS A12 (raceL E).length c13) (raceL E), Cel b1 #[vI .i64 0, vI .i64 0, vI .u32 0, vI .i64 0, vI .i64 0, vI .i64 0, vI .i64 0] 47, OrdR m u4 u5 E u7 u8 u6 bg u9 bt u10]) (by kernel_rfl) (by kernel_rfl) (by kernel_rfl) (by kernel_rfl) (by kernel_rfl) hW 1 (by rfl) (Nat.le_of_ble_eq_true (by kernel_rfl)) (by kernel_rfl) (by rfl) ?_); clear hA ac hW; intro w16 hW ac hA
  refine st_p (vI .i64 5) hA ?_; clear hA ac; intro ac hA
  refine wn <| wp_ret <| nogR <| ret2 (v1 := vA #[vI .i64 0, vI .i64 0, vI .u32 0, vI .i64 0, vI .i64 0, vI .i64 0, vI .i64 0]) (v2 := vI .i64 5) (by rfl) hA (Got.cell (b := b1) (i := 0) hA (by kernel_rfl) (by kernel_rfl) (hW.cel 1 rfl) (by kernel_rfl)) (Got.tmp hA (by kernel_rfl) (by kernel_rfl)) ?_
  clear hA
  have hq_ := first_no (E := E) (by omega)
  exact ⟨u4, u5, u6, u7, u8, u9, u10, retv (by rw [hq_.1, hq_.2]; rfl), hw3_hK, hW.updDone 2 rfl⟩
 have h15 := ne_of_beq_false h15
 refine wp_skip <| thenN <| wp_seq <| wr <| st_p (vS A12 (raceL E).length c13) hA ?_; clear hA ac; intro ac hA
 obtain ⟨y17, hy17⟩ : ∃ y, (raceL E)[0]? = some y := ⟨_, List.getElem?_eq_getElem (by first | omega | (simp; done) | (simp; omega))⟩
 obtain ⟨b18, o19, rfl, hbb18⟩ := row_some (rowR_at ((hW).get 0 rfl) elt_Race.len) hy17
 refine st_q (vP (some ⟨b18, o19 + 0 * 7, none⟩)) hA hW.cls (Rd.indexAddr (e := 47) (sz := 7) (b := b18) (off := o19) (n := (raceL E).length) (c := c13) (k := 0) (by kernel_rfl) (by kernel_rfl) (by first | omega | (simp; done) | (simp; omega)) (fun _ => by kernel_rfl) (fun _ => by kernel_rfl)) fun ac hA => st_q (vA #[vI .i64 y17.i, vI .i64 y17.j, vI .u32 y17.addr, vI .i64 y17.p.a.f, vI .i64 y17.p.a.pc, vI .i64 y17.p.b.f, vI .i64 y17.p.b.pc]) hA hW.cls (Rd.loadRow (b := b18) (i := o19 + 0 * 7) (xs := [vI .i64 y17.i, vI .i64 y17.j, vI .u32 y17.addr, vI .i64 y17.p.a.f, vI .i64 y17.p.a.pc, vI .i64 y17.p.b.f, vI .i64 y17.p.b.pc]) (by kernel_rfl) (fun _ hw => row_ld (rowR_at ((hw.1).get 0 rfl) elt_Race.len) hy17 (Fr.refl No _) (fun h => h) 0 7 (by kernel_rfl)) (by kernel_rfl)) fun ac hA => st_s hA (Runs.store (v := vA #[vI .i64 y17.i, vI .i64 y17.j, vI .u32 y17.addr, vI .i64 y17.p.a.f, vI .i64 y17.p.a.pc, vI .i64 y17.p.b.f, vI .i64 y17.p.b.pc]) (b := b1) (j := 0) (n := 7) (cs' := #[vI .i64 y17.i, vI .i64 y17.j, vI .u32 y17.addr, vI .i64 y17.p.a.f, vI .i64 y17.p.a.pc, vI .i64 y17.p.b.f, vI .i64 y17.p.b.pc]) (H' := [rowR 47 7 enRace (vS (some ⟨b18, o19, none⟩) (raceL E).length c13) (raceL E), Cel b1 #[vI .i64 y17.i, vI .i64 y17.j, vI .u32 y17.addr, vI .i64 y17.p.a.f, vI .i64 y17.p.a.pc, vI .i64 y17.p.b.f, vI .i64 y17.p.b.pc] 47, OrdR m u4 u5 E u7 u8 u6 bg u9 bt u10]) (by kernel_rfl) (by kernel_rfl) (by kernel_rfl) (by kernel_rfl) (by kernel_rfl) hW 1 (by rfl) (Nat.le_of_ble_eq_true (by kernel_rfl)) (by kernel_rfl) (by rfl) ?_); clear hA ac hW; intro w20 hW ac hA
 refine st_p (vI .i64 0) hA ?_; clear hA ac; intro ac hA
 refine wn <| wp_ret <| thenR <| fwdR <| ret2 (v1 := vA #[vI .i64 y17.i, vI .i64 y17.j, vI .u32 y17.addr, vI .i64 y17.p.a.f, vI .i64 y17.p.a.pc, vI .i64 y17.p.b.f, vI .i64 y17.p.b.pc]) (v2 := vI .i64 0) (by rfl) hA (Got.cell (b := b1) (i := 0) hA (by kernel_rfl) (by kernel_rfl) (hW.cel 1 rfl) (by kernel_rfl)) (Got.tmp hA (by kernel_rfl) (by kernel_rfl)) ?_
 clear hA
 have hq_ := first_yes hy17
 exact ⟨u4, u5, u6, u7, u8, u9, u10, retv (by rw [hq_.1, hq_.2]; rfl), hw3_hK, hW.updDone 2 rfl⟩

set_option maxRecDepth 100000 in
theorem e_isort1 (A_x : Option Addr) (c_x : Nat) (x : List Race) (b : Nat) (w : World) (hr_x : RowAt w A_x 7 enRace x) (hc_x : x.length ≤ c_x) (hb : b ≤ 1) : Calls Tryz.prog 93 #[vS A_x x.length c_x, vI .i64 0, vI .i64 (b : Int), vF (.func 44) #[] #[]] w (fun e w' => e = .returned (vT #[]) ∧ Fr No w w') := by
 have _hu := hc_x; have _hv := hr_x; clear _hu _hv
 have _hu := hb; clear _hu
 refine enter_E 53 Tryz.func93 rfl rfl (by kernel_rfl) (L := [(0, vS A_x x.length c_x), (1, vI .i64 0), (2, vI .i64 (b : Int)), (3, vF (.func 44) #[] #[])]) (by kernel_rfl) ?_
 intro ac hA
 have hW := Ws.start w No
 have hW := hW.arg hr_x
 refine wr <| st_p (vI .i64 0) hA fun ac hA => st_q (vI .i64 1) hA hW.cls (Rd.pureE (v0 := vI .i64 (IntKind.i64.wrap ((0 : Int) + 1))) (fun _ => by kernel_rfl) (congrArg (vI .i64) ((w_i64 (x := (0 : Int) + 1) (by omega) (by omega)).trans (by omega)))) fun ac hA => st_p (vI .i64 1) hA fun ac hA => wn <| wp_block <| wp_loop_rounds 1 ?_
 rw [rounds_succ]
 refine wp_seq <| wr <| st_p (vI .i64 1) hA fun ac hA => st_p (vI .i64 (b : Int)) hA fun ac hA => st_p (vB (decide ((1 : Int) < (b : Int)))) hA fun ac hA => wn <| wp_cond_split (t := decide ((1 : Int) < (b : Int))) (hA.eval (by kernel_rfl)) (fun h1 => ?_) (fun h1 => ?_)
 ·
  have h1 := of_decide_eq_true h1
  exfalso; clear hA hW; omega
 have h1 := of_decide_eq_false h1
 refine wp_exit <| thenX <| thenX <| blkX <| ret0 (.inr rfl) rfl hA ?_
 clear hA
 exact ⟨retv (by rfl), hW.fr⟩

set_option maxRecDepth 100000 in
theorem e_pdq1 (A_x : Option Addr) (c_x : Nat) (x : List Race) (b : Nat) (li : Int) (w : World) (hr_x : RowAt w A_x 7 enRace x) (hc_x : x.length ≤ c_x) (hb : b ≤ 1) : Calls Tryz.prog 65 #[vS A_x x.length c_x, vI .i64 0, vI .i64 (b : Int), vI .i64 li, vF (.func 44) #[] #[]] w (fun e w' => e = .returned (vT #[]) ∧ Fr No w w') := by
 have _hu := hc_x; have _hv := hr_x; clear _hu _hv
 have _hu := hb; clear _hu
 refine enter_E 148 Tryz.func65 rfl rfl (by kernel_rfl) (L := [(0, vS A_x x.length c_x), (1, vI .i64 0), (2, vI .i64 (b : Int)), (3, vI .i64 li), (4, vF (.func 44) #[] #[])]) (by kernel_rfl) ?_
 intro ac hA
 have hW := Ws.start w No
 have hW := hW.arg hr_x
 refine wr <| st_p (vB true) hA ?_; clear hA ac; intro ac hA
 refine wn <| wr <| st_p (vB true) hA ?_; clear hA ac; intro ac hA
 refine wn <| wp_block <| wp_loop_rounds 1 ?_
 rw [rounds_succ]
 refine wp_block <| wr <| st_p (vI .i64 (b : Int)) hA fun ac hA => st_p (vI .i64 0) hA fun ac hA => st_q (vI .i64 ((b : Int) - 0)) hA hW.cls (Rd.pureE (v0 := vI .i64 (IntKind.i64.wrap ((b : Int) - 0))) (fun _ => by kernel_rfl) (congrArg (vI .i64) ((w_i64 (x := (b : Int) - 0) (by omega) (by omega)).trans (by omega)))) fun ac hA => st_p (vI .i64 ((b : Int) - 0)) hA fun ac hA => wn <| wp_seq <| wr <| st_p (vI .i64 ((b : Int) - 0)) hA fun ac hA => st_p (vB (decide (((b : Int) - 0 : Int) ≤ (12 : Int)))) hA fun ac hA => wn <| wp_cond_split (t := decide (((b : Int) - 0 : Int) ≤ (12 : Int))) (hA.eval (by kernel_rfl)) (fun h1 => ?_) (fun h1 => ?_)
 ·
  have h1 := of_decide_eq_true h1
  refine wr <| st_p (vS A_x x.length c_x) hA fun ac hA => st_p (vI .i64 0) hA fun ac hA => st_p (vI .i64 (b : Int)) hA fun ac hA => st_p (vF (.func 44) #[] #[]) hA fun ac hA => st_s hA (Runs.callN (v := vT #[]) (fun _ => by kernel_rfl) hW (e_isort1 A_x c_x x (b) w ((hW).getG 0 rfl) (by first | assumption | omega | (simp; omega) | simp) (by omega)) ?_); clear hA ac hW; intro w2 hW hfw2 ac hA
  refine wn <| wp_ret <| thenR <| blkR <| thenR <| blkR <| ret0 (.inl rfl) rfl hA ?_
  clear hA
  exact ⟨retv (by rfl), hW.fr⟩
 have h1 := of_decide_eq_false h1
 exfalso; clear hA hW; omega

set_option maxRecDepth 100000 in
theorem e_sort1 (A_x : Option Addr) (c_x : Nat) (x : List Race) (w : World) (hr_x : RowAt w A_x 7 enRace x) (hc_x : x.length ≤ c_x) (hx1 : x.length = 1) : Calls Tryz.prog 43 #[vS A_x x.length c_x, vF (.func 44) #[] #[]] w (fun e w' => e = .returned (vT #[]) ∧ Fr No w w') := by
 have _hu := hc_x; have _hv := hr_x; clear _hu _hv
 have _hu := hx1; clear _hu
 refine enter_E 14 Tryz.func43 rfl rfl (by kernel_rfl) (L := [(0, vS A_x x.length c_x), (1, vF (.func 44) #[] #[])]) (by kernel_rfl) ?_
 intro ac hA
 have hW := Ws.start w No
 have hW := hW.arg hr_x
 refine wr <| st_p (vS A_x x.length c_x) hA fun ac hA => st_p (vI .i64 (x.length : Int)) hA fun ac hA => st_p (vI .i64 (x.length : Int)) hA fun ac hA => wn <| wp_region_lit <| st_p (vS A_x x.length c_x) hA fun ac hA => st_p (vI .i64 (x.length : Int)) hA fun ac hA => st_p (vI .i64 (x.length : Int)) hA fun ac hA => st_q (vI .u64 (x.length : Int)) hA hW.cls (Rd.pureE (v0 := vI .u64 (IntKind.u64.wrap (x.length : Int))) (fun _ => by kernel_rfl) (congrArg (vI .u64) (w_u64 (x := (x.length : Int)) (by omega) (by omega)))) fun ac hA => st_s hA (Runs.callS (v := vI .i64 1) (fun _ => by kernel_rfl) (len_of (n := (x.length)) (by omega) w) ?_); clear hA ac; intro  ac hA
 refine st_p (vF (.func 44) #[] #[]) hA ?_; clear hA ac; intro ac hA
 refine st_s hA (Runs.callN (v := vT #[]) (fun _ => by kernel_rfl) hW (e_pdq1 A_x c_x x (x.length) (1) w ((hW).getG 0 rfl) (by first | assumption | omega | (simp; omega) | simp) (by omega)) ?_); clear hA ac hW; intro w1 hW hfw1 ac hA
 refine wpList_nil <| ret0 (.inr rfl) rfl hA ?_
 clear hA
 exact ⟨retv (by rfl), hW.fr⟩

end Go.Proofs.YtfkbjfbbigbacaaGreatDoor.L
