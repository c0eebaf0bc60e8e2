/- Contracts, walked by program over the engine's laws. -/
import Derived.Test.YtcgcippmbeileaaProg
import Derived.Test.YtcgcippmbeileaaRel22
namespace Go.Proofs.Ytcgcippmbeileaa.L
open Go.RowKit

structure Act22 where
  addr : Int
  x : Shade
deriving DecidableEq
def Act22.v (x : Act22) : Value := .agg #[.int .u32 x.addr, .int .u64 x.x.wr, .int .i64 x.x.ws.f, .int .i64 x.x.ws.pc, .int .u64 x.x.rd, .int .i64 x.x.rs.f, .int .i64 x.x.rs.pc, .int .i64 x.x.vec]
def enAct22 (x : Act22) : List Value := [.int .u32 x.addr, .int .u64 x.x.wr, .int .i64 x.x.ws.f, .int .i64 x.x.ws.pc, .int .u64 x.x.rd, .int .i64 x.x.rs.f, .int .i64 x.x.rs.pc, .int .i64 x.x.vec]
theorem elt_Act22 : Elt Try.prog 37 8 enAct22 := ⟨⟨Value.agg #[Value.int .u32 0, Value.int .u64 0, Value.int .i64 0, Value.int .i64 0, Value.int .u64 0, Value.int .i64 0, Value.int .i64 0, Value.int .i64 0], 64, by kernel_rfl, rfl, by decide⟩, by decide, fun _ => rfl, fun x u hu => List.all_eq_true.1 (show (enAct22 x).all (·.oneCell') = true from rfl) u hu⟩
set_option maxRecDepth 100000 in
theorem e_svec (m : Nat) (b : Nat) (V : VT22) (w : World) (ho_p : (ShR m b V).p w) (hl_p : ∀ x_ ∈ (ShR m b V).fp, x_ < w.heap.size) (hl : V.length < 50) (hh : ∀ e ∈ V, 0 ≤ e.1 ∧ e.1 ≤ 1048575) : Calls Try.prog 20 #[Value.pointer (some ⟨m, 0, none⟩)] w (fun e w' => ∃ ks : List Int, ∃ O_ : List Int, ∃ (A_o : Option Addr) (c_o : Nat), e = .returned (Value.slice A_o (O_).length c_o) ∧ (ks.Perm (keys (vals V))) ∧ (ks.Pairwise fun x y => x ≤ y) ∧ (O_ = gathOf pVec (vals V) ks) ∧ (O_).length ≤ c_o ∧ Made (rowR 35 1 enU4 (.slice A_o (O_).length c_o) O_) w w') := by
 have _hu := ho_p; have _hv := hl_p; clear _hu _hv
 have _hu := hl; clear _hu
 have _hu := hh; clear _hu
 refine enter_E 5 Try.func20 rfl rfl (by kernel_rfl) (L := [(0, Value.pointer (some ⟨m, 0, none⟩))]) (by kernel_rfl) ?_
 intro ac hA
 have hW := Ws.start w No
 have hW := hW.addG (ShR m b V) ho_p hl_p (by simp)
 clear ho_p hl_p
 refine wp_seq ?_
 refine wp_region_lit ?_
 refine st_p (Value.slice none 0 0) hA ?_; clear hA ac; intro ac hA
 refine wpList_nil ?_
 refine thenN ?_
 refine wp_seq ?_
 refine wp_region_lit ?_
 refine st_p (Value.pointer (some ⟨m, 0, none⟩)) hA ?_; clear hA ac; intro ac hA
 refine st_s hA (Runs.call (fun _ => by kernel_rfl) (e_gathV m b V w ((hW).getG 0 rfl) ((hW).glt _ (List.mem_of_getElem? (i := 0) rfl)) (by first | omega | assumption) (by first | omega | assumption)) ?_)
 rintro _ w1 ⟨g2, g3, Ao4, co5, rfl, hw1_hp, hw1_hs, hw1_hO, hcco5, hu_⟩; refine ⟨_, rfl, ?_⟩; replace hW := hW.made hu_; clear hA ac; intro ac hA
 refine st_p (Value.slice Ao4 (g3).length co5) hA ?_; clear hA ac; intro ac hA
 refine wpList_nil ?_
 refine thenN ?_
 refine wp_ret ?_
 refine ret1 (v := Value.slice Ao4 (g3).length co5) (by rfl) hA (Got.tmp hA (by kernel_rfl) (by kernel_rfl)) ?_
 clear hA
 exact ⟨g2, g3, Ao4, co5, by first | rfl | (simp; done), by exact hw1_hp, by exact hw1_hs, by exact hw1_hO, (own_cap ((hW).get 0 rfl)), hW.madeRow 0 rfl⟩

set_option maxRecDepth 100000 in
theorem e_rparts (ep : Int) (w : World) (he : 0 ≤ ep ∧ ep ≤ 18446744073709551615) : Calls Try.prog 45 #[Value.int .u64 ep] w (fun e w' => e = .returned (Value.tuple #[Value.int .i64 ((ep : Int) / 281474976710656), Value.int .u64 ((ep : Int) % 281474976710656)]) ∧ Fr No w w') := by
 have _hu := he; clear _hu
 refine enter_E 9 Try.func45 rfl rfl (by kernel_rfl) (L := [(0, Value.int .u64 ep)]) (by kernel_rfl) ?_
 intro ac hA
 have hW := Ws.start w No
 refine wp_seq ?_
 refine wp_region_lit ?_
 refine st_p (Value.int .i64 0) hA ?_; clear hA ac; intro ac hA
 refine st_p (Value.int .u64 0) hA ?_; clear hA ac; intro ac hA
 refine wpList_nil ?_
 refine thenN ?_
 refine wp_seq ?_
 refine wp_region_lit ?_
 refine st_p (Value.int .u64 ep) hA ?_; clear hA ac; intro ac hA
 refine st_q (Value.int .u64 ((ep : Int) / 281474976710656)) hA hW.cls (Rd.pureE (v0 := Value.int .u64 (IntKind.u64.wrap (Int.tdiv (ep : Int) 281474976710656))) (fun _ => by kernel_rfl) (congrArg (Value.int .u64) ((congrArg IntKind.u64.wrap (quo_ (x := ep) (by omega))).trans (w_u64 (by omega) (by omega))))) ?_; clear hA ac; intro ac hA
 refine st_q (Value.int .i64 ((ep : Int) / 281474976710656)) hA hW.cls (Rd.pureE (v0 := Value.int .i64 (IntKind.i64.wrap ((ep : Int) / 281474976710656))) (fun _ => by kernel_rfl) (congrArg (Value.int .i64) (w_i64 (x := (ep : Int) / 281474976710656) (by omega) (by omega)))) ?_; clear hA ac; intro ac hA
 refine st_p (Value.int .u64 ep) hA ?_; clear hA ac; intro ac hA
 refine st_q (Value.int .u64 ((ep : Int) % 281474976710656)) hA hW.cls (Rd.pureE (v0 := Value.int .u64 (Int.tmod (ep : Int) 281474976710656)) (fun _ => by kernel_rfl) (congrArg (Value.int .u64) (rem_ (x := ep) (by omega)))) ?_; clear hA ac; intro ac hA
 refine st_p (Value.int .i64 ((ep : Int) / 281474976710656)) hA ?_; clear hA ac; intro ac hA
 refine st_p (Value.int .u64 ((ep : Int) % 281474976710656)) hA ?_; clear hA ac; intro ac hA
 refine wpList_nil ?_
 refine thenN ?_
 refine wp_ret ?_
 refine ret2 (v1 := Value.int .i64 ((ep : Int) / 281474976710656)) (v2 := Value.int .u64 ((ep : Int) % 281474976710656)) (by rfl) hA (Got.tmp hA (by kernel_rfl) (by kernel_rfl)) (Got.tmp hA (by kernel_rfl) (by kernel_rfl)) ?_
 clear hA
 exact ⟨retv (by rfl), hW.fr⟩

set_option maxRecDepth 100000 in
theorem e_rsite (x : Site) (w : World)  : Calls Try.prog 46 #[x.v] w (fun e w' => e = .returned (Value.bool (Site.ok x)) ∧ Fr No w w') := by
 refine enter_E 21 Try.func46 rfl rfl (by kernel_rfl) (L := [(0, x.v)]) (by kernel_rfl) ?_
 intro ac hA
 have hW := Ws.start w No
 refine wp_seq ?_
 refine wp_region_lit ?_
 refine st_s hA (Runs.cells (fun b => Value.pointer (some ⟨b, 0, none⟩)) #[Value.int .i64 x.f, Value.int .i64 x.pc] 29 (fun _ => by kernel_rfl) hW ?_); clear hA ac hW; intro b1 w2 hW hb1 hfw2 ac hA
 refine st_p (Value.bool false) hA ?_; clear hA ac; intro ac hA
 refine wpList_nil ?_
 refine thenN ?_
 refine wp_seq ?_
 refine wp_region_lit ?_
 refine st_p (Value.pointer (some ⟨b1, 0, none⟩)) hA ?_; clear hA ac; intro ac hA
 refine st_q (Value.int .i64 x.f) hA hW.cls (Rd.load (b := b1) (i := 0) (by kernel_rfl) (fun _ hw => (hw.1).cel 0 rfl) (by kernel_rfl)) ?_; clear hA ac; intro ac hA
 refine st_p (Value.bool (decide ((x.f : Int) ≥ (0 : Int)))) hA ?_; clear hA ac; intro ac hA
 refine st_p (Value.bool (decide ((x.f : Int) ≥ (0 : Int)))) hA ?_; clear hA ac; intro ac hA
 rcases Bool.eq_false_or_eq_true (decide ((x.f : Int) ≥ (0 : Int))) with h3 | h3
 · skip
   rw [h3] at hA
   have h3 := of_decide_eq_true h3
   first
   | (exfalso; clear hA hW; omega)
   | (
     refine st_p (Value.pointer (some ⟨b1, 0, none⟩)) hA ?_; clear hA ac; intro ac hA
     refine st_q (Value.int .i64 x.f) hA hW.cls (Rd.load (b := b1) (i := 0) (by kernel_rfl) (fun _ hw => (hw.1).cel 0 rfl) (by kernel_rfl)) ?_; clear hA ac; intro ac hA
     refine st_p (Value.bool (decide ((x.f : Int) < (32 : Int)))) hA ?_; clear hA ac; intro ac hA
     refine st_p (Value.bool (decide ((x.f : Int) < (32 : Int)))) hA ?_; clear hA ac; intro ac hA
     refine st_p (Value.bool (decide ((x.f : Int) < (32 : Int)))) hA ?_; clear hA ac; intro ac hA
     rcases Bool.eq_false_or_eq_true (decide ((x.f : Int) < (32 : Int))) with h4 | h4
     · skip
       rw [h4] at hA
       have h4 := of_decide_eq_true h4
       first
       | (exfalso; clear hA hW; omega)
       | (
         refine st_p (Value.pointer (some ⟨b1, 1, none⟩)) hA ?_; clear hA ac; intro ac hA
         refine st_q (Value.int .i64 x.pc) hA hW.cls (Rd.load (b := b1) (i := 1) (by kernel_rfl) (fun _ hw => (hw.1).cel 0 rfl) (by kernel_rfl)) ?_; clear hA ac; intro ac hA
         refine st_p (Value.bool (decide ((x.pc : Int) ≥ (0 : Int)))) hA ?_; clear hA ac; intro ac hA
         refine st_p (Value.bool (decide ((x.pc : Int) ≥ (0 : Int)))) hA ?_; clear hA ac; intro ac hA
         refine st_p (Value.bool (decide ((x.pc : Int) ≥ (0 : Int)))) hA ?_; clear hA ac; intro ac hA
         rcases Bool.eq_false_or_eq_true (decide ((x.pc : Int) ≥ (0 : Int))) with h5 | h5
         · skip
           rw [h5] at hA
           have h5 := of_decide_eq_true h5
           first
           | (exfalso; clear hA hW; omega)
           | (
             refine st_p (Value.pointer (some ⟨b1, 1, none⟩)) hA ?_; clear hA ac; intro ac hA
             refine st_q (Value.int .i64 x.pc) hA hW.cls (Rd.load (b := b1) (i := 1) (by kernel_rfl) (fun _ hw => (hw.1).cel 0 rfl) (by kernel_rfl)) ?_; clear hA ac; intro ac hA
             refine st_p (Value.bool (decide ((x.pc : Int) < (512 : Int)))) hA ?_; clear hA ac; intro ac hA
             refine st_p (Value.bool (decide ((x.pc : Int) < (512 : Int)))) hA ?_; clear hA ac; intro ac hA
             refine st_p (Value.bool (decide ((x.pc : Int) < (512 : Int)))) hA ?_; clear hA ac; intro ac hA
             refine wpList_nil ?_
             refine thenN ?_
             refine wp_ret ?_
             refine ret1 (v := Value.bool (decide ((x.pc : Int) < (512 : Int)))) (by rfl) hA (Got.tmp hA (by kernel_rfl) (by kernel_rfl)) ?_
             clear hA
             exact ⟨retv (by (first | (simp [Site.ok]; done) | (simp [Site.ok]; omega) | (simp [Site.ok, *]; done) | (simp [Site.ok, *]; omega) | (simp_all [Site.ok]; done) | (simp_all [Site.ok]; omega) | (refine congrArg Value.bool (Bool.eq_iff_iff.2 ?_); simp [Site.ok]; (try simp only [*]); (try simp); omega) | (simp [Site.ok]; repeat' split; all_goals omega))), hW.fr⟩)
         · skip
           rw [h5] at hA
           have h5 := of_decide_eq_false h5
           first
           | (exfalso; clear hA hW; omega)
           | (
             refine st_k hA ?_; clear hA ac; intro ac hA
             refine st_k hA ?_; clear hA ac; intro ac hA
             refine st_k hA ?_; clear hA ac; intro ac hA
             refine st_p (Value.bool false) hA ?_; clear hA ac; intro ac hA
             refine st_p (Value.bool false) hA ?_; clear hA ac; intro ac hA
             refine wpList_nil ?_
             refine thenN ?_
             refine wp_ret ?_
             refine ret1 (v := Value.bool false) (by rfl) hA (Got.tmp hA (by kernel_rfl) (by kernel_rfl)) ?_
             clear hA
             exact ⟨retv (by (first | (simp [Site.ok]; done) | (simp [Site.ok]; omega) | (simp [Site.ok, *]; done) | (simp [Site.ok, *]; omega) | (simp_all [Site.ok]; done) | (simp_all [Site.ok]; omega) | (refine congrArg Value.bool (Bool.eq_iff_iff.2 ?_); simp [Site.ok]; (try simp only [*]); (try simp); omega) | (simp [Site.ok]; repeat' split; all_goals omega))), hW.fr⟩))
     · skip
       rw [h4] at hA
       have h4 := of_decide_eq_false h4
       first
       | (exfalso; clear hA hW; omega)
       | (
         refine st_k hA ?_; clear hA ac; intro ac hA
         refine st_k hA ?_; clear hA ac; intro ac hA
         refine st_k hA ?_; clear hA ac; intro ac hA
         refine st_p (Value.bool false) hA ?_; clear hA ac; intro ac hA
         refine st_p (Value.bool false) hA ?_; clear hA ac; intro ac hA
         refine st_k hA ?_; clear hA ac; intro ac hA
         refine st_k hA ?_; clear hA ac; intro ac hA
         refine st_k hA ?_; clear hA ac; intro ac hA
         refine st_p (Value.bool false) hA ?_; clear hA ac; intro ac hA
         refine st_p (Value.bool false) hA ?_; clear hA ac; intro ac hA
         refine wpList_nil ?_
         refine thenN ?_
         refine wp_ret ?_
         refine ret1 (v := Value.bool false) (by rfl) hA (Got.tmp hA (by kernel_rfl) (by kernel_rfl)) ?_
         clear hA
         exact ⟨retv (by (first | (simp [Site.ok]; done) | (simp [Site.ok]; omega) | (simp [Site.ok, *]; done) | (simp [Site.ok, *]; omega) | (simp_all [Site.ok]; done) | (simp_all [Site.ok]; omega) | (refine congrArg Value.bool (Bool.eq_iff_iff.2 ?_); simp [Site.ok]; (try simp only [*]); (try simp); omega) | (simp [Site.ok]; repeat' split; all_goals omega))), hW.fr⟩))
 · skip
   rw [h3] at hA
   have h3 := of_decide_eq_false h3
   first
   | (exfalso; clear hA hW; omega)
   | (
     refine st_k hA ?_; clear hA ac; intro ac hA
     refine st_k hA ?_; clear hA ac; intro ac hA
     refine st_k hA ?_; clear hA ac; intro ac hA
     refine st_p (Value.bool false) hA ?_; clear hA ac; intro ac hA
     refine st_p (Value.bool false) hA ?_; clear hA ac; intro ac hA
     refine st_k hA ?_; clear hA ac; intro ac hA
     refine st_k hA ?_; clear hA ac; intro ac hA
     refine st_k hA ?_; clear hA ac; intro ac hA
     refine st_p (Value.bool false) hA ?_; clear hA ac; intro ac hA
     refine st_p (Value.bool false) hA ?_; clear hA ac; intro ac hA
     refine st_k hA ?_; clear hA ac; intro ac hA
     refine st_k hA ?_; clear hA ac; intro ac hA
     refine st_k hA ?_; clear hA ac; intro ac hA
     refine st_p (Value.bool false) hA ?_; clear hA ac; intro ac hA
     refine st_p (Value.bool false) hA ?_; clear hA ac; intro ac hA
     refine wpList_nil ?_
     refine thenN ?_
     refine wp_ret ?_
     refine ret1 (v := Value.bool false) (by rfl) hA (Got.tmp hA (by kernel_rfl) (by kernel_rfl)) ?_
     clear hA
     exact ⟨retv (by (first | (simp [Site.ok]; done) | (simp [Site.ok]; omega) | (simp [Site.ok, *]; done) | (simp [Site.ok, *]; omega) | (simp_all [Site.ok]; done) | (simp_all [Site.ok]; omega) | (refine congrArg Value.bool (Bool.eq_iff_iff.2 ?_); simp [Site.ok]; (try simp only [*]); (try simp); omega) | (simp [Site.ok]; repeat' split; all_goals omega))), hW.fr⟩)

set_option maxRecDepth 100000 in
theorem e_rhalf (ep : Int) (si : Site) (w : World) (he : 0 ≤ ep ∧ ep ≤ 18446744073709551615) : Calls Try.prog 27 #[Value.int .u64 ep, si.v] w (fun e w' => e = .returned (Value.bool (shOk ep si)) ∧ Fr No w w') := by
 have _hu := he; clear _hu
 refine enter_E 23 Try.func27 rfl rfl (by kernel_rfl) (L := [(0, Value.int .u64 ep), (1, si.v)]) (by kernel_rfl) ?_
 intro ac hA
 have hW := Ws.start w No
 refine wp_seq ?_
 refine wp_region_lit ?_
 refine st_s hA (Runs.cells (fun b => Value.pointer (some ⟨b, 0, none⟩)) #[Value.int .i64 si.f, Value.int .i64 si.pc] 29 (fun _ => by kernel_rfl) hW ?_); clear hA ac hW; intro b1 w2 hW hb1 hfw2 ac hA
 refine st_p (Value.bool false) hA ?_; clear hA ac; intro ac hA
 refine wpList_nil ?_
 refine thenN ?_
 refine wp_seq ?_
 refine wp_seq ?_
 refine wp_region_lit ?_
 refine st_p (Value.int .u64 ep) hA ?_; clear hA ac; intro ac hA
 refine st_s hA (Runs.callN (v := Value.tuple #[Value.int .i64 (((ep) : Int) / 281474976710656), Value.int .u64 (((ep) : Int) % 281474976710656)]) (fun _ => by kernel_rfl) hW (e_rparts (ep) w2 (by first | omega | assumption)) ?_); clear hA ac hW; intro w3 hW hfw3 ac hA
 refine st_p (Value.tuple #[Value.int .i64 (((ep) : Int) / 281474976710656), Value.int .u64 (((ep) : Int) % 281474976710656)]) hA ?_; clear hA ac; intro ac hA
 refine st_p (Value.int .i64 (((ep) : Int) / 281474976710656)) hA ?_; clear hA ac; intro ac hA
 refine st_p (Value.int .u64 (((ep) : Int) % 281474976710656)) hA ?_; clear hA ac; intro ac hA
 refine st_p (Value.int .i64 (((ep) : Int) / 281474976710656)) hA ?_; clear hA ac; intro ac hA
 refine st_p (Value.int .u64 (((ep) : Int) % 281474976710656)) hA ?_; clear hA ac; intro ac hA
 refine wpList_nil ?_
 refine thenN ?_
 refine wp_seq ?_
 refine wp_region_lit ?_
 refine st_p (Value.int .u64 (((ep) : Int) % 281474976710656)) hA ?_; clear hA ac; intro ac hA
 refine st_p (Value.bool ((((ep) : Int) % 281474976710656 : Int) == (0 : Int))) hA ?_; clear hA ac; intro ac hA
 refine wpList_nil ?_
 refine thenN ?_
 refine wp_cond_split (t := (((ep) : Int) % 281474976710656 : Int) == (0 : Int)) (hA.eval (by kernel_rfl)) (fun h4 => ?_) (fun h4 => ?_)
 · skip
   have h4 := eq_of_beq h4
   first
   | (exfalso; clear hA hW; omega)
   | (
     refine wp_seq ?_
     refine wp_region_lit ?_
     refine st_p (Value.int .u64 ep) hA ?_; clear hA ac; intro ac hA
     refine st_p (Value.bool ((ep : Int) == (0 : Int))) hA ?_; clear hA ac; intro ac hA
     refine st_p (Value.bool ((ep : Int) == (0 : Int))) hA ?_; clear hA ac; intro ac hA
     rcases Bool.eq_false_or_eq_true ((ep : Int) == (0 : Int)) with h5 | h5
     · skip
       rw [h5] at hA
       have h5 := eq_of_beq h5
       first
       | (exfalso; clear hA hW; omega)
       | (
         refine st_q (Value.agg #[Value.int .i64 si.f, Value.int .i64 si.pc]) hA hW.cls (Rd.load (b := b1) (i := 0) (by kernel_rfl) (fun _ hw => (hw.1).cel 0 rfl) (by kernel_rfl)) ?_; clear hA ac; intro ac hA
         refine st_p (Value.agg #[Value.int .i64 0, Value.int .i64 0]) hA ?_; clear hA ac; intro ac hA
         refine st_q (Value.bool (decide (si = (⟨0, 0⟩ : Site)))) hA hW.cls (Rd.eqS (u := si.v) (v := (⟨0, 0⟩ : Site).v) (by kernel_rfl) (by kernel_rfl) rfl rfl (by kernel_rfl) (fun w => eq_Site w si (⟨0, 0⟩ : Site))) ?_; clear hA ac; intro ac hA
         refine st_p (Value.bool (decide (si = (⟨0, 0⟩ : Site)))) hA ?_; clear hA ac; intro ac hA
         refine st_p (Value.bool (decide (si = (⟨0, 0⟩ : Site)))) hA ?_; clear hA ac; intro ac hA
         refine wpList_nil ?_
         refine thenN ?_
         refine wp_ret ?_
         refine thenR ?_
         refine ret1 (v := Value.bool (decide (si = (⟨0, 0⟩ : Site)))) (by rfl) hA (Got.tmp hA (by kernel_rfl) (by kernel_rfl)) ?_
         clear hA
         exact ⟨retv (by (first | (unfold shOk; rw [if_neg (by omega)]; done) | (unfold shOk; rw [if_pos (by omega)]; simp_all; done) | (unfold shOk; rw [if_pos (by omega)]; refine congrArg Value.bool ?_; rw [Bool.eq_iff_iff]; simp_all))), hW.fr⟩)
     · skip
       rw [h5] at hA
       have h5 := ne_of_beq_false h5
       first
       | (exfalso; clear hA hW; omega)
       | (
         refine st_k hA ?_; clear hA ac; intro ac hA
         refine st_k hA ?_; clear hA ac; intro ac hA
         refine st_k hA ?_; clear hA ac; intro ac hA
         refine st_p (Value.bool false) hA ?_; clear hA ac; intro ac hA
         refine st_p (Value.bool false) hA ?_; clear hA ac; intro ac hA
         refine wpList_nil ?_
         refine thenN ?_
         refine wp_ret ?_
         refine thenR ?_
         refine ret1 (v := Value.bool false) (by rfl) hA (Got.tmp hA (by kernel_rfl) (by kernel_rfl)) ?_
         clear hA
         exact ⟨retv (by (first | (unfold shOk; rw [if_neg (by omega)]; done) | (unfold shOk; rw [if_pos (by omega)]; simp_all; done) | (unfold shOk; rw [if_pos (by omega)]; refine congrArg Value.bool ?_; rw [Bool.eq_iff_iff]; simp_all))), hW.fr⟩))
 · skip
   have h4 := ne_of_beq_false h4
   first
   | (exfalso; clear hA hW; omega)
   | (
     refine wp_skip ?_
     refine thenN ?_
     refine wp_seq ?_
     refine wp_region_lit ?_
     refine st_q (Value.agg #[Value.int .i64 si.f, Value.int .i64 si.pc]) hA hW.cls (Rd.load (b := b1) (i := 0) (by kernel_rfl) (fun _ hw => (hw.1).cel 0 rfl) (by kernel_rfl)) ?_; clear hA ac; intro ac hA
     refine st_s hA (Runs.callN (v := Value.bool (Site.ok si)) (fun _ => by kernel_rfl) hW (e_rsite si w3) ?_); clear hA ac hW; intro w6 hW hfw6 ac hA
     refine st_p (Value.bool (Site.ok si)) hA ?_; clear hA ac; intro ac hA
     refine wpList_nil ?_
     refine thenN ?_
     refine wp_ret ?_
     refine ret1 (v := Value.bool (Site.ok si)) (by rfl) hA (Got.tmp hA (by kernel_rfl) (by kernel_rfl)) ?_
     clear hA
     exact ⟨retv (by (first | (unfold shOk; rw [if_neg (by omega)]; done) | (unfold shOk; rw [if_pos (by omega)]; simp_all; done) | (unfold shOk; rw [if_pos (by omega)]; refine congrArg Value.bool ?_; rw [Bool.eq_iff_iff]; simp_all))), hW.fr⟩)

set_option maxRecDepth 100000 in
theorem e_rright (x : Shade) (w : World) (hx : (0 ≤ x.wr ∧ x.wr ≤ 18446744073709551615) ∧ (0 ≤ x.rd ∧ x.rd ≤ 18446744073709551615)) : Calls Try.prog 11 #[x.v] w (fun e w' => e = .returned (Value.bool (Shade.ok x)) ∧ Fr No w w') := by
 have _hu := hx; clear _hu
 refine enter_E 30 Try.func11 rfl rfl (by kernel_rfl) (L := [(0, x.v)]) (by kernel_rfl) ?_
 intro ac hA
 have hW := Ws.start w No
 refine wp_seq ?_
 refine wp_region_lit ?_
 refine st_s hA (Runs.cells (fun b => Value.pointer (some ⟨b, 0, none⟩)) #[Value.int .u64 x.wr, Value.int .i64 x.ws.f, Value.int .i64 x.ws.pc, Value.int .u64 x.rd, Value.int .i64 x.rs.f, Value.int .i64 x.rs.pc, Value.int .i64 x.vec] 31 (fun _ => by kernel_rfl) hW ?_); clear hA ac hW; intro b1 w2 hW hb1 hfw2 ac hA
 refine st_p (Value.bool false) hA ?_; clear hA ac; intro ac hA
 refine wpList_nil ?_
 refine thenN ?_
 refine wp_seq ?_
 refine wp_region_lit ?_
 refine st_p (Value.pointer (some ⟨b1, 0, none⟩)) hA ?_; clear hA ac; intro ac hA
 refine st_q (Value.int .u64 x.wr) hA hW.cls (Rd.load (b := b1) (i := 0) (by kernel_rfl) (fun _ hw => (hw.1).cel 0 rfl) (by kernel_rfl)) ?_; clear hA ac; intro ac hA
 refine st_p (Value.pointer (some ⟨b1, 1, none⟩)) hA ?_; clear hA ac; intro ac hA
 refine st_q (Value.agg #[Value.int .i64 x.ws.f, Value.int .i64 x.ws.pc]) hA hW.cls (Rd.load (b := b1) (i := 1) (by kernel_rfl) (fun _ hw => (hw.1).cel 0 rfl) (by kernel_rfl)) ?_; clear hA ac; intro ac hA
 refine st_s hA (Runs.callN (v := Value.bool (shOk (x.wr) x.ws)) (fun _ => by kernel_rfl) hW (e_rhalf (x.wr) x.ws w2 (by first | exact hx.1 | exact hx.2 | omega)) ?_); clear hA ac hW; intro w3 hW hfw3 ac hA
 refine st_p (Value.bool (shOk (x.wr) x.ws)) hA ?_; clear hA ac; intro ac hA
 rcases Bool.eq_false_or_eq_true (shOk (x.wr) x.ws) with h4 | h4
 · skip
   rw [h4] at hA
   first
   | (exfalso; clear hA hW; omega)
   | (
     refine st_p (Value.pointer (some ⟨b1, 3, none⟩)) hA ?_; clear hA ac; intro ac hA
     refine st_q (Value.int .u64 x.rd) hA hW.cls (Rd.load (b := b1) (i := 3) (by kernel_rfl) (fun _ hw => (hw.1).cel 0 rfl) (by kernel_rfl)) ?_; clear hA ac; intro ac hA
     refine st_p (Value.pointer (some ⟨b1, 4, none⟩)) hA ?_; clear hA ac; intro ac hA
     refine st_q (Value.agg #[Value.int .i64 x.rs.f, Value.int .i64 x.rs.pc]) hA hW.cls (Rd.load (b := b1) (i := 4) (by kernel_rfl) (fun _ hw => (hw.1).cel 0 rfl) (by kernel_rfl)) ?_; clear hA ac; intro ac hA
     refine st_s hA (Runs.callN (v := Value.bool (shOk (x.rd) x.rs)) (fun _ => by kernel_rfl) hW (e_rhalf (x.rd) x.rs w3 (by first | exact hx.1 | exact hx.2 | omega)) ?_); clear hA ac hW; intro w5 hW hfw5 ac hA
     refine st_p (Value.bool (shOk (x.rd) x.rs)) hA ?_; clear hA ac; intro ac hA
     refine st_p (Value.bool (shOk (x.rd) x.rs)) hA ?_; clear hA ac; intro ac hA
     rcases Bool.eq_false_or_eq_true (shOk (x.rd) x.rs) with h6 | h6
     · skip
       rw [h6] at hA
       first
       | (exfalso; clear hA hW; omega)
       | (
         refine st_p (Value.pointer (some ⟨b1, 6, none⟩)) hA ?_; clear hA ac; intro ac hA
         refine st_q (Value.int .i64 x.vec) hA hW.cls (Rd.load (b := b1) (i := 6) (by kernel_rfl) (fun _ hw => (hw.1).cel 0 rfl) (by kernel_rfl)) ?_; clear hA ac; intro ac hA
         refine st_p (Value.bool (decide ((x.vec : Int) ≥ (0 : Int)))) hA ?_; clear hA ac; intro ac hA
         refine st_p (Value.bool (decide ((x.vec : Int) ≥ (0 : Int)))) hA ?_; clear hA ac; intro ac hA
         refine st_p (Value.bool (decide ((x.vec : Int) ≥ (0 : Int)))) hA ?_; clear hA ac; intro ac hA
         rcases Bool.eq_false_or_eq_true (decide ((x.vec : Int) ≥ (0 : Int))) with h7 | h7
         · skip
           rw [h7] at hA
           have h7 := of_decide_eq_true h7
           first
           | (exfalso; clear hA hW; omega)
           | (
             refine st_p (Value.pointer (some ⟨b1, 6, none⟩)) hA ?_; clear hA ac; intro ac hA
             refine st_q (Value.int .i64 x.vec) hA hW.cls (Rd.load (b := b1) (i := 6) (by kernel_rfl) (fun _ hw => (hw.1).cel 0 rfl) (by kernel_rfl)) ?_; clear hA ac; intro ac hA
             refine st_p (Value.bool ((x.vec : Int) == (0 : Int))) hA ?_; clear hA ac; intro ac hA
             refine st_p (Value.bool ((x.vec : Int) == (0 : Int))) hA ?_; clear hA ac; intro ac hA
             rcases Bool.eq_false_or_eq_true ((x.vec : Int) == (0 : Int)) with h8 | h8
             · skip
               rw [h8] at hA
               have h8 := eq_of_beq h8
               first
               | (exfalso; clear hA hW; omega)
               | (
                 refine st_k hA ?_; clear hA ac; intro ac hA
                 refine st_k hA ?_; clear hA ac; intro ac hA
                 refine st_k hA ?_; clear hA ac; intro ac hA
                 refine st_p (Value.bool true) hA ?_; clear hA ac; intro ac hA
                 refine st_p (Value.bool true) hA ?_; clear hA ac; intro ac hA
                 refine st_p (Value.bool true) hA ?_; clear hA ac; intro ac hA
                 refine wpList_nil ?_
                 refine thenN ?_
                 refine wp_ret ?_
                 refine ret1 (v := Value.bool true) (by rfl) hA (Got.tmp hA (by kernel_rfl) (by kernel_rfl)) ?_
                 clear hA
                 exact ⟨retv (congrArg Value.bool (by unfold Shade.ok; first | (simp_all; done) | (simp_all; omega) | (rw [Bool.eq_iff_iff]; simp_all; done) | (rw [Bool.eq_iff_iff]; simp_all; omega))), hW.fr⟩)
             · skip
               rw [h8] at hA
               have h8 := ne_of_beq_false h8
               first
               | (exfalso; clear hA hW; omega)
               | (
                 refine st_p (Value.pointer (some ⟨b1, 3, none⟩)) hA ?_; clear hA ac; intro ac hA
                 refine st_q (Value.int .u64 x.rd) hA hW.cls (Rd.load (b := b1) (i := 3) (by kernel_rfl) (fun _ hw => (hw.1).cel 0 rfl) (by kernel_rfl)) ?_; clear hA ac; intro ac hA
                 refine st_p (Value.bool ((x.rd : Int) == (0 : Int))) hA ?_; clear hA ac; intro ac hA
                 refine st_p (Value.bool ((x.rd : Int) == (0 : Int))) hA ?_; clear hA ac; intro ac hA
                 refine st_p (Value.bool ((x.rd : Int) == (0 : Int))) hA ?_; clear hA ac; intro ac hA
                 refine st_p (Value.bool ((x.rd : Int) == (0 : Int))) hA ?_; clear hA ac; intro ac hA
                 refine wpList_nil ?_
                 refine thenN ?_
                 refine wp_ret ?_
                 refine ret1 (v := Value.bool ((x.rd : Int) == (0 : Int))) (by rfl) hA (Got.tmp hA (by kernel_rfl) (by kernel_rfl)) ?_
                 clear hA
                 exact ⟨retv (congrArg Value.bool (by unfold Shade.ok; first | (simp_all; done) | (simp_all; omega) | (rw [Bool.eq_iff_iff]; simp_all; done) | (rw [Bool.eq_iff_iff]; simp_all; omega))), hW.fr⟩))
         · skip
           rw [h7] at hA
           have h7 := of_decide_eq_false h7
           first
           | (exfalso; clear hA hW; omega)
           | (
             refine st_k hA ?_; clear hA ac; intro ac hA
             refine st_k hA ?_; clear hA ac; intro ac hA
             refine st_k hA ?_; clear hA ac; intro ac hA
             refine st_k hA ?_; clear hA ac; intro ac hA
             refine st_k hA ?_; clear hA ac; intro ac hA
             refine st_k hA ?_; clear hA ac; intro ac hA
             refine st_k hA ?_; clear hA ac; intro ac hA
             refine st_k hA ?_; clear hA ac; intro ac hA
             refine st_p (Value.bool false) hA ?_; clear hA ac; intro ac hA
             refine st_p (Value.bool false) hA ?_; clear hA ac; intro ac hA
             refine wpList_nil ?_
             refine thenN ?_
             refine wp_ret ?_
             refine ret1 (v := Value.bool false) (by rfl) hA (Got.tmp hA (by kernel_rfl) (by kernel_rfl)) ?_
             clear hA
             exact ⟨retv (congrArg Value.bool (by unfold Shade.ok; first | (simp_all; done) | (simp_all; omega) | (rw [Bool.eq_iff_iff]; simp_all; done) | (rw [Bool.eq_iff_iff]; simp_all; omega))), hW.fr⟩))
     · skip
       rw [h6] at hA
       first
       | (exfalso; clear hA hW; omega)
       | (
         refine st_k hA ?_; clear hA ac; intro ac hA
         refine st_k hA ?_; clear hA ac; intro ac hA
         refine st_k hA ?_; clear hA ac; intro ac hA
         refine st_p (Value.bool false) hA ?_; clear hA ac; intro ac hA
         refine st_p (Value.bool false) hA ?_; clear hA ac; intro ac hA
         refine st_k hA ?_; clear hA ac; intro ac hA
         refine st_k hA ?_; clear hA ac; intro ac hA
         refine st_k hA ?_; clear hA ac; intro ac hA
         refine st_k hA ?_; clear hA ac; intro ac hA
         refine st_k hA ?_; clear hA ac; intro ac hA
         refine st_k hA ?_; clear hA ac; intro ac hA
         refine st_k hA ?_; clear hA ac; intro ac hA
         refine st_k hA ?_; clear hA ac; intro ac hA
         refine st_p (Value.bool false) hA ?_; clear hA ac; intro ac hA
         refine st_p (Value.bool false) hA ?_; clear hA ac; intro ac hA
         refine wpList_nil ?_
         refine thenN ?_
         refine wp_ret ?_
         refine ret1 (v := Value.bool false) (by rfl) hA (Got.tmp hA (by kernel_rfl) (by kernel_rfl)) ?_
         clear hA
         exact ⟨retv (congrArg Value.bool (by unfold Shade.ok; first | (simp_all; done) | (simp_all; omega) | (rw [Bool.eq_iff_iff]; simp_all; done) | (rw [Bool.eq_iff_iff]; simp_all; omega))), hW.fr⟩))
 · skip
   rw [h4] at hA
   first
   | (exfalso; clear hA hW; omega)
   | (
     refine st_k hA ?_; clear hA ac; intro ac hA
     refine st_k hA ?_; clear hA ac; intro ac hA
     refine st_k hA ?_; clear hA ac; intro ac hA
     refine st_k hA ?_; clear hA ac; intro ac hA
     refine st_k hA ?_; clear hA ac; intro ac hA
     refine st_p (Value.bool false) hA ?_; clear hA ac; intro ac hA
     refine st_p (Value.bool false) hA ?_; clear hA ac; intro ac hA
     refine st_k hA ?_; clear hA ac; intro ac hA
     refine st_k hA ?_; clear hA ac; intro ac hA
     refine st_k hA ?_; clear hA ac; intro ac hA
     refine st_p (Value.bool false) hA ?_; clear hA ac; intro ac hA
     refine st_p (Value.bool false) hA ?_; clear hA ac; intro ac hA
     refine st_k hA ?_; clear hA ac; intro ac hA
     refine st_k hA ?_; clear hA ac; intro ac hA
     refine st_k hA ?_; clear hA ac; intro ac hA
     refine st_k hA ?_; clear hA ac; intro ac hA
     refine st_k hA ?_; clear hA ac; intro ac hA
     refine st_k hA ?_; clear hA ac; intro ac hA
     refine st_k hA ?_; clear hA ac; intro ac hA
     refine st_k hA ?_; clear hA ac; intro ac hA
     refine st_p (Value.bool false) hA ?_; clear hA ac; intro ac hA
     refine st_p (Value.bool false) hA ?_; clear hA ac; intro ac hA
     refine wpList_nil ?_
     refine thenN ?_
     refine wp_ret ?_
     refine ret1 (v := Value.bool false) (by rfl) hA (Got.tmp hA (by kernel_rfl) (by kernel_rfl)) ?_
     clear hA
     exact ⟨retv (congrArg Value.bool (by unfold Shade.ok; first | (simp_all; done) | (simp_all; omega) | (rw [Bool.eq_iff_iff]; simp_all; done) | (rw [Bool.eq_iff_iff]; simp_all; omega))), hW.fr⟩)

set_option maxRecDepth 100000 in
theorem e_rwords (A_l : Option Addr) (c_l : Nat) (l : List Int) (A_r : Option Addr) (c_r : Nat) (r : List Int) (w : World) (hr_l : RowAt w A_l 1 enU4 l) (hc_l : l.length ≤ c_l) (hr_r : RowAt w A_r 1 enU4 r) (hc_r : r.length ≤ c_r) (hl : l.length ≤ 1000000 ∧ r.length ≤ 1000000) : Calls Try.prog 21 #[Value.slice A_l l.length c_l, Value.slice A_r r.length c_r] w (fun e w' => e = .returned (Value.bool (decide (l = r))) ∧ Fr No w w') := by
 have _hu := hc_l; have _hv := hr_l; clear _hu _hv
 have _hu := hc_r; have _hv := hr_r; clear _hu _hv
 have _hu := hl; clear _hu
 refine enter_E 26 Try.func21 rfl rfl (by kernel_rfl) (L := [(0, Value.slice A_l l.length c_l), (1, Value.slice A_r r.length c_r)]) (by kernel_rfl) ?_
 intro ac hA
 have hW := Ws.start w No
 have hW := hW.arg hr_l
 have hW := hW.arg hr_r
 refine wp_seq ?_
 refine wp_region_lit ?_
 refine st_p (Value.bool false) hA ?_; clear hA ac; intro ac hA
 refine wpList_nil ?_
 refine thenN ?_
 refine wp_seq ?_
 refine wp_seq ?_
 refine wp_region_lit ?_
 refine st_p (Value.slice A_l l.length c_l) hA ?_; clear hA ac; intro ac hA
 refine st_p (Value.int .i64 ((l.length : Nat) : Int)) hA ?_; clear hA ac; intro ac hA
 refine st_p (Value.slice A_r r.length c_r) hA ?_; clear hA ac; intro ac hA
 refine st_p (Value.int .i64 ((r.length : Nat) : Int)) hA ?_; clear hA ac; intro ac hA
 refine st_p (Value.bool ((((l.length : Nat) : Int) : Int) != (((r.length : Nat) : Int) : Int))) hA ?_; clear hA ac; intro ac hA
 refine wpList_nil ?_
 refine thenN ?_
 refine wp_cond_split (t := (((l.length : Nat) : Int) : Int) != (((r.length : Nat) : Int) : Int)) (hA.eval (by kernel_rfl)) (fun h1 => ?_) (fun h1 => ?_)
 · skip
   have h1 := bne_iff_ne.1 h1
   first
   | (exfalso; clear hA hW; omega)
   | (
     refine wp_seq ?_
     refine wp_region_lit ?_
     refine st_p (Value.bool false) hA ?_; clear hA ac; intro ac hA
     refine wpList_nil ?_
     refine thenN ?_
     refine wp_ret ?_
     refine thenR ?_
     refine ret1 (v := Value.bool false) (by rfl) hA (Got.tmp hA (by kernel_rfl) (by kernel_rfl)) ?_
     clear hA
     refine ⟨retv (congrArg Value.bool (decide_eq_false ?_).symm), hW.fr⟩; intro e; subst e; exact absurd rfl (by omega))
 · skip
   have h1 := of_bne_f h1
   first
   | (exfalso; clear hA hW; omega)
   | (
     refine wp_skip ?_
     refine thenN ?_
     refine wp_seq ?_
     refine wp_seq ?_
     refine wp_region_lit ?_
     refine st_p (Value.int .i64 0) hA ?_; clear hA ac; intro ac hA
     refine wpList_nil ?_
     refine thenN ?_
     refine wp_block ?_
     refine wp_loop_m (fun m_ ac_ wl_ => ∃ k : Nat, m_ = l.length - k ∧ (k ≤ l.length) ∧ (l.take k = r.take k) ∧ Fm 26 [] [(0, Value.slice A_l l.length c_l), (1, Value.slice A_r r.length c_r), (5, Value.int .i64 ((k : Nat) : Int))] ac_ ∧ Ws w No [] [roR A_r 1 enU4 r, roR A_l 1 enU4 l] wl_) _ ⟨0, rfl, by omega, by rfl, hA.sub ⟨⟨by kernel_rfl, by kernel_rfl⟩, ⟨by kernel_rfl, by kernel_rfl⟩, ⟨by kernel_rfl, by kernel_rfl⟩, trivial⟩, (hW.pick [] (by decide) rfl).pickG [0, 1] rfl⟩ ?_
     clear hA ac hW; rintro m_ ac w2 ⟨k, rfl, hk, hn, hA, hW⟩
     refine wp_seq ?_
     refine wp_seq ?_
     refine wp_region_lit ?_
     refine st_p (Value.int .i64 ((k : Nat) : Int)) hA ?_; clear hA ac; intro ac hA
     refine st_p (Value.slice A_l l.length c_l) hA ?_; clear hA ac; intro ac hA
     refine st_p (Value.int .i64 ((l.length : Nat) : Int)) hA ?_; clear hA ac; intro ac hA
     refine st_p (Value.bool (decide ((((k : Nat) : Int) : Int) < (((l.length : Nat) : Int) : Int)))) hA ?_; clear hA ac; intro ac hA
     refine wpList_nil ?_
     refine thenN ?_
     refine wp_cond_split (t := decide ((((k : Nat) : Int) : Int) < (((l.length : Nat) : Int) : Int))) (hA.eval (by kernel_rfl)) (fun h3 => ?_) (fun h3 => ?_)
     · skip
       have h3 := of_decide_eq_true h3
       first
       | (exfalso; clear hA hW; omega)
       | (
         refine wp_skip ?_
         refine thenN ?_
         refine wp_seq ?_
         refine wp_block ?_
         refine wp_seq ?_
         refine q_region (by kernel_rfl) (by kernel_rfl) hW ?_
         refine sq_p (Value.slice A_l l.length c_l) hA ?_; clear hA ac; intro ac hA
         refine sq_p (Value.int .i64 ((k : Nat) : Int)) hA ?_; clear hA ac; intro ac hA
         obtain ⟨y4, hy4⟩ : ∃ y, l[k]? = some y := ⟨_, List.getElem?_eq_getElem (by first | omega | (simp; done) | (simp; omega))⟩
         obtain ⟨b5, o6, rfl, hbb5⟩ := row_some ((hW).getG 1 rfl) hy4
         refine sq_q (Value.pointer (some ⟨b5, o6 + k * 1, none⟩)) hA (Rd.indexAddr (e := 35) (sz := 1) (b := b5) (off := o6) (n := l.length) (c := c_l) (k := k) (by kernel_rfl) (by kernel_rfl) (by first | omega | (simp; done) | (simp; omega)) (fun _ => by kernel_rfl) (fun _ => by kernel_rfl)) ?_; clear hA ac; intro ac hA
         refine sq_q (Value.int .u32 y4) hA (Rd.loadRow (b := b5) (i := o6 + k * 1) (xs := [Value.int .u32 y4]) (by kernel_rfl) (fun _ hw => row_ld ((hw.1).getG 1 rfl) hy4 (Fr.refl No _) (fun h => h) 0 1 (by kernel_rfl)) (by kernel_rfl)) ?_; clear hA ac; intro ac hA
         refine sq_p (Value.slice A_r r.length c_r) hA ?_; clear hA ac; intro ac hA
         refine sq_p (Value.int .i64 ((k : Nat) : Int)) hA ?_; clear hA ac; intro ac hA
         obtain ⟨y7, hy7⟩ : ∃ y, r[k]? = some y := ⟨_, List.getElem?_eq_getElem (by first | omega | (simp; done) | (simp; omega))⟩
         obtain ⟨b8, o9, rfl, hbb8⟩ := row_some ((hW).getG 0 rfl) hy7
         refine sq_q (Value.pointer (some ⟨b8, o9 + k * 1, none⟩)) hA (Rd.indexAddr (e := 35) (sz := 1) (b := b8) (off := o9) (n := r.length) (c := c_r) (k := k) (by kernel_rfl) (by kernel_rfl) (by first | omega | (simp; done) | (simp; omega)) (fun _ => by kernel_rfl) (fun _ => by kernel_rfl)) ?_; clear hA ac; intro ac hA
         refine sq_q (Value.int .u32 y7) hA (Rd.loadRow (b := b8) (i := o9 + k * 1) (xs := [Value.int .u32 y7]) (by kernel_rfl) (fun _ hw => row_ld ((hw.1).getG 0 rfl) hy7 (Fr.refl No _) (fun h => h) 0 1 (by kernel_rfl)) (by kernel_rfl)) ?_; clear hA ac; intro ac hA
         refine sq_p (Value.bool ((y4 : Int) != (y7 : Int))) hA ?_; clear hA ac; intro ac hA
         refine sq_nil ?_; intro w10 hww10; have hW := hww10.1; have hfw10 := hww10.2; clear hww10
         refine thenN ?_
         refine wp_cond_split (t := (y4 : Int) != (y7 : Int)) (hA.eval (by kernel_rfl)) (fun h11 => ?_) (fun h11 => ?_)
         · skip
           have h11 := bne_iff_ne.1 h11
           first
           | (exfalso; clear hA hW; omega)
           | (
             refine wp_seq ?_
             refine wp_region_lit ?_
             refine st_p (Value.bool false) hA ?_; clear hA ac; intro ac hA
             refine wpList_nil ?_
             refine thenN ?_
             refine wp_ret ?_
             refine blkR ?_
             refine thenR ?_
             refine thenR ?_
             refine blkR ?_
             refine thenR ?_
             refine ret1 (v := Value.bool false) (by rfl) hA (Got.tmp hA (by kernel_rfl) (by kernel_rfl)) ?_
             clear hA
             refine ⟨retv (congrArg Value.bool (decide_eq_false ?_).symm), hW.fr⟩; intro e; subst e; rw [hy4] at hy7; have q_ := Option.some.inj hy7; omega)
         · skip
           have h11 := of_bne_f h11
           first
           | (exfalso; clear hA hW; omega)
           | (
             refine wp_skip ?_
             refine blkN ?_
             refine thenN ?_
             refine wp_region_lit ?_
             refine st_p (Value.int .i64 ((k : Nat) : Int)) hA ?_; clear hA ac; intro ac hA
             refine st_q (Value.int .i64 ((k + 1 : Nat) : Int)) hA hW.cls (Rd.pureE (v0 := Value.int .i64 (IntKind.i64.wrap ((((k : Nat) : Int) : Int) + 1))) (fun _ => by kernel_rfl) (congrArg (Value.int .i64) ((w_i64 (x := (((k : Nat) : Int) : Int) + 1) (by omega) (by omega)).trans (by omega)))) ?_; clear hA ac; intro ac hA
             refine st_p (Value.int .i64 ((k + 1 : Nat) : Int)) hA ?_; clear hA ac; intro ac hA
             refine wpList_nil ?_
             refine thenN ?_
             exact ⟨l.length - (k + 1), by omega, k + 1, rfl, by omega, by rw [tk_snoc hy4, tk_snoc hy7, hn, show y4 = y7 from by omega], hA.sub ⟨⟨by kernel_rfl, by kernel_rfl⟩, ⟨by kernel_rfl, by kernel_rfl⟩, ⟨by kernel_rfl, by kernel_rfl⟩, trivial⟩, (hW.pick [] (by decide) rfl).pickG [0, 1] rfl⟩))
     · skip
       have h3 := of_decide_eq_false h3
       first
       | (exfalso; clear hA hW; omega)
       | (
         refine wp_exit ?_
         refine thenX ?_
         refine thenX ?_
         refine blkX ?_
         refine thenN ?_
         refine wp_seq ?_
         refine wp_region_lit ?_
         refine st_p (Value.bool true) hA ?_; clear hA ac; intro ac hA
         refine wpList_nil ?_
         refine thenN ?_
         refine wp_ret ?_
         refine ret1 (v := Value.bool true) (by rfl) hA (Got.tmp hA (by kernel_rfl) (by kernel_rfl)) ?_
         clear hA
         refine ⟨retv (congrArg Value.bool (decide_eq_true ?_).symm), hW.fr⟩; rw [List.take_of_length_le (by omega), List.take_of_length_le (by omega)] at hn; exact hn))

set_option maxRecDepth 100000 in
theorem e_num22 (n : Int) (w : World)  : Calls Try.prog 19 #[Value.int .i64 n] w (fun e w' => e = .returned (Value.int .i64 n) ∧ w = w') := by
 refine enter_E 4 Try.func19 rfl rfl (by kernel_rfl) (L := [(0, Value.int .i64 n)]) (by kernel_rfl) ?_
 intro ac hA
 have hW := Ws.start w No
 refine wp_seq ?_
 refine wp_region_lit ?_
 refine st_p (Value.int .i64 0) hA ?_; clear hA ac; intro ac hA
 refine wpList_nil ?_
 refine thenN ?_
 refine wp_seq ?_
 refine wp_region_lit ?_
 refine st_p (Value.int .i64 n) hA ?_; clear hA ac; intro ac hA
 refine st_p (Value.int .i64 n) hA ?_; clear hA ac; intro ac hA
 refine wpList_nil ?_
 refine thenN ?_
 refine wp_ret ?_
 refine ret1 (v := Value.int .i64 n) (by rfl) hA (Got.tmp hA (by kernel_rfl) (by kernel_rfl)) ?_
 clear hA
 exact ⟨retv (by rfl), rfl⟩

set_option maxRecDepth 100000 in
theorem e_works22  (w : World)  : Calls Try.prog 7 #[] w (fun e w' => e = .returned (Value.bool true) ∧ Fr No w w') := by
 refine enter_E 69 Try.func7 rfl rfl (by kernel_rfl) (L := []) (by kernel_rfl) ?_
 intro ac hA
 have hW := Ws.start w No
 refine wp_seq ?_
 refine wp_region_lit ?_
 refine st_p (Value.bool false) hA ?_; clear hA ac; intro ac hA
 refine wpList_nil ?_
 refine thenN ?_
 refine wp_seq ?_
 refine wp_region_lit ?_
 refine st_s hA (Runs.call (fun _ => by kernel_rfl) (e_snew w) ?_)
 rintro _ w1 ⟨n2, n3, rfl, hu_⟩; refine ⟨_, rfl, ?_⟩; replace hW := hW.made hu_; clear hA ac; intro ac hA
 have hq4 : Rel22 0 ([] : List Cell22) ([] : List (Int × Nat × (Nat → Shade))) := Rel22.start
 refine st_p (Value.pointer (some ⟨n2, 0, none⟩)) hA ?_; clear hA ac; intro ac hA
 refine wpList_nil ?_
 refine thenN ?_
 refine wp_seq ?_
 refine wp_region_lit ?_
 refine st_p (Value.agg #[Value.int .i64 0, Value.int .i64 2]) hA ?_; clear hA ac; intro ac hA
 refine st_p (Value.agg #[Value.int .u64 1, Value.int .i64 0, Value.int .i64 2, Value.int .u64 0, Value.int .i64 0, Value.int .i64 0, Value.int .i64 0]) hA ?_; clear hA ac; intro ac hA
 refine st_s hA (Runs.cells (fun b => Value.pointer (some ⟨b, 0, none⟩)) #[Value.int .u64 0, Value.int .i64 0, Value.int .i64 0, Value.int .u64 0, Value.int .i64 0, Value.int .i64 0, Value.int .i64 0] 31 (fun _ => by kernel_rfl) hW ?_); clear hA ac hW; intro b5 w6 hW hb5 hfw6 ac hA
 refine st_s hA (Runs.store (v := Value.agg #[Value.int .u64 1, Value.int .i64 0, Value.int .i64 2, Value.int .u64 0, Value.int .i64 0, Value.int .i64 0, Value.int .i64 0]) (b := b5) (j := 0) (n := 7) (cs' := #[Value.int .u64 1, Value.int .i64 0, Value.int .i64 2, Value.int .u64 0, Value.int .i64 0, Value.int .i64 0, Value.int .i64 0]) (H' := [Cel b5 #[Value.int .u64 1, Value.int .i64 0, Value.int .i64 2, Value.int .u64 0, Value.int .i64 0, Value.int .i64 0, Value.int .i64 0] 31, ShR n2 n3 ([] : List (Int × Nat × (Nat → Shade)))]) (by kernel_rfl) (by kernel_rfl) (by kernel_rfl) (by kernel_rfl) (by kernel_rfl) hW 0 (by rfl) (Nat.le_of_ble_eq_true (by kernel_rfl)) (by kernel_rfl) (by rfl) ?_); clear hA ac hW; intro w7 hW ac hA
 refine wpList_nil ?_
 refine thenN ?_
 refine wp_seq ?_
 refine wp_region_lit ?_
 refine st_p (Value.pointer (some ⟨n2, 0, none⟩)) hA ?_; clear hA ac; intro ac hA
 refine st_q (Value.agg #[Value.int .u64 1, Value.int .i64 0, Value.int .i64 2, Value.int .u64 0, Value.int .i64 0, Value.int .i64 0, Value.int .i64 0]) hA hW.cls (Rd.load (b := b5) (i := 0) (by kernel_rfl) (fun _ hw => (hw.1).cel 0 rfl) (by kernel_rfl)) ?_; clear hA ac; intro ac hA
 refine st_s hA (Runs.call (fun _ => by kernel_rfl) (e_lay n2 n3 ([] : List (Int × Nat × (Nat → Shade))) (4096) (⟨1, (⟨0, 2⟩ : Site), 0, (⟨0, 0⟩ : Site), 0⟩ : Shade) w7 ((hW).get 1 rfl) ((hW).lt _ (List.mem_of_getElem? (i := 1) rfl)) (by first | omega | assumption | (simp; done) | (constructor <;> (simp; done)) | (constructor <;> omega) | (constructor <;> first | (simp; done) | (rw [hpg_, hpgs_]; simp; done) | (rw [hvc_, hvcs_]; simp; done))) (by first | omega | assumption | (simp; done) | (constructor <;> (simp; done)) | (constructor <;> omega) | (constructor <;> first | (simp; done) | (rw [hpg_, hpgs_]; simp; done) | (rw [hvc_, hvcs_]; simp; done)))) ?_)
 rintro _ w8 ⟨u9, u10, u11, rfl, hw8_hE, hw8_hL, hu_⟩; refine ⟨_, rfl, ?_⟩; replace hW := hW.upd (H' := [Cel b5 #[Value.int .u64 1, Value.int .i64 0, Value.int .i64 2, Value.int .u64 0, Value.int .i64 0, Value.int .i64 0, Value.int .i64 0] 31, ShR n2 n3 u9]) 1 rfl hu_ rfl; clear hA ac; intro ac hA
 have hok1 : Shade.ok (⟨1, (⟨0, 2⟩ : Site), 0, (⟨0, 0⟩ : Site), 0⟩ : Shade) = true := by decide
 have hlr1 := hw8_hL; rw [if_pos hok1] at hlr1; have hee1 : u11 = 0 := by rw [hw8_hE, hok1]; rfl
 have hq12 : Rel22 (0 + 1) (layL ([] : List Cell22) (4096) (⟨1, (⟨0, 2⟩ : Site), 0, (⟨0, 0⟩ : Site), 0⟩ : Shade)) u9 := hq4.lay hlr1.1 (by omega)
 have hwas1 : u10 = atL ([] : List Cell22) (4096) := by rw [hlr1.2, hq4.at_]
 refine st_p (Value.tuple #[u10.v, Value.int .i64 u11]) hA ?_; clear hA ac; intro ac hA
 refine st_p (u10.v) hA ?_; clear hA ac; intro ac hA
 refine st_p (Value.int .i64 u11) hA ?_; clear hA ac; intro ac hA
 refine st_s hA (Runs.cells (fun b => Value.pointer (some ⟨b, 0, none⟩)) #[Value.int .u64 0, Value.int .i64 0, Value.int .i64 0, Value.int .u64 0, Value.int .i64 0, Value.int .i64 0, Value.int .i64 0] 31 (fun _ => by kernel_rfl) hW ?_); clear hA ac hW; intro b13 w14 hW hb13 hfw14 ac hA
 refine st_s hA (Runs.store (v := u10.v) (b := b13) (j := 0) (n := 7) (cs' := #[Value.int .u64 u10.wr, Value.int .i64 u10.ws.f, Value.int .i64 u10.ws.pc, Value.int .u64 u10.rd, Value.int .i64 u10.rs.f, Value.int .i64 u10.rs.pc, Value.int .i64 u10.vec]) (H' := [Cel b13 #[Value.int .u64 u10.wr, Value.int .i64 u10.ws.f, Value.int .i64 u10.ws.pc, Value.int .u64 u10.rd, Value.int .i64 u10.rs.f, Value.int .i64 u10.rs.pc, Value.int .i64 u10.vec] 31, Cel b5 #[Value.int .u64 1, Value.int .i64 0, Value.int .i64 2, Value.int .u64 0, Value.int .i64 0, Value.int .i64 0, Value.int .i64 0] 31, ShR n2 n3 u9]) (by kernel_rfl) (by kernel_rfl) (by kernel_rfl) (by kernel_rfl) (by kernel_rfl) hW 0 (by rfl) (Nat.le_of_ble_eq_true (by kernel_rfl)) (by kernel_rfl) (by rfl) ?_); clear hA ac hW; intro w15 hW ac hA
 refine st_p (Value.int .i64 u11) hA ?_; clear hA ac; intro ac hA
 refine wpList_nil ?_
 refine thenN ?_
 refine wp_seq ?_
 refine wp_region_lit ?_
 refine st_p (Value.pointer (some ⟨n2, 0, none⟩)) hA ?_; clear hA ac; intro ac hA
 refine st_p (Value.agg #[Value.int .u64 0, Value.int .i64 0, Value.int .i64 0, Value.int .u64 0, Value.int .i64 0, Value.int .i64 0, Value.int .i64 1]) hA ?_; clear hA ac; intro ac hA
 refine st_s hA (Runs.call (fun _ => by kernel_rfl) (e_lay n2 n3 u9 (4096) (⟨0, (⟨0, 0⟩ : Site), 0, (⟨0, 0⟩ : Site), 1⟩ : Shade) w15 ((hW).get 2 rfl) ((hW).lt _ (List.mem_of_getElem? (i := 2) rfl)) (by first | omega | assumption | (simp; done) | (constructor <;> (simp; done)) | (constructor <;> omega) | (constructor <;> first | (simp; done) | (rw [hpg_, hpgs_]; simp; done) | (rw [hvc_, hvcs_]; simp; done))) (by first | omega | assumption | (simp; done) | (constructor <;> (simp; done)) | (constructor <;> omega) | (constructor <;> first | (simp; done) | (rw [hpg_, hpgs_]; simp; done) | (rw [hvc_, hvcs_]; simp; done)))) ?_)
 rintro _ w16 ⟨u17, u18, u19, rfl, hw16_hE, hw16_hL, hu_⟩; refine ⟨_, rfl, ?_⟩; replace hW := hW.upd (H' := [Cel b13 #[Value.int .u64 u10.wr, Value.int .i64 u10.ws.f, Value.int .i64 u10.ws.pc, Value.int .u64 u10.rd, Value.int .i64 u10.rs.f, Value.int .i64 u10.rs.pc, Value.int .i64 u10.vec] 31, Cel b5 #[Value.int .u64 1, Value.int .i64 0, Value.int .i64 2, Value.int .u64 0, Value.int .i64 0, Value.int .i64 0, Value.int .i64 0] 31, ShR n2 n3 u17]) 2 rfl hu_ rfl; clear hA ac; intro ac hA
 have hok2 : Shade.ok (⟨0, (⟨0, 0⟩ : Site), 0, (⟨0, 0⟩ : Site), 1⟩ : Shade) = true := by decide
 have hlr2 := hw16_hL; rw [if_pos hok2] at hlr2; have hee2 : u19 = 0 := by rw [hw16_hE, hok2]; rfl
 have hq20 : Rel22 (0 + 1 + 1) (layL (layL ([] : List Cell22) (4096) (⟨1, (⟨0, 2⟩ : Site), 0, (⟨0, 0⟩ : Site), 0⟩ : Shade)) (4096) (⟨0, (⟨0, 0⟩ : Site), 0, (⟨0, 0⟩ : Site), 1⟩ : Shade)) u17 := hq12.lay hlr2.1 (by omega)
 have hwas2 : u18 = atL (layL ([] : List Cell22) (4096) (⟨1, (⟨0, 2⟩ : Site), 0, (⟨0, 0⟩ : Site), 0⟩ : Shade)) (4096) := by rw [hlr2.2, hq12.at_]
 refine st_p (Value.tuple #[u18.v, Value.int .i64 u19]) hA ?_; clear hA ac; intro ac hA
 refine st_p (u18.v) hA ?_; clear hA ac; intro ac hA
 refine st_p (Value.int .i64 u19) hA ?_; clear hA ac; intro ac hA
 refine st_s hA (Runs.cells (fun b => Value.pointer (some ⟨b, 0, none⟩)) #[Value.int .u64 0, Value.int .i64 0, Value.int .i64 0, Value.int .u64 0, Value.int .i64 0, Value.int .i64 0, Value.int .i64 0] 31 (fun _ => by kernel_rfl) hW ?_); clear hA ac hW; intro b21 w22 hW hb21 hfw22 ac hA
 refine st_s hA (Runs.store (v := u18.v) (b := b21) (j := 0) (n := 7) (cs' := #[Value.int .u64 u18.wr, Value.int .i64 u18.ws.f, Value.int .i64 u18.ws.pc, Value.int .u64 u18.rd, Value.int .i64 u18.rs.f, Value.int .i64 u18.rs.pc, Value.int .i64 u18.vec]) (H' := [Cel b21 #[Value.int .u64 u18.wr, Value.int .i64 u18.ws.f, Value.int .i64 u18.ws.pc, Value.int .u64 u18.rd, Value.int .i64 u18.rs.f, Value.int .i64 u18.rs.pc, Value.int .i64 u18.vec] 31, Cel b13 #[Value.int .u64 u10.wr, Value.int .i64 u10.ws.f, Value.int .i64 u10.ws.pc, Value.int .u64 u10.rd, Value.int .i64 u10.rs.f, Value.int .i64 u10.rs.pc, Value.int .i64 u10.vec] 31, Cel b5 #[Value.int .u64 1, Value.int .i64 0, Value.int .i64 2, Value.int .u64 0, Value.int .i64 0, Value.int .i64 0, Value.int .i64 0] 31, ShR n2 n3 u17]) (by kernel_rfl) (by kernel_rfl) (by kernel_rfl) (by kernel_rfl) (by kernel_rfl) hW 0 (by rfl) (Nat.le_of_ble_eq_true (by kernel_rfl)) (by kernel_rfl) (by rfl) ?_); clear hA ac hW; intro w23 hW ac hA
 refine st_p (Value.int .i64 u19) hA ?_; clear hA ac; intro ac hA
 refine wpList_nil ?_
 refine thenN ?_
 refine wp_seq ?_
 refine wp_region_lit ?_
 refine st_p (Value.pointer (some ⟨n2, 0, none⟩)) hA ?_; clear hA ac; intro ac hA
 refine st_p (Value.agg #[Value.int .u64 0, Value.int .i64 0, Value.int .i64 0, Value.int .u64 1, Value.int .i64 0, Value.int .i64 0, Value.int .i64 1]) hA ?_; clear hA ac; intro ac hA
 refine st_s hA (Runs.call (fun _ => by kernel_rfl) (e_lay n2 n3 u17 (5) (⟨0, (⟨0, 0⟩ : Site), 1, (⟨0, 0⟩ : Site), 1⟩ : Shade) w23 ((hW).get 3 rfl) ((hW).lt _ (List.mem_of_getElem? (i := 3) rfl)) (by first | omega | assumption | (simp; done) | (constructor <;> (simp; done)) | (constructor <;> omega) | (constructor <;> first | (simp; done) | (rw [hpg_, hpgs_]; simp; done) | (rw [hvc_, hvcs_]; simp; done))) (by first | omega | assumption | (simp; done) | (constructor <;> (simp; done)) | (constructor <;> omega) | (constructor <;> first | (simp; done) | (rw [hpg_, hpgs_]; simp; done) | (rw [hvc_, hvcs_]; simp; done)))) ?_)
 rintro _ w24 ⟨u25, u26, u27, rfl, hw24_hE, hw24_hL, hu_⟩; refine ⟨_, rfl, ?_⟩; replace hW := hW.upd (H' := [Cel b21 #[Value.int .u64 u18.wr, Value.int .i64 u18.ws.f, Value.int .i64 u18.ws.pc, Value.int .u64 u18.rd, Value.int .i64 u18.rs.f, Value.int .i64 u18.rs.pc, Value.int .i64 u18.vec] 31, Cel b13 #[Value.int .u64 u10.wr, Value.int .i64 u10.ws.f, Value.int .i64 u10.ws.pc, Value.int .u64 u10.rd, Value.int .i64 u10.rs.f, Value.int .i64 u10.rs.pc, Value.int .i64 u10.vec] 31, Cel b5 #[Value.int .u64 1, Value.int .i64 0, Value.int .i64 2, Value.int .u64 0, Value.int .i64 0, Value.int .i64 0, Value.int .i64 0] 31, ShR n2 n3 u25]) 3 rfl hu_ rfl; clear hA ac; intro ac hA
 have hok3 : Shade.ok (⟨0, (⟨0, 0⟩ : Site), 1, (⟨0, 0⟩ : Site), 1⟩ : Shade) = false := by decide
 have hlr3 := hw24_hL; rw [if_neg (by rw [hok3]; simp)] at hlr3; have hee3 : u27 = 2 := by rw [hw24_hE, hok3]; rfl
 have hq28 : Rel22 (0 + 1 + 1) (layL (layL ([] : List Cell22) (4096) (⟨1, (⟨0, 2⟩ : Site), 0, (⟨0, 0⟩ : Site), 0⟩ : Shade)) (4096) (⟨0, (⟨0, 0⟩ : Site), 0, (⟨0, 0⟩ : Site), 1⟩ : Shade)) u25 := by rw [hlr3.1]; exact hq20
 have hrw_ := hq28.len; have hrh_ := hq28.hn
 have hpgs_ : pagesM (layL (layL ([] : List Cell22) (4096) (⟨1, (⟨0, 2⟩ : Site), 0, (⟨0, 0⟩ : Site), 0⟩ : Shade)) (4096) (⟨0, (⟨0, 0⟩ : Site), 0, (⟨0, 0⟩ : Site), 1⟩ : Shade)) = [1] := (by decide); have hvcs_ : ((layL (layL ([] : List Cell22) (4096) (⟨1, (⟨0, 2⟩ : Site), 0, (⟨0, 0⟩ : Site), 0⟩ : Shade)) (4096) (⟨0, (⟨0, 0⟩ : Site), 0, (⟨0, 0⟩ : Site), 1⟩ : Shade)).filter (fun c => decide (c.x.vec > 0))).map (·.addr) = [4096] := (by decide); have hat_ : atL (layL (layL ([] : List Cell22) (4096) (⟨1, (⟨0, 2⟩ : Site), 0, (⟨0, 0⟩ : Site), 0⟩ : Shade)) (4096) (⟨0, (⟨0, 0⟩ : Site), 0, (⟨0, 0⟩ : Site), 1⟩ : Shade)) 4097 = zSh := (by decide)
 have hw1_ : atL ([] : List Cell22) 4096 = zSh := rfl
 refine st_p (Value.tuple #[u26.v, Value.int .i64 u27]) hA ?_; clear hA ac; intro ac hA
 refine st_p (u26.v) hA ?_; clear hA ac; intro ac hA
 refine st_p (Value.int .i64 u27) hA ?_; clear hA ac; intro ac hA
 refine st_s hA (Runs.cells (fun b => Value.pointer (some ⟨b, 0, none⟩)) #[Value.int .u64 0, Value.int .i64 0, Value.int .i64 0, Value.int .u64 0, Value.int .i64 0, Value.int .i64 0, Value.int .i64 0] 31 (fun _ => by kernel_rfl) hW ?_); clear hA ac hW; intro b29 w30 hW hb29 hfw30 ac hA
 refine st_s hA (Runs.store (v := u26.v) (b := b29) (j := 0) (n := 7) (cs' := #[Value.int .u64 u26.wr, Value.int .i64 u26.ws.f, Value.int .i64 u26.ws.pc, Value.int .u64 u26.rd, Value.int .i64 u26.rs.f, Value.int .i64 u26.rs.pc, Value.int .i64 u26.vec]) (H' := [Cel b29 #[Value.int .u64 u26.wr, Value.int .i64 u26.ws.f, Value.int .i64 u26.ws.pc, Value.int .u64 u26.rd, Value.int .i64 u26.rs.f, Value.int .i64 u26.rs.pc, Value.int .i64 u26.vec] 31, Cel b21 #[Value.int .u64 u18.wr, Value.int .i64 u18.ws.f, Value.int .i64 u18.ws.pc, Value.int .u64 u18.rd, Value.int .i64 u18.rs.f, Value.int .i64 u18.rs.pc, Value.int .i64 u18.vec] 31, Cel b13 #[Value.int .u64 u10.wr, Value.int .i64 u10.ws.f, Value.int .i64 u10.ws.pc, Value.int .u64 u10.rd, Value.int .i64 u10.rs.f, Value.int .i64 u10.rs.pc, Value.int .i64 u10.vec] 31, Cel b5 #[Value.int .u64 1, Value.int .i64 0, Value.int .i64 2, Value.int .u64 0, Value.int .i64 0, Value.int .i64 0, Value.int .i64 0] 31, ShR n2 n3 u25]) (by kernel_rfl) (by kernel_rfl) (by kernel_rfl) (by kernel_rfl) (by kernel_rfl) hW 0 (by rfl) (Nat.le_of_ble_eq_true (by kernel_rfl)) (by kernel_rfl) (by rfl) ?_); clear hA ac hW; intro w31 hW ac hA
 refine st_p (Value.int .i64 u27) hA ?_; clear hA ac; intro ac hA
 refine wpList_nil ?_
 refine thenN ?_
 refine wp_seq ?_
 refine wp_region_lit ?_
 refine st_q (Value.agg #[Value.int .u64 u10.wr, Value.int .i64 u10.ws.f, Value.int .i64 u10.ws.pc, Value.int .u64 u10.rd, Value.int .i64 u10.rs.f, Value.int .i64 u10.rs.pc, Value.int .i64 u10.vec]) hA hW.cls (Rd.load (b := b13) (i := 0) (by kernel_rfl) (fun _ hw => (hw.1).cel 2 rfl) (by kernel_rfl)) ?_; clear hA ac; intro ac hA
 refine st_p (Value.agg #[Value.int .u64 0, Value.int .i64 0, Value.int .i64 0, Value.int .u64 0, Value.int .i64 0, Value.int .i64 0, Value.int .i64 0]) hA ?_; clear hA ac; intro ac hA
 refine st_q (Value.bool (decide (u10 = (⟨0, (⟨0, 0⟩ : Site), 0, (⟨0, 0⟩ : Site), 0⟩ : Shade)))) hA hW.cls (Rd.eqS (u := u10.v) (v := (⟨0, (⟨0, 0⟩ : Site), 0, (⟨0, 0⟩ : Site), 0⟩ : Shade).v) (by kernel_rfl) (by kernel_rfl) rfl rfl (by kernel_rfl) (fun w => eq_Shade w u10 (⟨0, (⟨0, 0⟩ : Site), 0, (⟨0, 0⟩ : Site), 0⟩ : Shade))) ?_; clear hA ac; intro ac hA
 refine st_p (Value.bool (decide (u10 = (⟨0, (⟨0, 0⟩ : Site), 0, (⟨0, 0⟩ : Site), 0⟩ : Shade)))) hA ?_; clear hA ac; intro ac hA
 rcases Bool.eq_false_or_eq_true (decide (u10 = (⟨0, (⟨0, 0⟩ : Site), 0, (⟨0, 0⟩ : Site), 0⟩ : Shade))) with h32 | h32
 · skip
   rw [h32] at hA
   have h32 := of_decide_eq_true h32
   have h32e := (Shade.eqi _ _).1 h32
   first
   | (exfalso; clear hA hW; omega)
   | (exfalso; clear hA hW; exact h32 (hwas1.trans hw1_); done)
   | (exfalso; clear hA hW; refine h32 ?_; rw [hwas2]; rfl; done)
   | (exfalso; clear hA hW; refine h32 ?_; rw [hpg_, hpgs_]; done)
   | (exfalso; clear hA hW; refine h32 ?_; rw [hvc_, hvcs_]; done)
   | (exfalso; clear hA hW; refine h32 ?_; rw [hq28.at_]; exact hat_; done)
   | (
     refine st_q (Value.agg #[Value.int .u64 u18.wr, Value.int .i64 u18.ws.f, Value.int .i64 u18.ws.pc, Value.int .u64 u18.rd, Value.int .i64 u18.rs.f, Value.int .i64 u18.rs.pc, Value.int .i64 u18.vec]) hA hW.cls (Rd.load (b := b21) (i := 0) (by kernel_rfl) (fun _ hw => (hw.1).cel 1 rfl) (by kernel_rfl)) ?_; clear hA ac; intro ac hA
     refine st_q (Value.agg #[Value.int .u64 1, Value.int .i64 0, Value.int .i64 2, Value.int .u64 0, Value.int .i64 0, Value.int .i64 0, Value.int .i64 0]) hA hW.cls (Rd.load (b := b5) (i := 0) (by kernel_rfl) (fun _ hw => (hw.1).cel 3 rfl) (by kernel_rfl)) ?_; clear hA ac; intro ac hA
     refine st_q (Value.bool (decide (u18 = (⟨1, (⟨0, 2⟩ : Site), 0, (⟨0, 0⟩ : Site), 0⟩ : Shade)))) hA hW.cls (Rd.eqS (u := u18.v) (v := (⟨1, (⟨0, 2⟩ : Site), 0, (⟨0, 0⟩ : Site), 0⟩ : Shade).v) (by kernel_rfl) (by kernel_rfl) rfl rfl (by kernel_rfl) (fun w => eq_Shade w u18 (⟨1, (⟨0, 2⟩ : Site), 0, (⟨0, 0⟩ : Site), 0⟩ : Shade))) ?_; clear hA ac; intro ac hA
     refine st_p (Value.bool (decide (u18 = (⟨1, (⟨0, 2⟩ : Site), 0, (⟨0, 0⟩ : Site), 0⟩ : Shade)))) hA ?_; clear hA ac; intro ac hA
     refine st_p (Value.bool (decide (u18 = (⟨1, (⟨0, 2⟩ : Site), 0, (⟨0, 0⟩ : Site), 0⟩ : Shade)))) hA ?_; clear hA ac; intro ac hA
     rcases Bool.eq_false_or_eq_true (decide (u18 = (⟨1, (⟨0, 2⟩ : Site), 0, (⟨0, 0⟩ : Site), 0⟩ : Shade))) with h33 | h33
     · skip
       rw [h33] at hA
       have h33 := of_decide_eq_true h33
       have h33e := (Shade.eqi _ _).1 h33
       first
       | (exfalso; clear hA hW; omega)
       | (exfalso; clear hA hW; exact h33 (hwas1.trans hw1_); done)
       | (exfalso; clear hA hW; refine h33 ?_; rw [hwas2]; rfl; done)
       | (exfalso; clear hA hW; refine h33 ?_; rw [hpg_, hpgs_]; done)
       | (exfalso; clear hA hW; refine h33 ?_; rw [hvc_, hvcs_]; done)
       | (exfalso; clear hA hW; refine h33 ?_; rw [hq28.at_]; exact hat_; done)
       | (
         refine st_p (Value.int .i64 u11) hA ?_; clear hA ac; intro ac hA
         refine st_s hA (Runs.callS (v := Value.int .i64 (u11)) (fun _ => by kernel_rfl) (e_num22 (u11) w31) ?_); clear hA ac; intro  ac hA
         refine st_p (Value.int .i64 u19) hA ?_; clear hA ac; intro ac hA
         refine st_s hA (Runs.callS (v := Value.int .i64 (u19)) (fun _ => by kernel_rfl) (e_num22 (u19) w31) ?_); clear hA ac; intro  ac hA
         refine st_q (Value.int .i64 (((u11) : Int) + (u19))) hA hW.cls (Rd.pureE (v0 := Value.int .i64 (IntKind.i64.wrap (((u11) : Int) + (u19)))) (fun _ => by kernel_rfl) (congrArg (Value.int .i64) ((w_i64 (x := ((u11) : Int) + (u19)) (by omega) (by omega)).trans (by omega)))) ?_; clear hA ac; intro ac hA
         refine st_p (Value.bool ((((u11) : Int) + (u19) : Int) == (0 : Int))) hA ?_; clear hA ac; intro ac hA
         refine st_p (Value.bool ((((u11) : Int) + (u19) : Int) == (0 : Int))) hA ?_; clear hA ac; intro ac hA
         refine st_p (Value.bool ((((u11) : Int) + (u19) : Int) == (0 : Int))) hA ?_; clear hA ac; intro ac hA
         rcases Bool.eq_false_or_eq_true ((((u11) : Int) + (u19) : Int) == (0 : Int)) with h34 | h34
         · skip
           rw [h34] at hA
           have h34 := eq_of_beq h34
           first
           | (exfalso; clear hA hW; omega)
           | (exfalso; clear hA hW; exact h34 (hwas1.trans hw1_); done)
           | (exfalso; clear hA hW; refine h34 ?_; rw [hwas2]; rfl; done)
           | (exfalso; clear hA hW; refine h34 ?_; rw [hpg_, hpgs_]; done)
           | (exfalso; clear hA hW; refine h34 ?_; rw [hvc_, hvcs_]; done)
           | (exfalso; clear hA hW; refine h34 ?_; rw [hq28.at_]; exact hat_; done)
           | (
             refine st_p (Value.int .i64 u27) hA ?_; clear hA ac; intro ac hA
             refine st_s hA (Runs.callS (v := Value.int .i64 (u27)) (fun _ => by kernel_rfl) (e_num22 (u27) w31) ?_); clear hA ac; intro  ac hA
             refine st_p (Value.bool (((u27) : Int) == (2 : Int))) hA ?_; clear hA ac; intro ac hA
             refine st_p (Value.bool (((u27) : Int) == (2 : Int))) hA ?_; clear hA ac; intro ac hA
             refine st_p (Value.bool (((u27) : Int) == (2 : Int))) hA ?_; clear hA ac; intro ac hA
             rcases Bool.eq_false_or_eq_true (((u27) : Int) == (2 : Int)) with h35 | h35
             · skip
               rw [h35] at hA
               have h35 := eq_of_beq h35
               first
               | (exfalso; clear hA hW; omega)
               | (exfalso; clear hA hW; exact h35 (hwas1.trans hw1_); done)
               | (exfalso; clear hA hW; refine h35 ?_; rw [hwas2]; rfl; done)
               | (exfalso; clear hA hW; refine h35 ?_; rw [hpg_, hpgs_]; done)
               | (exfalso; clear hA hW; refine h35 ?_; rw [hvc_, hvcs_]; done)
               | (exfalso; clear hA hW; refine h35 ?_; rw [hq28.at_]; exact hat_; done)
               | (
                 refine st_p (Value.pointer (some ⟨n2, 0, none⟩)) hA ?_; clear hA ac; intro ac hA
                 refine st_s hA (Runs.call (fun _ => by kernel_rfl) (e_spages n2 n3 u25 w31 ((hW).get 4 rfl) ((hW).lt _ (List.mem_of_getElem? (i := 4) rfl)) (by first | omega | assumption | (simp; done) | (constructor <;> (simp; done)) | (constructor <;> omega) | (constructor <;> first | (simp; done) | (rw [hpg_, hpgs_]; simp; done) | (rw [hvc_, hvcs_]; simp; done))) (by first | omega | assumption | (simp; done) | (constructor <;> (simp; done)) | (constructor <;> omega) | (constructor <;> first | (simp; done) | (rw [hpg_, hpgs_]; simp; done) | (rw [hvc_, hvcs_]; simp; done)))) ?_)
                 rintro _ w36 ⟨g37, Ao38, co39, rfl, hw36_hp, hw36_hs, hcco39, hu_⟩; refine ⟨_, rfl, ?_⟩; replace hW := hW.made hu_; clear hA ac; intro ac hA
                 have hpg_ := hq28.pages hw36_hp hw36_hs
                 refine st_s hA (Runs.cells (fun b => Value.slice (some ⟨b, 0, none⟩) 1 1) #[Value.int .u32 1] 35 (fun _ => by kernel_rfl) hW ?_); clear hA ac hW; intro b41 w42 hW hb41 hfw42 ac hA
                 refine st_s hA (Runs.callN (v := Value.bool (decide (g37 = ([1] : List Int)))) (fun _ => by kernel_rfl) hW (e_rwords Ao38 co39 g37 (some ⟨b41, 0, none⟩) 1 ([1] : List Int) w42 (rowR_at ((hW).get 1 rfl) elt_U4.len) (own_cap ((hW).get 1 rfl)) (rowAt_cel ((hW).cel 0 rfl) ([1] : List Int) (by rfl) elt_U4.len) (by first | assumption | omega | (simp; omega) | simp) (by first | omega | assumption | (simp; done) | (constructor <;> (simp; done)) | (constructor <;> omega) | (constructor <;> first | (simp; done) | (rw [hpg_, hpgs_]; simp; done) | (rw [hvc_, hvcs_]; simp; done)))) ?_); clear hA ac hW; intro w43 hW hfw43 ac hA
                 refine st_p (Value.bool (decide (g37 = ([1] : List Int)))) hA ?_; clear hA ac; intro ac hA
                 refine st_p (Value.bool (decide (g37 = ([1] : List Int)))) hA ?_; clear hA ac; intro ac hA
                 rcases Bool.eq_false_or_eq_true (decide (g37 = ([1] : List Int))) with h44 | h44
                 · skip
                   rw [h44] at hA
                   have h44 := of_decide_eq_true h44
                   first
                   | (exfalso; clear hA hW; omega)
                   | (exfalso; clear hA hW; exact h44 (hwas1.trans hw1_); done)
                   | (exfalso; clear hA hW; refine h44 ?_; rw [hwas2]; rfl; done)
                   | (exfalso; clear hA hW; refine h44 ?_; rw [hpg_, hpgs_]; done)
                   | (exfalso; clear hA hW; refine h44 ?_; rw [hvc_, hvcs_]; done)
                   | (exfalso; clear hA hW; refine h44 ?_; rw [hq28.at_]; exact hat_; done)
                   | (
                     refine st_p (Value.pointer (some ⟨n2, 0, none⟩)) hA ?_; clear hA ac; intro ac hA
                     refine st_s hA (Runs.call (fun _ => by kernel_rfl) (e_svec n2 n3 u25 w43 ((hW).get 6 rfl) ((hW).lt _ (List.mem_of_getElem? (i := 6) rfl)) (by first | omega | assumption | (simp; done) | (constructor <;> (simp; done)) | (constructor <;> omega) | (constructor <;> first | (simp; done) | (rw [hpg_, hpgs_]; simp; done) | (rw [hvc_, hvcs_]; simp; done))) (by first | omega | assumption | (simp; done) | (constructor <;> (simp; done)) | (constructor <;> omega) | (constructor <;> first | (simp; done) | (rw [hpg_, hpgs_]; simp; done) | (rw [hvc_, hvcs_]; simp; done)))) ?_)
                     rintro _ w45 ⟨g46, g47, Ao48, co49, rfl, hw45_hp, hw45_hs, hw45_hO, hcco49, hu_⟩; refine ⟨_, rfl, ?_⟩; replace hW := hW.made hu_; clear hA ac; intro ac hA
                     have hvc_ : g47 = _ := hw45_hO.trans (hq28.vecs hw45_hp hw45_hs)
                     refine st_s hA (Runs.cells (fun b => Value.slice (some ⟨b, 0, none⟩) 1 1) #[Value.int .u32 4096] 35 (fun _ => by kernel_rfl) hW ?_); clear hA ac hW; intro b51 w52 hW hb51 hfw52 ac hA
                     refine st_s hA (Runs.callN (v := Value.bool (decide (g47 = ([4096] : List Int)))) (fun _ => by kernel_rfl) hW (e_rwords Ao48 co49 g47 (some ⟨b51, 0, none⟩) 1 ([4096] : List Int) w52 (rowR_at ((hW).get 1 rfl) elt_U4.len) (own_cap ((hW).get 1 rfl)) (rowAt_cel ((hW).cel 0 rfl) ([4096] : List Int) (by rfl) elt_U4.len) (by first | assumption | omega | (simp; omega) | simp) (by first | omega | assumption | (simp; done) | (constructor <;> (simp; done)) | (constructor <;> omega) | (constructor <;> first | (simp; done) | (rw [hpg_, hpgs_]; simp; done) | (rw [hvc_, hvcs_]; simp; done)))) ?_); clear hA ac hW; intro w53 hW hfw53 ac hA
                     refine st_p (Value.bool (decide (g47 = ([4096] : List Int)))) hA ?_; clear hA ac; intro ac hA
                     refine st_p (Value.bool (decide (g47 = ([4096] : List Int)))) hA ?_; clear hA ac; intro ac hA
                     rcases Bool.eq_false_or_eq_true (decide (g47 = ([4096] : List Int))) with h54 | h54
                     · skip
                       rw [h54] at hA
                       have h54 := of_decide_eq_true h54
                       first
                       | (exfalso; clear hA hW; omega)
                       | (exfalso; clear hA hW; exact h54 (hwas1.trans hw1_); done)
                       | (exfalso; clear hA hW; refine h54 ?_; rw [hwas2]; rfl; done)
                       | (exfalso; clear hA hW; refine h54 ?_; rw [hpg_, hpgs_]; done)
                       | (exfalso; clear hA hW; refine h54 ?_; rw [hvc_, hvcs_]; done)
                       | (exfalso; clear hA hW; refine h54 ?_; rw [hq28.at_]; exact hat_; done)
                       | (
                         refine st_p (Value.pointer (some ⟨n2, 0, none⟩)) hA ?_; clear hA ac; intro ac hA
                         refine st_s hA (Runs.callN (v := (atS u25 (4097)).v) (fun _ => by kernel_rfl) hW (e_sat n2 n3 u25 (4097) w53 ((hW).get 8 rfl) ((hW).lt _ (List.mem_of_getElem? (i := 8) rfl)) (by first | omega | assumption | (simp; done) | (constructor <;> (simp; done)) | (constructor <;> omega) | (constructor <;> first | (simp; done) | (rw [hpg_, hpgs_]; simp; done) | (rw [hvc_, hvcs_]; simp; done)))) ?_); clear hA ac hW; intro w55 hW hfw55 ac hA
                         refine st_p (Value.agg #[Value.int .u64 0, Value.int .i64 0, Value.int .i64 0, Value.int .u64 0, Value.int .i64 0, Value.int .i64 0, Value.int .i64 0]) hA ?_; clear hA ac; intro ac hA
                         refine st_q (Value.bool (decide ((atS u25 (4097)) = (⟨0, (⟨0, 0⟩ : Site), 0, (⟨0, 0⟩ : Site), 0⟩ : Shade)))) hA hW.cls (Rd.eqS (u := (atS u25 (4097)).v) (v := (⟨0, (⟨0, 0⟩ : Site), 0, (⟨0, 0⟩ : Site), 0⟩ : Shade).v) (by kernel_rfl) (by kernel_rfl) rfl rfl (by kernel_rfl) (fun w => eq_Shade w (atS u25 (4097)) (⟨0, (⟨0, 0⟩ : Site), 0, (⟨0, 0⟩ : Site), 0⟩ : Shade))) ?_; clear hA ac; intro ac hA
                         refine st_p (Value.bool (decide ((atS u25 (4097)) = (⟨0, (⟨0, 0⟩ : Site), 0, (⟨0, 0⟩ : Site), 0⟩ : Shade)))) hA ?_; clear hA ac; intro ac hA
                         refine st_p (Value.bool (decide ((atS u25 (4097)) = (⟨0, (⟨0, 0⟩ : Site), 0, (⟨0, 0⟩ : Site), 0⟩ : Shade)))) hA ?_; clear hA ac; intro ac hA
                         refine wpList_nil ?_
                         refine thenN ?_
                         refine wp_ret ?_
                         refine ret1 (v := Value.bool (decide ((atS u25 (4097)) = (⟨0, (⟨0, 0⟩ : Site), 0, (⟨0, 0⟩ : Site), 0⟩ : Shade)))) (by rfl) hA (Got.tmp hA (by kernel_rfl) (by kernel_rfl)) ?_
                         clear hA
                         have hqf_ := hq28.at_ 4097
                         exact ⟨retv (congrArg Value.bool (decide_eq_true (by rw [hqf_]; exact hat_))), hW.fr⟩)
                     · skip
                       rw [h54] at hA
                       have h54 := of_decide_eq_false h54
                       first
                       | (exfalso; clear hA hW; omega)
                       | (exfalso; clear hA hW; exact h54 (hwas1.trans hw1_); done)
                       | (exfalso; clear hA hW; refine h54 ?_; rw [hwas2]; rfl; done)
                       | (exfalso; clear hA hW; refine h54 ?_; rw [hpg_, hpgs_]; done)
                       | (exfalso; clear hA hW; refine h54 ?_; rw [hvc_, hvcs_]; done)
                       | (exfalso; clear hA hW; refine h54 ?_; rw [hq28.at_]; exact hat_; done)
                       | (
                         refine st_k hA ?_; clear hA ac; intro ac hA
                         refine st_k hA ?_; clear hA ac; intro ac hA
                         refine st_k hA ?_; clear hA ac; intro ac hA
                         refine st_k hA ?_; clear hA ac; intro ac hA
                         refine st_p (Value.bool false) hA ?_; clear hA ac; intro ac hA
                         refine st_p (Value.bool false) hA ?_; clear hA ac; intro ac hA
                         refine wpList_nil ?_
                         refine thenN ?_
                         refine wp_ret ?_
                         refine ret1 (v := Value.bool false) (by rfl) hA (Got.tmp hA (by kernel_rfl) (by kernel_rfl)) ?_
                         clear hA
                         exact ⟨retv (by rfl), hW.fr⟩))
                 · skip
                   rw [h44] at hA
                   have h44 := of_decide_eq_false h44
                   first
                   | (exfalso; clear hA hW; omega)
                   | (exfalso; clear hA hW; exact h44 (hwas1.trans hw1_); done)
                   | (exfalso; clear hA hW; refine h44 ?_; rw [hwas2]; rfl; done)
                   | (exfalso; clear hA hW; refine h44 ?_; rw [hpg_, hpgs_]; done)
                   | (exfalso; clear hA hW; refine h44 ?_; rw [hvc_, hvcs_]; done)
                   | (exfalso; clear hA hW; refine h44 ?_; rw [hq28.at_]; exact hat_; done)
                   | (
                     refine st_k hA ?_; clear hA ac; intro ac hA
                     refine st_k hA ?_; clear hA ac; intro ac hA
                     refine st_k hA ?_; clear hA ac; intro ac hA
                     refine st_k hA ?_; clear hA ac; intro ac hA
                     refine st_p (Value.bool false) hA ?_; clear hA ac; intro ac hA
                     refine st_p (Value.bool false) hA ?_; clear hA ac; intro ac hA
                     refine st_k hA ?_; clear hA ac; intro ac hA
                     refine st_k hA ?_; clear hA ac; intro ac hA
                     refine st_k hA ?_; clear hA ac; intro ac hA
                     refine st_k hA ?_; clear hA ac; intro ac hA
                     refine st_p (Value.bool false) hA ?_; clear hA ac; intro ac hA
                     refine st_p (Value.bool false) hA ?_; clear hA ac; intro ac hA
                     refine wpList_nil ?_
                     refine thenN ?_
                     refine wp_ret ?_
                     refine ret1 (v := Value.bool false) (by rfl) hA (Got.tmp hA (by kernel_rfl) (by kernel_rfl)) ?_
                     clear hA
                     exact ⟨retv (by rfl), hW.fr⟩))
             · skip
               rw [h35] at hA
               have h35 := ne_of_beq_false h35
               first
               | (exfalso; clear hA hW; omega)
               | (exfalso; clear hA hW; exact h35 (hwas1.trans hw1_); done)
               | (exfalso; clear hA hW; refine h35 ?_; rw [hwas2]; rfl; done)
               | (exfalso; clear hA hW; refine h35 ?_; rw [hpg_, hpgs_]; done)
               | (exfalso; clear hA hW; refine h35 ?_; rw [hvc_, hvcs_]; done)
               | (exfalso; clear hA hW; refine h35 ?_; rw [hq28.at_]; exact hat_; done)
               | (
                 refine st_k hA ?_; clear hA ac; intro ac hA
                 refine st_k hA ?_; clear hA ac; intro ac hA
                 refine st_k hA ?_; clear hA ac; intro ac hA
                 refine st_k hA ?_; clear hA ac; intro ac hA
                 refine st_p (Value.bool false) hA ?_; clear hA ac; intro ac hA
                 refine st_p (Value.bool false) hA ?_; clear hA ac; intro ac hA
                 refine st_k hA ?_; clear hA ac; intro ac hA
                 refine st_k hA ?_; clear hA ac; intro ac hA
                 refine st_k hA ?_; clear hA ac; intro ac hA
                 refine st_k hA ?_; clear hA ac; intro ac hA
                 refine st_p (Value.bool false) hA ?_; clear hA ac; intro ac hA
                 refine st_p (Value.bool false) hA ?_; clear hA ac; intro ac hA
                 refine st_k hA ?_; clear hA ac; intro ac hA
                 refine st_k hA ?_; clear hA ac; intro ac hA
                 refine st_k hA ?_; clear hA ac; intro ac hA
                 refine st_k hA ?_; clear hA ac; intro ac hA
                 refine st_p (Value.bool false) hA ?_; clear hA ac; intro ac hA
                 refine st_p (Value.bool false) hA ?_; clear hA ac; intro ac hA
                 refine wpList_nil ?_
                 refine thenN ?_
                 refine wp_ret ?_
                 refine ret1 (v := Value.bool false) (by rfl) hA (Got.tmp hA (by kernel_rfl) (by kernel_rfl)) ?_
                 clear hA
                 exact ⟨retv (by rfl), hW.fr⟩))
         · skip
           rw [h34] at hA
           have h34 := ne_of_beq_false h34
           first
           | (exfalso; clear hA hW; omega)
           | (exfalso; clear hA hW; exact h34 (hwas1.trans hw1_); done)
           | (exfalso; clear hA hW; refine h34 ?_; rw [hwas2]; rfl; done)
           | (exfalso; clear hA hW; refine h34 ?_; rw [hpg_, hpgs_]; done)
           | (exfalso; clear hA hW; refine h34 ?_; rw [hvc_, hvcs_]; done)
           | (exfalso; clear hA hW; refine h34 ?_; rw [hq28.at_]; exact hat_; done)
           | (
             refine st_k hA ?_; clear hA ac; intro ac hA
             refine st_k hA ?_; clear hA ac; intro ac hA
             refine st_k hA ?_; clear hA ac; intro ac hA
             refine st_p (Value.bool false) hA ?_; clear hA ac; intro ac hA
             refine st_p (Value.bool false) hA ?_; clear hA ac; intro ac hA
             refine st_k hA ?_; clear hA ac; intro ac hA
             refine st_k hA ?_; clear hA ac; intro ac hA
             refine st_k hA ?_; clear hA ac; intro ac hA
             refine st_k hA ?_; clear hA ac; intro ac hA
             refine st_p (Value.bool false) hA ?_; clear hA ac; intro ac hA
             refine st_p (Value.bool false) hA ?_; clear hA ac; intro ac hA
             refine st_k hA ?_; clear hA ac; intro ac hA
             refine st_k hA ?_; clear hA ac; intro ac hA
             refine st_k hA ?_; clear hA ac; intro ac hA
             refine st_k hA ?_; clear hA ac; intro ac hA
             refine st_p (Value.bool false) hA ?_; clear hA ac; intro ac hA
             refine st_p (Value.bool false) hA ?_; clear hA ac; intro ac hA
             refine st_k hA ?_; clear hA ac; intro ac hA
             refine st_k hA ?_; clear hA ac; intro ac hA
             refine st_k hA ?_; clear hA ac; intro ac hA
             refine st_k hA ?_; clear hA ac; intro ac hA
             refine st_p (Value.bool false) hA ?_; clear hA ac; intro ac hA
             refine st_p (Value.bool false) hA ?_; clear hA ac; intro ac hA
             refine wpList_nil ?_
             refine thenN ?_
             refine wp_ret ?_
             refine ret1 (v := Value.bool false) (by rfl) hA (Got.tmp hA (by kernel_rfl) (by kernel_rfl)) ?_
             clear hA
             exact ⟨retv (by rfl), hW.fr⟩))
     · skip
       rw [h33] at hA
       have h33 := of_decide_eq_false h33
       have h33e := fun e => h33 ((Shade.eqi _ _).2 e)
       first
       | (exfalso; clear hA hW; omega)
       | (exfalso; clear hA hW; exact h33 (hwas1.trans hw1_); done)
       | (exfalso; clear hA hW; refine h33 ?_; rw [hwas2]; rfl; done)
       | (exfalso; clear hA hW; refine h33 ?_; rw [hpg_, hpgs_]; done)
       | (exfalso; clear hA hW; refine h33 ?_; rw [hvc_, hvcs_]; done)
       | (exfalso; clear hA hW; refine h33 ?_; rw [hq28.at_]; exact hat_; done)
       | (
         refine st_k hA ?_; clear hA ac; intro ac hA
         refine st_k hA ?_; clear hA ac; intro ac hA
         refine st_k hA ?_; clear hA ac; intro ac hA
         refine st_k hA ?_; clear hA ac; intro ac hA
         refine st_k hA ?_; clear hA ac; intro ac hA
         refine st_k hA ?_; clear hA ac; intro ac hA
         refine st_p (Value.bool false) hA ?_; clear hA ac; intro ac hA
         refine st_p (Value.bool false) hA ?_; clear hA ac; intro ac hA
         refine st_k hA ?_; clear hA ac; intro ac hA
         refine st_k hA ?_; clear hA ac; intro ac hA
         refine st_k hA ?_; clear hA ac; intro ac hA
         refine st_p (Value.bool false) hA ?_; clear hA ac; intro ac hA
         refine st_p (Value.bool false) hA ?_; clear hA ac; intro ac hA
         refine st_k hA ?_; clear hA ac; intro ac hA
         refine st_k hA ?_; clear hA ac; intro ac hA
         refine st_k hA ?_; clear hA ac; intro ac hA
         refine st_k hA ?_; clear hA ac; intro ac hA
         refine st_p (Value.bool false) hA ?_; clear hA ac; intro ac hA
         refine st_p (Value.bool false) hA ?_; clear hA ac; intro ac hA
         refine st_k hA ?_; clear hA ac; intro ac hA
         refine st_k hA ?_; clear hA ac; intro ac hA
         refine st_k hA ?_; clear hA ac; intro ac hA
         refine st_k hA ?_; clear hA ac; intro ac hA
         refine st_p (Value.bool false) hA ?_; clear hA ac; intro ac hA
         refine st_p (Value.bool false) hA ?_; clear hA ac; intro ac hA
         refine st_k hA ?_; clear hA ac; intro ac hA
         refine st_k hA ?_; clear hA ac; intro ac hA
         refine st_k hA ?_; clear hA ac; intro ac hA
         refine st_k hA ?_; clear hA ac; intro ac hA
         refine st_p (Value.bool false) hA ?_; clear hA ac; intro ac hA
         refine st_p (Value.bool false) hA ?_; clear hA ac; intro ac hA
         refine wpList_nil ?_
         refine thenN ?_
         refine wp_ret ?_
         refine ret1 (v := Value.bool false) (by rfl) hA (Got.tmp hA (by kernel_rfl) (by kernel_rfl)) ?_
         clear hA
         exact ⟨retv (by rfl), hW.fr⟩))
 · skip
   rw [h32] at hA
   have h32 := of_decide_eq_false h32
   have h32e := fun e => h32 ((Shade.eqi _ _).2 e)
   first
   | (exfalso; clear hA hW; omega)
   | (exfalso; clear hA hW; exact h32 (hwas1.trans hw1_); done)
   | (exfalso; clear hA hW; refine h32 ?_; rw [hwas2]; rfl; done)
   | (exfalso; clear hA hW; refine h32 ?_; rw [hpg_, hpgs_]; done)
   | (exfalso; clear hA hW; refine h32 ?_; rw [hvc_, hvcs_]; done)
   | (exfalso; clear hA hW; refine h32 ?_; rw [hq28.at_]; exact hat_; done)
   | (
     refine st_k hA ?_; clear hA ac; intro ac hA
     refine st_k hA ?_; clear hA ac; intro ac hA
     refine st_k hA ?_; clear hA ac; intro ac hA
     refine st_p (Value.bool false) hA ?_; clear hA ac; intro ac hA
     refine st_p (Value.bool false) hA ?_; clear hA ac; intro ac hA
     refine st_k hA ?_; clear hA ac; intro ac hA
     refine st_k hA ?_; clear hA ac; intro ac hA
     refine st_k hA ?_; clear hA ac; intro ac hA
     refine st_k hA ?_; clear hA ac; intro ac hA
     refine st_k hA ?_; clear hA ac; intro ac hA
     refine st_k hA ?_; clear hA ac; intro ac hA
     refine st_p (Value.bool false) hA ?_; clear hA ac; intro ac hA
     refine st_p (Value.bool false) hA ?_; clear hA ac; intro ac hA
     refine st_k hA ?_; clear hA ac; intro ac hA
     refine st_k hA ?_; clear hA ac; intro ac hA
     refine st_k hA ?_; clear hA ac; intro ac hA
     refine st_p (Value.bool false) hA ?_; clear hA ac; intro ac hA
     refine st_p (Value.bool false) hA ?_; clear hA ac; intro ac hA
     refine st_k hA ?_; clear hA ac; intro ac hA
     refine st_k hA ?_; clear hA ac; intro ac hA
     refine st_k hA ?_; clear hA ac; intro ac hA
     refine st_k hA ?_; clear hA ac; intro ac hA
     refine st_p (Value.bool false) hA ?_; clear hA ac; intro ac hA
     refine st_p (Value.bool false) hA ?_; clear hA ac; intro ac hA
     refine st_k hA ?_; clear hA ac; intro ac hA
     refine st_k hA ?_; clear hA ac; intro ac hA
     refine st_k hA ?_; clear hA ac; intro ac hA
     refine st_k hA ?_; clear hA ac; intro ac hA
     refine st_p (Value.bool false) hA ?_; clear hA ac; intro ac hA
     refine st_p (Value.bool false) hA ?_; clear hA ac; intro ac hA
     refine st_k hA ?_; clear hA ac; intro ac hA
     refine st_k hA ?_; clear hA ac; intro ac hA
     refine st_k hA ?_; clear hA ac; intro ac hA
     refine st_k hA ?_; clear hA ac; intro ac hA
     refine st_p (Value.bool false) hA ?_; clear hA ac; intro ac hA
     refine st_p (Value.bool false) hA ?_; clear hA ac; intro ac hA
     refine wpList_nil ?_
     refine thenN ?_
     refine wp_ret ?_
     refine ret1 (v := Value.bool false) (by rfl) hA (Got.tmp hA (by kernel_rfl) (by kernel_rfl)) ?_
     clear hA
     exact ⟨retv (by rfl), hW.fr⟩)

end Go.Proofs.Ytcgcippmbeileaa.L
