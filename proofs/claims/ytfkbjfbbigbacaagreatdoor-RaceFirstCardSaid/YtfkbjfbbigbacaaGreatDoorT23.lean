/- Contracts, walked by program over the engine's laws. -/
import Derived.Test.YtfkbjfbbigbacaaGreatDoorProg
import Derived.Test.YtfkbjfbbigbacaaGreatDoorT19
import Derived.Test.YtfkbjfbbigbacaaGreatDoorLen0
namespace Go.Proofs.YtfkbjfbbigbacaaGreatDoor.L
open Go.RowKit
open Go.Value renaming int → vI, slice → vS, bool → vB, pointer → vP, func → vF, agg → vA, map → vM, tuple → vT

def PzR (p : Nat) (q : Nat) : Res := allR [Cel p #[vM (some q)] 94, mapR q Pair.v (fun a : Int => vI .i64 a) ([] : List (Pair × Int))]
theorem len_of0 {n : Nat} (h : n = 0) (w : World) : Calls Tryz.prog 66 #[.int .u64 (n : Int)] w fun e w' => e = .returned (.int .i64 0) ∧ w = w' := by subst h; exact len_0 w
set_option maxRecDepth 100000 in
theorem e_snew0  (w : World)  : Calls Tryz.prog 45 #[vS none 0 0] w (fun e w' => ∃ p : Nat, ∃ q : Nat, e = .returned (vT #[pA p 0, vI .i64 0]) ∧ Made (PzR p q) w w') := by
 refine enter_E 29 Tryz.func45 rfl rfl (by kernel_rfl) (L := [(0, vS none 0 0)]) (by kernel_rfl) ?_
 intro ac hA
 have hW := Ws.start w No
 refine wr <| st_p (vP none) hA fun ac hA => st_p (vI .i64 0) hA fun ac hA => wn <| wr <| st_s hA (Runs.makeMap Pair.v (fun a : Int => vI .i64 a) hW ?_); clear hA ac hW; intro b1 w2 hW hb1 hfw2 ac hA
 refine st_p (vA #[vM (some b1)]) hA ?_; clear hA ac; intro ac hA
 refine st_s hA (Runs.cells (fun b => pA b 0) #[vM (some b1)] 94 (fun _ => by kernel_rfl) hW ?_); clear hA ac hW; intro b3 w4 hW hb3 hfw4 ac hA
 refine st_p (pA b3 0) hA ?_; clear hA ac; intro ac hA
 refine wn <| wp_seq <| wr <| st_p (vS none 0 0) hA fun ac hA => st_p (vI .i64 0) hA fun ac hA => st_p (vI .i64 0) hA fun ac hA => wn <| wp_block <| wp_loop_rounds 1 ?_
 rw [rounds_succ]
 refine wr <| st_p (vB false) hA ?_; clear hA ac; intro ac hA
 refine wn <| wp_seq <| wp_cond_false (hA.eval (by kernel_rfl)) <| wp_exit <| thenX <| thenX <| blkX <| thenN <| wr <| st_p (pA b3 0) hA fun ac hA => st_p (pA b3 0) hA fun ac hA => st_p (vI .i64 0) hA fun ac hA => wn <| wp_ret <| ret2 (v1 := pA b3 0) (v2 := vI .i64 0) (by rfl) hA (Got.tmp hA (by kernel_rfl) (by kernel_rfl)) (Got.tmp hA (by kernel_rfl) (by kernel_rfl)) ?_
 clear hA
 have hW : Ws w No [PzR b3 b1] [] w4 := Ws.pack (K := []) (hW.pick [0, 1] (by decide) rfl)
 exact ⟨b3, b1, rfl, hW.madeDone 0 rfl⟩

set_option maxRecDepth 100000 in
theorem e_spnone (p : Nat) (q : Nat) (w : World) (ho_p : (PzR p q).p w) (hl_p : ∀ x_ ∈ (PzR p q).fp, x_ < w.heap.size) : Calls Tryz.prog 46 #[pA p 0] w (fun e w' => e = .returned (vB false) ∧ Fr No w w') := by
 have _hu := ho_p; have _hv := hl_p; clear _hu _hv
 refine enter_E 12 Tryz.func46 rfl rfl (by kernel_rfl) (L := [(0, pA p 0)]) (by kernel_rfl) ?_
 intro ac hA
 have hW := Ws.start w No
 have hW := hW.addG (PzR p q) ho_p hl_p (by simp)
 have hW := hW.objG (L := [Cel p #[vM (some q)] 94, mapR q Pair.v (fun a : Int => vI .i64 a) ([] : List (Pair × Int))]) ho_p hl_p
 clear ho_p hl_p
 refine wr <| st_p (vB false) hA ?_; clear hA ac; intro ac hA
 refine wn <| wr <| st_p (pA p 0) hA fun ac hA => st_p (vB false) hA fun ac hA => st_p (vB false) hA fun ac hA => st_p (pA p 0) hA fun ac hA => st_p (pA p 0) hA fun ac hA => st_p (pA p 0) hA fun ac hA => st_q (vM (some q)) hA hW.cls (Rd.load (b := p) (i := 0) (by kernel_rfl) (fun _ hw => show _ = _ from (hw.1).getG 0 rfl) (by kernel_rfl)) fun ac hA => st_p (vB false) hA fun ac hA => st_p (vB false) hA fun ac hA => st_p (vB false) hA fun ac hA => wn <| wp_ret <| r1 (vB false) hA ?_
 clear hA
 exact ⟨retv (by rfl), hW.fr⟩

set_option maxRecDepth 100000 in
theorem e_splen (p : Nat) (q : Nat) (w : World) (ho_p : (PzR p q).p w) (hl_p : ∀ x_ ∈ (PzR p q).fp, x_ < w.heap.size) : Calls Tryz.prog 23 #[pA p 0] w (fun e w' => e = .returned (vI .i64 0) ∧ Fr No w w') := by
 have _hu := ho_p; have _hv := hl_p; clear _hu _hv
 refine enter_E 10 Tryz.func23 rfl rfl (by kernel_rfl) (L := [(0, pA p 0)]) (by kernel_rfl) ?_
 intro ac hA
 have hW := Ws.start w No
 have hW := hW.addG (PzR p q) ho_p hl_p (by simp)
 have hW := hW.objG (L := [Cel p #[vM (some q)] 94, mapR q Pair.v (fun a : Int => vI .i64 a) ([] : List (Pair × Int))]) ho_p hl_p
 clear ho_p hl_p
 refine wr <| st_p (vI .i64 0) hA ?_; clear hA ac; intro ac hA
 refine wn <| wp_seq <| wr <| st_p (pA p 0) hA ?_; clear hA ac; intro ac hA
 refine st_s hA (Runs.callN (v := vB false) (fun _ => by kernel_rfl) hW (e_spnone p q w ((hW).getG 2 rfl) ((hW).glt _ (List.mem_of_getElem? (i := 2) rfl))) ?_); clear hA ac hW; intro w1 hW hfw1 ac hA
 refine wn <| wp_cond_false (hA.eval (by kernel_rfl)) <| wp_skip <| thenN <| wr <| st_p (pA p 0) hA fun ac hA => st_p (pA p 0) hA fun ac hA => st_p (pA p 0) hA fun ac hA => st_q (vM (some q)) hA hW.cls (Rd.load (b := p) (i := 0) (by kernel_rfl) (fun _ hw => show _ = _ from (hw.1).getG 0 rfl) (by kernel_rfl)) fun ac hA => st_q (vI .i64 (((([] : List (Pair × Int))).length : Nat) : Int)) hA hW.cls (Rd.mapLen (k := 45) (e := 3) (ek := Pair.v) (ev := (fun a : Int => vI .i64 a)) (m := ([] : List (Pair × Int))) (by kernel_rfl) (by kernel_rfl) (fun _ hw => (hw.1).getG 1 rfl)) fun ac hA => st_p (vI .i64 (((([] : List (Pair × Int))).length : Nat) : Int)) hA fun ac hA => wn <| wp_ret <| r1 (vI .i64 (((([] : List (Pair × Int))).length : Nat) : Int)) hA ?_
 clear hA
 exact ⟨retv (by first | rfl | simp), hW.fr⟩

set_option maxRecDepth 100000 in
theorem e_sort0 (A_x : Option Addr) (c_x : Nat) (x : List Race) (w : World) (hr_x : RowAt w A_x 7 enRace x) (hc_x : x.length ≤ c_x) (hx0 : x.length = 0) : Calls Tryz.prog 43 #[vS A_x x.length c_x, vF (.func 44) #[] #[]] w (fun e w' => e = .returned (vT #[]) ∧ Fr No w w') := by
 have _hu := hc_x; have _hv := hr_x; clear _hu _hv
 have _hu := hx0; clear _hu
 refine enter_E 14 Tryz.func43 rfl rfl (by kernel_rfl) (L := [(0, vS A_x x.length c_x), (1, vF (.func 44) #[] #[])]) (by kernel_rfl) ?_
 intro ac hA
 have hW := Ws.start w No
 have hW := hW.arg hr_x
 refine wr <| st_p (vS A_x x.length c_x) hA fun ac hA => st_p (vI .i64 (x.length : Int)) hA fun ac hA => st_p (vI .i64 (x.length : Int)) hA fun ac hA => wn <| wp_region_lit <| st_p (vS A_x x.length c_x) hA fun ac hA => st_p (vI .i64 (x.length : Int)) hA fun ac hA => st_p (vI .i64 (x.length : Int)) hA fun ac hA => st_q (vI .u64 (x.length : Int)) hA hW.cls (Rd.pureE (v0 := vI .u64 (IntKind.u64.wrap (x.length : Int))) (fun _ => by kernel_rfl) (congrArg (vI .u64) (w_u64 (x := (x.length : Int)) (by omega) (by omega)))) fun ac hA => st_s hA (Runs.callS (v := vI .i64 0) (fun _ => by kernel_rfl) (len_of0 (n := (x.length)) (by omega) w) ?_); clear hA ac; intro  ac hA
 refine st_p (vF (.func 44) #[] #[]) hA ?_; clear hA ac; intro ac hA
 refine st_s hA (Runs.callN (v := vT #[]) (fun _ => by kernel_rfl) hW (e_pdq1 A_x c_x x (x.length) (0) w ((hW).getG 0 rfl) (by first | assumption | omega | (simp; omega) | simp) (by omega)) ?_); clear hA ac hW; intro w1 hW hfw1 ac hA
 refine wpList_nil <| ret0 (.inr rfl) rfl hA ?_
 clear hA
 exact ⟨retv (by rfl), hW.fr⟩

set_option maxRecDepth 100000 in
theorem e_onone_z (o : Nat) (w : World) (ho_o : w.heap[o]? = some (.cells #[vS none 0 0, vS none 0 0, vM none, vM none] 64 (0, 0))) : Calls Tryz.prog 39 #[pA o 0] w (fun e w' => e = .returned (vB true) ∧ Fr No w w') := by
 have _hu := ho_o; clear _hu
 refine enter_E 12 Tryz.func39 rfl rfl (by kernel_rfl) (L := [(0, pA o 0)]) (by kernel_rfl) ?_
 intro ac hA
 have hW := Ws.start w No
 have hW := hW.celG ho_o
 refine wr <| st_p (vB false) hA ?_; clear hA ac; intro ac hA
 refine wn <| wr <| st_p (pA o 0) hA fun ac hA => st_p (vB false) hA fun ac hA => st_p (vB false) hA fun ac hA => st_p (pA o 0) hA fun ac hA => st_p (pA o 0) hA fun ac hA => st_p (pA o 3) hA fun ac hA => st_q (vM none) hA hW.cls (Rd.load (b := o) (i := 3) (by kernel_rfl) (fun _ hw => show _ = _ from (hw.1).getG 0 rfl) (by kernel_rfl)) fun ac hA => st_p (vB true) hA fun ac hA => st_p (vB true) hA fun ac hA => st_p (vB true) hA fun ac hA => wn <| wp_ret <| r1 (vB true) hA ?_
 clear hA
 exact ⟨retv (by rfl), hW.fr⟩

set_option maxRecDepth 100000 in
theorem e_olen_z (o : Nat) (w : World) (ho_o : w.heap[o]? = some (.cells #[vS none 0 0, vS none 0 0, vM none, vM none] 64 (0, 0))) : Calls Tryz.prog 24 #[pA o 0] w (fun e w' => e = .returned (vI .i64 0) ∧ Fr No w w') := by
 have _hu := ho_o; clear _hu
 refine enter_E 11 Tryz.func24 rfl rfl (by kernel_rfl) (L := [(0, pA o 0)]) (by kernel_rfl) ?_
 intro ac hA
 have hW := Ws.start w No
 have hW := hW.celG ho_o
 refine wr <| st_p (vI .i64 0) hA ?_; clear hA ac; intro ac hA
 refine wn <| wp_seq <| wr <| st_p (pA o 0) hA ?_; clear hA ac; intro ac hA
 refine st_s hA (Runs.callN (v := vB true) (fun _ => by kernel_rfl) hW (e_onone_z o w (show _ = _ from (hW).getG 0 rfl)) ?_); clear hA ac hW; intro w1 hW hfw1 ac hA
 refine wn <| wp_cond_true (hA.eval (by kernel_rfl)) <| wr <| st_p (vI .i64 0) hA ?_; clear hA ac; intro ac hA
 refine wn <| wp_ret <| thenR <| r1 (vI .i64 0) hA ?_
 clear hA
 exact ⟨retv (by rfl), hW.fr⟩

set_option maxRecDepth 100000 in
theorem e_oadd_z (o : Nat) (x : Event) (w : World) (ho_o : w.heap[o]? = some (.cells #[vS none 0 0, vS none 0 0, vM none, vM none] 64 (0, 0))) : Calls Tryz.prog 31 #[pA o 0, x.v] w (fun e w' => e = .returned (vI .i64 1) ∧ Fr No w w') := by
 have _hu := ho_o; clear _hu
 refine enter_E 131 Tryz.func31 rfl rfl (by kernel_rfl) (L := [(0, pA o 0), (1, x.v)]) (by kernel_rfl) ?_
 intro ac hA
 have hW := Ws.start w No
 have hW := hW.celG ho_o
 refine wr <| st_s hA (Runs.cells (fun b => pA b 0) #[vI .i64 x.g, vI .i64 x.kind, vI .i64 x.site.f, vI .i64 x.site.pc, vI .u32 x.addr, vI .i64 x.child, vI .i64 x.obj, vI .i64 x.n, vI .i64 x.trap] 51 (fun _ => by kernel_rfl) hW ?_); clear hA ac hW; intro b1 w2 hW hb1 hfw2 ac hA
 refine st_p (vI .i64 0) hA ?_; clear hA ac; intro ac hA
 refine wn <| wp_fwd (l := 0) rfl <| wr <| st_p (vS none 0 0) hA ?_; clear hA ac; intro ac hA
 refine wn <| wp_seq <| wr <| st_p (vI .i64 1) hA ?_; clear hA ac; intro ac hA
 refine wn <| wr <| st_p (pA o 0) hA ?_; clear hA ac; intro ac hA
 refine st_s hA (Runs.callN (v := vB true) (fun _ => by kernel_rfl) hW (e_onone_z o w2 (show _ = _ from (hW).getG 0 rfl)) ?_); clear hA ac hW; intro w3 hW hfw3 ac hA
 refine wn <| wp_cond_true (hA.eval (by kernel_rfl)) <| wp_goto <| thenG <| fwdG <| wp_seq <| wp_skip <| thenN <| wr <| st_p (vI .i64 1) hA fun ac hA => st_p (vI .i64 1) hA fun ac hA => wn <| wp_ret <| nogR <| r1 (vI .i64 1) hA ?_
 clear hA
 exact ⟨retv (by rfl), hW.fr⟩

set_option maxRecDepth 100000 in
theorem it_races_z (bl z : Nat) : Iter Tryz.prog 89 #[pA bl 0] (fun x_ : Race × Nat => #[vI .i64 ((x_.2 : Nat) : Int), x_.1.v]) (· = ([] : List Race).zipIdx) [Cel bl #[pA z 0] 96, Cel z #[vS none 0 0, vS none 0 0, vM none, vM none] 64] := by
 intro l_ J_ Jx_ r0 w hOs_ hdis_ hR_ hJ0_ hp_ hlt_
 have hW := iterW hOs_ hdis_ hp_ hlt_; clear hOs_ hdis_ hp_ hlt_
 refine enter_F 69 Tryz.func89 rfl rfl (by kernel_rfl) (L := [(0, vF (.yield l_) #[] #[]), (1, pA bl 0)]) (by kernel_rfl) ?_
 intro ac hA
 refine wpIn_seq <| wpIn_region_lit <| st_rdF (v := vI .i64 0) hA (by kernel_rfl) (by kernel_rfl) (by kernel_rfl) (by kernel_rfl) hW.cls (Rd.pure fun _ => by kernel_rfl) ?_; clear hA ac; intro ac hA
 refine wpListIn_nil <| thenN <| wpIn_seq <| wpIn_region_lit <| st_rdF (v := pA bl 0) hA (by kernel_rfl) (by kernel_rfl) (by kernel_rfl) (by kernel_rfl) hW.cls (Rd.pure fun _ => by kernel_rfl) ?_; clear hA ac; intro ac hA
 refine st_rdF (v := pA z 0) hA (by kernel_rfl) (by kernel_rfl) (by kernel_rfl) (by kernel_rfl) hW.cls (Rd.load (b := bl) (i := 0) (by kernel_rfl) (fun _ hw => show _ = _ from (hw.1).getG 0 rfl) (by kernel_rfl)) ?_; clear hA ac; intro ac hA
 refine stF hA (by kernel_rfl) (by kernel_rfl) (by kernel_rfl) (by kernel_rfl) (RunsF.of (Runs.callN (v := vI .i64 0) (fun _ => by kernel_rfl) hW (e_olen_z z w (show _ = _ from (hW).getG 1 rfl)) ?_)); clear hA ac hW; intro w1 hW hfw1 ac hA
 refine st_rdF (v := vI .i64 0) hA (by kernel_rfl) (by kernel_rfl) (by kernel_rfl) (by kernel_rfl) hW.cls (Rd.pure fun _ => by kernel_rfl) ?_; clear hA ac; intro ac hA
 refine wpListIn_nil <| thenN <| wpIn_block <| wpIn_loop_rounds 1 ?_
 rw [roundsIn_succ]
 refine wpIn_seq <| wpIn_region_lit <| st_rdF (v := vB false) hA (by kernel_rfl) (by kernel_rfl) (by kernel_rfl) (by kernel_rfl) hW.cls (Rd.pure fun _ => by kernel_rfl) ?_; clear hA ac; intro ac hA
 refine wpListIn_nil <| thenN <| wpIn_seq <| wpIn_cond_false (hA.eval (by kernel_rfl)) <| wpIn_exit <| thenX <| thenX <| blkX <| retF (.inr rfl) hA <| leave0 (by rfl)  ?_
 clear hA
 exact ranDone hW 0 rfl (.inl ⟨_, rfl, hJ0_⟩)

set_option maxRecDepth 100000 in
theorem e_races_z (o : Nat) (w : World) (ho_o : w.heap[o]? = some (.cells #[vS none 0 0, vS none 0 0, vM none, vM none] 64 (0, 0))) : Calls Tryz.prog 62 #[vA #[pA o 0]] w (fun e w' => ∃ (lb : Array Value) (g : Res), e = .returned (vF (.func 89) #[] lb) ∧ Iter Tryz.prog 89 lb (fun x_ : Race × Nat => #[vI .i64 ((x_.2 : Nat) : Int), x_.1.v]) (· = ([] : List Race).zipIdx) [g] ∧ g.from_ [Cel o #[vS none 0 0, vS none 0 0, vM none, vM none] 64] w w' ∧ Fr No w w') := by
 have _hu := ho_o; clear _hu
 refine enter_E 4 Tryz.func62 rfl rfl (by kernel_rfl) (L := [(0, vA #[pA o 0])]) (by kernel_rfl) ?_
 intro ac hA
 have hW := Ws.start w No
 have hW := hW.celG ho_o
 refine wr <| st_s hA (Runs.cells (fun b => pA b 0) #[pA o 0] 96 (fun _ => by kernel_rfl) hW ?_); clear hA ac hW; intro b1 w2 hW hb1 hfw2 ac hA
 refine st_p (Value.nilFunc) hA ?_; clear hA ac; intro ac hA
 refine wn <| wr <| st_p (vF (.func 89) #[] #[pA b1 0]) hA fun ac hA => st_p (vF (.func 89) #[] #[pA b1 0]) hA fun ac hA => wn <| wp_ret <| r1 (vF (.func 89) #[] #[pA b1 0]) hA ?_
 clear hA
 exact ⟨_, _, rfl, iter_many (it_races_z b1 o), from_many (froms_cons (hW.outOwn 0 rfl (fun _ h => h)) (froms_cons (hW.outArg 0 rfl (.head _)) froms_nil)), hW.fr⟩

set_option maxRecDepth 100000 in
theorem e_rall_z (o : Nat) (w : World) (ho_o : w.heap[o]? = some (.cells #[vS none 0 0, vS none 0 0, vM none, vM none] 64 (0, 0))) : Calls Tryz.prog 35 #[pA o 0] w (Fresh 47 7 enRace ([] : List Race) w) := by
 have _hu := ho_o; clear _hu
 refine enter_F 15 Tryz.func35 rfl rfl (by kernel_rfl) (L := [(0, pA o 0)]) (by kernel_rfl) ?_
 intro ac hA
 have hW := Ws.start w No
 have hW := hW.celG ho_o
 refine wpIn_seq <| wpIn_region_lit <| stF hA (by kernel_rfl) (by kernel_rfl) (by kernel_rfl) (by kernel_rfl) (RunsF.of (Runs.cells (fun b => pA b 0) #[vS none 0 0] 35 (fun _ => by kernel_rfl) hW ?_)); clear hA ac hW; intro b1 w2 hW hb1 hfw2 ac hA
 refine wpListIn_nil <| thenN <| wpIn_seq <| wpIn_seq <| wpIn_region_lit <| st_rdF (v := pA o 0) hA (by kernel_rfl) (by kernel_rfl) (by kernel_rfl) (by kernel_rfl) hW.cls (Rd.pure fun _ => by kernel_rfl) ?_; clear hA ac; intro ac hA
 refine st_rdF (v := vA #[pA o 0]) hA (by kernel_rfl) (by kernel_rfl) (by kernel_rfl) (by kernel_rfl) hW.cls (Rd.pure fun _ => by kernel_rfl) ?_; clear hA ac; intro ac hA
 refine stF hA (by kernel_rfl) (by kernel_rfl) (by kernel_rfl) (by kernel_rfl) (RunsF.of (Runs.call (fun _ => by kernel_rfl) (e_races_z o w2 (show _ = _ from (hW).getG 0 rfl)) ?_))
 rintro _ w3 ⟨lb4, g5, rfl, hIg5, hfg5, hfw3⟩; refine ⟨_, rfl, ?_⟩; have hW0 := hW; have hW := hW0.call hfw3; have hW := hW0.addFromAt hW hfg5 (in_cons (in_at 0 rfl) in_nil); clear hW0 hA ac; intro ac hA
 refine wpListIn_nil <| thenN <| wpIn_block ?_
 have hW := hW.addNil 47 7 enRace
 refine wp_range (encs := (fun x_ : Race × Nat => #[vI .i64 ((x_.2 : Nat) : Int), x_.1.v])) (Sx := (· = ([] : List Race).zipIdx)) hA (by kernel_rfl) (by kernel_rfl) (enters_of Tryz.func89 (by kernel_rfl) rfl) (by kernel_rfl) (fun _ => rfl) hIg5 (List.forall_mem_singleton.2 (List.mem_of_getElem? (i := 0) rfl)) (fun pre_ H_ => ∃ k : Nat, ∃ d : List Race, ∃ A : Option Addr, ∃ c : Nat, pre_ = ([] : List Race).zipIdx.take k ∧ k ≤ ([] : List Race).length ∧ (d = ([] : List Race).take k) ∧ (d.length ≤ c) ∧ H_ = [Cel b1 #[vS A d.length c] 35, rowR 47 7 enRace (vS A d.length c) d]) (fun _ _ _ => False) (H := [Cel b1 #[vS none 0 0] 35, rowR 47 7 enRace (vS none 0 0) ([] : List Race)]) (K := []) (hW.pick [1, 0] (by decide) rfl) ⟨0, [], none, 0, rfl, Nat.zero_le _, by rfl, by simp, rfl⟩ ?_ ?_ ?_
 ·
  clear hA ac hW; intro l_6 rd_6 bs_6 pre_ x_ Hk_ w7 T_6 ac hrd_6 hbs_6 hbr_6 hok_ hJ_ hA hW hB_6 hT_6
  obtain ⟨k, d, A, c, rfl, hk_, hd, hdc, rfl⟩ := hJ_
  obtain ⟨y8, rfl, hy8, hlty8, hsny8⟩ := comes_zip hok_ hk_
  replace hA : Fm 15 [] [(0, pA o 0), (2, pA b1 0), (5, pA o 0), (6, vA #[pA o 0]), (7, vF (.func 89) #[] lb4), (8, vI .i64 (k : Int)), (9, y8.v)] ac := hA.sub (by and_intros <;> first | kernel_rfl | trivial)
  have hdl_ : d.length ≤ 10000 := by rw [hd, List.take_nil]; simp
  refine wpIn_region_lit <| stF hA (by kernel_rfl) (by kernel_rfl) (by kernel_rfl) (by kernel_rfl) (RunsF.of (Runs.cells (fun b => pA b 0) #[vI .i64 0, vI .i64 0, vI .u32 0, vI .i64 0, vI .i64 0, vI .i64 0, vI .i64 0] 47 (fun _ => by kernel_rfl) hW ?_)); clear hA ac hW; intro b9 w10 hW hb9 hfw10 ac hA
  refine stF hA (by kernel_rfl) (by kernel_rfl) (by kernel_rfl) (by kernel_rfl) (RunsF.of (Runs.store (v := y8.v) (b := b9) (j := 0) (n := 7) (cs' := #[vI .i64 y8.i, vI .i64 y8.j, vI .u32 y8.addr, vI .i64 y8.p.a.f, vI .i64 y8.p.a.pc, vI .i64 y8.p.b.f, vI .i64 y8.p.b.pc]) (H' := [Cel b9 #[vI .i64 y8.i, vI .i64 y8.j, vI .u32 y8.addr, vI .i64 y8.p.a.f, vI .i64 y8.p.a.pc, vI .i64 y8.p.b.f, vI .i64 y8.p.b.pc] 47, rd_6, Cel b1 #[vS A d.length c] 35, rowR 47 7 enRace (vS A d.length c) d]) (by kernel_rfl) (by kernel_rfl) (by kernel_rfl) (by kernel_rfl) (by kernel_rfl) hW 0 (by rfl) (Nat.le_of_ble_eq_true (by kernel_rfl)) (by kernel_rfl) (by rfl) ?_)); clear hA ac hW; intro w11 hW ac hA
  refine wpListIn_nil <| thenN <| begun (bs := bs_6) (H' := [Cel b9 #[vI .i64 y8.i, vI .i64 y8.j, vI .u32 y8.addr, vI .i64 y8.p.a.f, vI .i64 y8.p.a.pc, vI .i64 y8.p.b.f, vI .i64 y8.p.b.pc] 47, bs_6, Cel b1 #[vS A d.length c] 35, rowR 47 7 enRace (vS A d.length c) d]) hW 1 rfl (fun b hb => by rw [hbs_6] at hb; rw [hrd_6]; exact hb) rfl ?_; clear hW; intro w12 hW
  refine wpIn_block <| wpIn_region_lit <| st_rdF (v := vS A d.length c) hA (by kernel_rfl) (by kernel_rfl) (by kernel_rfl) (by kernel_rfl) hW.cls (rl b1 0 2) ?_; clear hA ac; intro ac hA
  refine st_rdF (v := vA #[vI .i64 y8.i, vI .i64 y8.j, vI .u32 y8.addr, vI .i64 y8.p.a.f, vI .i64 y8.p.a.pc, vI .i64 y8.p.b.f, vI .i64 y8.p.b.pc]) hA (by kernel_rfl) (by kernel_rfl) (by kernel_rfl) (by kernel_rfl) hW.cls (rl b9 0 0) ?_; clear hA ac; intro ac hA
  refine stF hA (by kernel_rfl) (by kernel_rfl) (by kernel_rfl) (by kernel_rfl) (RunsF.of (Runs.cells (fun b => vS (some ⟨b, 0, none⟩) 1 1) #[vI .i64 y8.i, vI .i64 y8.j, vI .u32 y8.addr, vI .i64 y8.p.a.f, vI .i64 y8.p.a.pc, vI .i64 y8.p.b.f, vI .i64 y8.p.b.pc] 47 (fun _ => by kernel_rfl) hW ?_)); clear hA ac hW; intro b13 w14 hW hb13 hfw14 ac hA
  refine stF hA (by kernel_rfl) (by kernel_rfl) (by kernel_rfl) (by kernel_rfl) (RunsF.of (Runs.appOwn (B := (some ⟨b13, 0, none⟩)) (k := 1) (E := 47) (sz := 7) (en := enRace) (l := d) (m := ([y8] : List Race)) (i := 4) (by kernel_rfl) (by kernel_rfl) elt_Race (by kernel_rfl) hW rfl (rowAt_cel ((hW).cel 0 rfl) ([y8] : List Race) (by rfl) elt_Race.len) (by first | omega | (simp; done) | (simp; omega)) (by first | omega | (simp; done) | (simp; omega)) ?_)); clear hA ac hW; intro A15 c16 w17 hW hcc16 ac hA
  refine stF hA (by kernel_rfl) (by kernel_rfl) (by kernel_rfl) (by kernel_rfl) (RunsF.of (Runs.store (v := vS A15 (d ++ ([y8] : List Race)).length c16) (b := b1) (j := 0) (n := 1) (cs' := #[vS A15 (d ++ ([y8] : List Race)).length c16]) (H' := [Cel b13 #[vI .i64 y8.i, vI .i64 y8.j, vI .u32 y8.addr, vI .i64 y8.p.a.f, vI .i64 y8.p.a.pc, vI .i64 y8.p.b.f, vI .i64 y8.p.b.pc] 47, Cel b9 #[vI .i64 y8.i, vI .i64 y8.j, vI .u32 y8.addr, vI .i64 y8.p.a.f, vI .i64 y8.p.a.pc, vI .i64 y8.p.b.f, vI .i64 y8.p.b.pc] 47, bs_6, Cel b1 #[vS A15 (d ++ ([y8] : List Race)).length c16] 35, rowR 47 7 enRace (vS A15 (d ++ ([y8] : List Race)).length c16) (d ++ ([y8] : List Race))]) (by kernel_rfl) (by kernel_rfl) (by kernel_rfl) (by kernel_rfl) (by kernel_rfl) hW 3 (by rfl) (Nat.le_of_ble_eq_true (by kernel_rfl)) (by kernel_rfl) (by rfl) ?_)); clear hA ac hW; intro w18 hW ac hA
  refine wpListIn_nil <| blkN ?_
  exact ⟨_, ⟨k + 1, d ++ ([y8] : List Race), A15, c16, hsny8, hlty8, by rw [tk_snoc hy8, ← hd], by exact hcc16, rfl⟩, (hW.pick [2, 3, 4] (by decide) rfl).pickG [0, 1] rfl⟩
 ·
  clear hA ac hW; intro D19 xs_ Hk_ w20 ac hS_ hJ_ hA hW
  obtain ⟨k, d, A, c, hpre_, hk_, hd, hdc, rfl⟩ := hJ_
  have hke : k = ([] : List Race).length := by have h_ : k ≤ 0 := hk_; show k = 0; omega
  clear hpre_ hS_
  replace hW : Ws w No [Cel b1 #[vS A d.length c] 35, rowR 47 7 enRace (vS A d.length c) d, DefR D19] [g5, Cel o #[vS none 0 0, vS none 0 0, vM none, vM none] 64] w20 := hW
  refine blkN <| thenN <| wpIn_seq <| wpIn_region_lit <| st_rdF (v := vS A d.length c) hA (by kernel_rfl) (by kernel_rfl) (by kernel_rfl) (by kernel_rfl) hW.cls (rl b1 0 0) ?_; clear hA ac; intro ac hA
  refine stF hA (by kernel_rfl) (by kernel_rfl) (by kernel_rfl) (by kernel_rfl) (RunsF.of (Runs.store (v := vS A d.length c) (b := b1) (j := 0) (n := 1) (cs' := #[vS A d.length c]) (H' := [Cel b1 #[vS A d.length c] 35, rowR 47 7 enRace (vS A d.length c) d, DefR D19]) (by kernel_rfl) (by kernel_rfl) (by kernel_rfl) (by kernel_rfl) (by kernel_rfl) hW 0 (by rfl) (Nat.le_of_ble_eq_true (by kernel_rfl)) (by kernel_rfl) (by rfl) ?_)); clear hA ac hW; intro w21 hW ac hA
  refine wpListIn_nil <| thenN <| wpIn_ret <| retF (.inl rfl) hA <| leaveD (H' := [Cel b1 #[vS A d.length c] 35, rowR 47 7 enRace (vS A d.length c) d]) hW 2 rfl rfl ?_; clear hW; intro w22 hW
  refine leave1 (v := vS A d.length c) (by rfl) (GotF.cell (b := b1) (i := 0) hA (by kernel_rfl) (by kernel_rfl) (hW.cel 0 rfl) (by kernel_rfl)) ?_
  clear hA
  have hd0_ : d = [] := by rw [hd]; simp
  subst hd0_; exact ⟨_, rfl, hW.fresh 1 rfl (fun _ h => h), hW.fr⟩
 ·
  clear hA ac hW; intro D23 c_ pre_ Hk_ w24 ac hJ_ hA hW
  exact hJ_.elim

set_option maxRecDepth 100000 in
theorem e_rAll_z (o : Nat) (w : World) (ho_o : w.heap[o]? = some (.cells #[vS none 0 0, vS none 0 0, vM none, vM none] 64 (0, 0))) : Calls Tryz.prog 14 #[pA o 0] w (fun e w' => ∃ (lb : Array Value) (g : Res), e = .returned (vF (.func 36) #[] lb) ∧ Iter Tryz.prog 36 lb (fun x_ : Race × Nat => #[vI .i64 ((x_.2 : Nat) : Int), x_.1.v]) (· = ([] : List Race).zipIdx) [g] ∧ g.from_ [] w w' ∧ Fr No w w') := by
 have _hu := ho_o; clear _hu
 refine enter_E 7 Tryz.func14 rfl rfl (by kernel_rfl) (L := [(0, pA o 0)]) (by kernel_rfl) ?_
 intro ac hA
 have hW := Ws.start w No
 have hW := hW.celG ho_o
 refine wr <| st_p (Value.nilFunc) hA ?_; clear hA ac; intro ac hA
 refine wn <| wr <| st_p (pA o 0) hA ?_; clear hA ac; intro ac hA
 refine st_s hA (Runs.callRow (E := 47) (sz := 7) (en := enRace) (l := ([] : List Race)) (fun _ => by kernel_rfl) hW (e_rall_z o w (show _ = _ from (hW).getG 0 rfl)) ?_); clear hA ac hW; intro A2 c3 w1 hW hcc3 hfw1 ac hA
 refine st_s hA (Runs.cells (fun b => pA b 0) #[vS none 0 0] 35 (fun _ => by kernel_rfl) hW ?_); clear hA ac hW; intro b5 w6 hW hb5 hfw6 ac hA
 refine st_s hA (Runs.store (v := vS A2 ([] : List Race).length c3) (b := b5) (j := 0) (n := 1) (cs' := #[vS A2 ([] : List Race).length c3]) (H' := [Cel b5 #[vS A2 ([] : List Race).length c3] 35, rowR 47 7 enRace (vS A2 ([] : List Race).length c3) ([] : List Race)]) (by kernel_rfl) (by kernel_rfl) (by kernel_rfl) (by kernel_rfl) (by kernel_rfl) hW 0 (by rfl) (Nat.le_of_ble_eq_true (by kernel_rfl)) (by kernel_rfl) (by rfl) ?_); clear hA ac hW; intro w7 hW ac hA
 refine wn <| wr <| st_p (vF (.func 36) #[] #[pA b5 0]) hA fun ac hA => st_p (vF (.func 36) #[] #[pA b5 0]) hA fun ac hA => wn <| wp_ret <| r1 (vF (.func 36) #[] #[pA b5 0]) hA ?_
 clear hA
 exact ⟨_, _, rfl, iter_many (it_36 b5 _ _ ([] : List Race) (own_cap (hW.get 1 rfl)) (by simp)), from_many (froms_cons (hW.outOwn 0 rfl (fun _ h => h)) (froms_cons (hW.outRow 1 rfl elt_Race.len (fun _ h => h)) froms_nil)), hW.fr⟩

set_option maxRecDepth 100000 in
theorem e_rFree_z (o : Nat) (w : World) (ho_o : w.heap[o]? = some (.cells #[vS none 0 0, vS none 0 0, vM none, vM none] 64 (0, 0))) : Calls Tryz.prog 15 #[pA o 0] w (fun e w' => e = .returned (vB true) ∧ Fr No w w') := by
 have _hu := ho_o; clear _hu
 refine enter_E 7 Tryz.func15 rfl rfl (by kernel_rfl) (L := [(0, pA o 0)]) (by kernel_rfl) ?_
 intro ac hA
 have hW := Ws.start w No
 have hW := hW.celG ho_o
 refine wr <| st_p (vB false) hA ?_; clear hA ac; intro ac hA
 refine wn <| wr <| st_p (pA o 0) hA ?_; clear hA ac; intro ac hA
 refine st_s hA (Runs.callRow (E := 47) (sz := 7) (en := enRace) (l := ([] : List Race)) (fun _ => by kernel_rfl) hW (e_rall_z o w (show _ = _ from (hW).getG 0 rfl)) ?_); clear hA ac hW; intro A2 c3 w1 hW hcc3 hfw1 ac hA
 refine st_p (vI .i64 ((([] : List Race).length : Nat) : Int)) hA fun ac hA => st_p (vB ((((([] : List Race).length : Nat) : Int) : Int) == (0 : Int))) hA fun ac hA => st_p (vB ((((([] : List Race).length : Nat) : Int) : Int) == (0 : Int))) hA fun ac hA => wn <| wp_ret <| r1 (vB ((((([] : List Race).length : Nat) : Int) : Int) == (0 : Int))) hA ?_
 clear hA
 exact ⟨retv (congrArg vB (by rfl)), hW.fr⟩

set_option maxRecDepth 100000 in
theorem e_oev_n (i : Int) (w : World)  : Calls Tryz.prog 68 #[vP none, vI .i64 i] w (fun e w' => e = .returned (vT #[(⟨0, 0, ⟨0, 0⟩, 0, 0, 0, 0, 0⟩ : Event).v, vB false]) ∧ Fr No w w') := by
 refine enter_E 25 Tryz.func68 rfl rfl (by kernel_rfl) (L := [(0, vP none), (1, vI .i64 i)]) (by kernel_rfl) ?_
 intro ac hA
 have hW := Ws.start w No
 refine wr <| st_s hA (Runs.cells (fun b => pA b 0) #[vI .i64 0, vI .i64 0, vI .i64 0, vI .i64 0, vI .u32 0, vI .i64 0, vI .i64 0, vI .i64 0, vI .i64 0] 51 (fun _ => by kernel_rfl) hW ?_); clear hA ac hW; intro b1 w2 hW hb1 hfw2 ac hA
 refine st_p (vB false) hA ?_; clear hA ac; intro ac hA
 refine wn <| wp_seq <| wr <| st_p (vP none) hA ?_; clear hA ac; intro ac hA
 refine st_s hA (Runs.callN (v := vB true) (fun _ => by kernel_rfl) hW (e_onone_n w2) ?_); clear hA ac hW; intro w3 hW hfw3 ac hA
 refine st_p (vB true) hA fun ac hA => st_k hA fun ac hA => st_k hA fun ac hA => st_k hA fun ac hA => st_k hA fun ac hA => st_k hA fun ac hA => st_k hA fun ac hA => st_p (vB true) hA fun ac hA => wn <| wp_cond_true (hA.eval (by kernel_rfl)) <| wr <| st_p (vA #[vI .i64 0, vI .i64 0, vI .i64 0, vI .i64 0, vI .u32 0, vI .i64 0, vI .i64 0, vI .i64 0, vI .i64 0]) hA ?_; clear hA ac; intro ac hA
 refine st_s hA (Runs.store (v := vA #[vI .i64 0, vI .i64 0, vI .i64 0, vI .i64 0, vI .u32 0, vI .i64 0, vI .i64 0, vI .i64 0, vI .i64 0]) (b := b1) (j := 0) (n := 9) (cs' := #[vI .i64 0, vI .i64 0, vI .i64 0, vI .i64 0, vI .u32 0, vI .i64 0, vI .i64 0, vI .i64 0, vI .i64 0]) (H' := [Cel b1 #[vI .i64 0, vI .i64 0, vI .i64 0, vI .i64 0, vI .u32 0, vI .i64 0, vI .i64 0, vI .i64 0, vI .i64 0] 51]) (by kernel_rfl) (by kernel_rfl) (by kernel_rfl) (by kernel_rfl) (by kernel_rfl) hW 0 (by rfl) (Nat.le_of_ble_eq_true (by kernel_rfl)) (by kernel_rfl) (by rfl) ?_); clear hA ac hW; intro w4 hW ac hA
 refine st_p (vB false) hA ?_; clear hA ac; intro ac hA
 refine wn <| wp_ret <| thenR <| ret2 (v1 := vA #[vI .i64 0, vI .i64 0, vI .i64 0, vI .i64 0, vI .u32 0, vI .i64 0, vI .i64 0, vI .i64 0, vI .i64 0]) (v2 := vB false) (by rfl) hA (Got.cell (b := b1) (i := 0) hA (by kernel_rfl) (by kernel_rfl) (hW.cel 0 rfl) (by kernel_rfl)) (Got.tmp hA (by kernel_rfl) (by kernel_rfl)) ?_
 clear hA
 exact ⟨retv (by rfl), hW.fr⟩

set_option maxRecDepth 100000 in
theorem e_made_n  (w : World)  : Calls Tryz.prog 42 #[vP none] w (fun e w' => e = .returned (vB false) ∧ Fr No w w') := by
 refine enter_E 11 Tryz.func42 rfl rfl (by kernel_rfl) (L := [(0, vP none)]) (by kernel_rfl) ?_
 intro ac hA
 have hW := Ws.start w No
 refine wr <| st_p (vB false) hA ?_; clear hA ac; intro ac hA
 refine wn <| wr <| st_p (vP none) hA fun ac hA => st_p (vB false) hA fun ac hA => st_p (vB false) hA fun ac hA => st_k hA fun ac hA => st_k hA fun ac hA => st_k hA fun ac hA => st_k hA fun ac hA => st_p (vB false) hA fun ac hA => st_p (vB false) hA fun ac hA => wn <| wp_ret <| r1 (vB false) hA ?_
 clear hA
 exact ⟨retv (by rfl), hW.fr⟩

set_option maxRecDepth 100000 in
theorem e_rFirst_n  (w : World)  : Calls Tryz.prog 19 #[vP none] w (fun e w' => e = .returned (vT #[(⟨0, 0, 0, ⟨⟨0, 0⟩, ⟨0, 0⟩⟩⟩ : Race).v, vI .i64 1]) ∧ Fr No w w') := by
 refine enter_E 18 Tryz.func19 rfl rfl (by kernel_rfl) (L := [(0, vP none)]) (by kernel_rfl) ?_
 intro ac hA
 have hW := Ws.start w No
 refine wr <| st_s hA (Runs.cells (fun b => pA b 0) #[vI .i64 0, vI .i64 0, vI .u32 0, vI .i64 0, vI .i64 0, vI .i64 0, vI .i64 0] 47 (fun _ => by kernel_rfl) hW ?_); clear hA ac hW; intro b1 w2 hW hb1 hfw2 ac hA
 refine st_p (vI .i64 0) hA ?_; clear hA ac; intro ac hA
 refine wn <| wp_fwd (l := 0) rfl <| wr <| st_p (vS none 0 0) hA ?_; clear hA ac; intro ac hA
 refine wn <| wp_seq <| wr <| st_p (vI .i64 1) hA ?_; clear hA ac; intro ac hA
 refine wn <| wr <| st_p (vP none) hA ?_; clear hA ac; intro ac hA
 refine st_s hA (Runs.callN (v := vB false) (fun _ => by kernel_rfl) hW (e_made_n w2) ?_); clear hA ac hW; intro w3 hW hfw3 ac hA
 refine st_p (vB true) hA ?_; clear hA ac; intro ac hA
 refine wn <| wp_cond_true (hA.eval (by kernel_rfl)) <| wp_goto <| thenG <| fwdG <| wp_seq <| wp_skip <| thenN <| wr <| st_p (vA #[vI .i64 0, vI .i64 0, vI .u32 0, vI .i64 0, vI .i64 0, vI .i64 0, vI .i64 0]) hA fun ac hA => st_p (vI .i64 1) hA fun ac hA => st_s hA (Runs.store (v := vA #[vI .i64 0, vI .i64 0, vI .u32 0, vI .i64 0, vI .i64 0, vI .i64 0, vI .i64 0]) (b := b1) (j := 0) (n := 7) (cs' := #[vI .i64 0, vI .i64 0, vI .u32 0, vI .i64 0, vI .i64 0, vI .i64 0, vI .i64 0]) (H' := [Cel b1 #[vI .i64 0, vI .i64 0, vI .u32 0, vI .i64 0, vI .i64 0, vI .i64 0, vI .i64 0] 47]) (by kernel_rfl) (by kernel_rfl) (by kernel_rfl) (by kernel_rfl) (by kernel_rfl) hW 0 (by rfl) (Nat.le_of_ble_eq_true (by kernel_rfl)) (by kernel_rfl) (by rfl) ?_); clear hA ac hW; intro w4 hW ac hA
 refine st_p (vI .i64 1) hA ?_; clear hA ac; intro ac hA
 refine wn <| wp_ret <| nogR <| ret2 (v1 := vA #[vI .i64 0, vI .i64 0, vI .u32 0, vI .i64 0, vI .i64 0, vI .i64 0, vI .i64 0]) (v2 := vI .i64 1) (by rfl) hA (Got.cell (b := b1) (i := 0) hA (by kernel_rfl) (by kernel_rfl) (hW.cel 0 rfl) (by kernel_rfl)) (Got.tmp hA (by kernel_rfl) (by kernel_rfl)) ?_
 clear hA
 exact ⟨retv (by rfl), hW.fr⟩

set_option maxRecDepth 100000 in
theorem e_rwith_n (j : Int) (w : World)  : Calls Tryz.prog 47 #[vA #[vP none], vI .i64 j] w (fun e w' => e = .returned (vS none 0 0) ∧ Fr No w w') := by
 refine enter_E 19 Tryz.func47 rfl rfl (by kernel_rfl) (L := [(0, vA #[vP none]), (1, vI .i64 j)]) (by kernel_rfl) ?_
 intro ac hA
 have hW := Ws.start w No
 refine wr <| st_s hA (Runs.cells (fun b => pA b 0) #[vP none] 96 (fun _ => by kernel_rfl) hW ?_); clear hA ac hW; intro b1 w2 hW hb1 hfw2 ac hA
 refine st_s hA (Runs.cells (fun b => pA b 0) #[vI .i64 j] 3 (fun _ => by kernel_rfl) hW ?_); clear hA ac hW; intro b3 w4 hW hb3 hfw4 ac hA
 refine st_p (vS none 0 0) hA ?_; clear hA ac; intro ac hA
 refine wn <| wr <| st_p (pA b1 0) hA fun ac hA => st_q (vP none) hA hW.cls (rl b1 0 1) fun ac hA => st_q (vI .i64 j) hA hW.cls (rl b3 0 0) fun ac hA => st_s hA (Runs.callN (v := vT #[(⟨0, 0, ⟨0, 0⟩, 0, 0, 0, 0, 0⟩ : Event).v, vB false]) (fun _ => by kernel_rfl) hW (e_oev_n (j) w4) ?_); clear hA ac hW; intro w5 hW hfw5 ac hA
 refine st_p (vT #[(⟨0, 0, ⟨0, 0⟩, 0, 0, 0, 0, 0⟩ : Event).v, vB false]) hA fun ac hA => st_p ((⟨0, 0, ⟨0, 0⟩, 0, 0, 0, 0, 0⟩ : Event).v) hA fun ac hA => st_p (vB false) hA fun ac hA => st_s hA (Runs.cells (fun b => pA b 0) #[vI .i64 0, vI .i64 0, vI .i64 0, vI .i64 0, vI .u32 0, vI .i64 0, vI .i64 0, vI .i64 0, vI .i64 0] 51 (fun _ => by kernel_rfl) hW ?_); clear hA ac hW; intro b6 w7 hW hb6 hfw7 ac hA
 refine st_s hA (Runs.store (v := (⟨0, 0, ⟨0, 0⟩, 0, 0, 0, 0, 0⟩ : Event).v) (b := b6) (j := 0) (n := 9) (cs' := #[vI .i64 (⟨0, 0, ⟨0, 0⟩, 0, 0, 0, 0, 0⟩ : Event).g, vI .i64 (⟨0, 0, ⟨0, 0⟩, 0, 0, 0, 0, 0⟩ : Event).kind, vI .i64 (⟨0, 0, ⟨0, 0⟩, 0, 0, 0, 0, 0⟩ : Event).site.f, vI .i64 (⟨0, 0, ⟨0, 0⟩, 0, 0, 0, 0, 0⟩ : Event).site.pc, vI .u32 (⟨0, 0, ⟨0, 0⟩, 0, 0, 0, 0, 0⟩ : Event).addr, vI .i64 (⟨0, 0, ⟨0, 0⟩, 0, 0, 0, 0, 0⟩ : Event).child, vI .i64 (⟨0, 0, ⟨0, 0⟩, 0, 0, 0, 0, 0⟩ : Event).obj, vI .i64 (⟨0, 0, ⟨0, 0⟩, 0, 0, 0, 0, 0⟩ : Event).n, vI .i64 (⟨0, 0, ⟨0, 0⟩, 0, 0, 0, 0, 0⟩ : Event).trap]) (H' := [Cel b6 #[vI .i64 (⟨0, 0, ⟨0, 0⟩, 0, 0, 0, 0, 0⟩ : Event).g, vI .i64 (⟨0, 0, ⟨0, 0⟩, 0, 0, 0, 0, 0⟩ : Event).kind, vI .i64 (⟨0, 0, ⟨0, 0⟩, 0, 0, 0, 0, 0⟩ : Event).site.f, vI .i64 (⟨0, 0, ⟨0, 0⟩, 0, 0, 0, 0, 0⟩ : Event).site.pc, vI .u32 (⟨0, 0, ⟨0, 0⟩, 0, 0, 0, 0, 0⟩ : Event).addr, vI .i64 (⟨0, 0, ⟨0, 0⟩, 0, 0, 0, 0, 0⟩ : Event).child, vI .i64 (⟨0, 0, ⟨0, 0⟩, 0, 0, 0, 0, 0⟩ : Event).obj, vI .i64 (⟨0, 0, ⟨0, 0⟩, 0, 0, 0, 0, 0⟩ : Event).n, vI .i64 (⟨0, 0, ⟨0, 0⟩, 0, 0, 0, 0, 0⟩ : Event).trap] 51, Cel b3 #[vI .i64 j] 3, Cel b1 #[vP none] 96]) (by kernel_rfl) (by kernel_rfl) (by kernel_rfl) (by kernel_rfl) (by kernel_rfl) hW 0 (by rfl) (Nat.le_of_ble_eq_true (by kernel_rfl)) (by kernel_rfl) (by rfl) ?_); clear hA ac hW; intro w8 hW ac hA
 refine st_p (vB false) hA ?_; clear hA ac; intro ac hA
 refine wn <| wp_seq <| wr <| st_p (vB false) hA fun ac hA => st_p (vB true) hA fun ac hA => wn <| wp_cond_true (hA.eval (by kernel_rfl)) <| wr <| st_p (vS none 0 0) hA ?_; clear hA ac; intro ac hA
 refine wn <| wp_ret <| thenR <| r1 (vS none 0 0) hA ?_
 clear hA
 exact ⟨retv (by rfl), hW.fr⟩

set_option maxRecDepth 100000 in
theorem e_rWith_n (j : Int) (w : World)  : Calls Tryz.prog 25 #[vP none, vI .i64 j] w (fun e w' => e = .returned (vS none 0 0) ∧ Fr No w w') := by
 refine enter_E 9 Tryz.func25 rfl rfl (by kernel_rfl) (L := [(0, vP none), (1, vI .i64 j)]) (by kernel_rfl) ?_
 intro ac hA
 have hW := Ws.start w No
 refine wr <| st_p (vS none 0 0) hA ?_; clear hA ac; intro ac hA
 refine wn <| wr <| st_p (vP none) hA fun ac hA => st_p (vA #[vP none]) hA fun ac hA => st_p (vI .i64 j) hA fun ac hA => st_s hA (Runs.callN (v := vS none 0 0) (fun _ => by kernel_rfl) hW (e_rwith_n (j) w) ?_); clear hA ac hW; intro w1 hW hfw1 ac hA
 refine st_p (vS none 0 0) hA ?_; clear hA ac; intro ac hA
 refine wn <| wp_ret <| r1 (vS none 0 0) hA ?_
 clear hA
 exact ⟨retv (by rfl), hW.fr⟩

set_option maxRecDepth 100000 in
theorem e_rFirsts_n  (w : World)  : Calls Tryz.prog 20 #[vP none] w (fun e w' => e = .returned (vS none 0 0) ∧ Fr No w w') := by
 refine enter_E 32 Tryz.func20 rfl rfl (by kernel_rfl) (L := [(0, vP none)]) (by kernel_rfl) ?_
 intro ac hA
 have hW := Ws.start w No
 refine wr <| st_p (vS none 0 0) hA ?_; clear hA ac; intro ac hA
 refine wn <| wr <| st_s hA (Runs.makeMap (fun a : Int => vI .u32 a) (fun a : Int => vI .i64 a) hW ?_); clear hA ac hW; intro b1 w2 hW hb1 hfw2 ac hA
 refine st_p (vM (some b1)) hA ?_; clear hA ac; intro ac hA
 refine wn <| wp_seq <| wr <| st_p (vP none) hA ?_; clear hA ac; intro ac hA
 refine st_s hA (Runs.callRow (E := 47) (sz := 7) (en := enRace) (l := ([] : List Race)) (fun _ => by kernel_rfl) hW (e_rall_n w2) ?_); clear hA ac hW; intro A4 c5 w3 hW hcc5 hfw3 ac hA
 refine st_p (vI .i64 ((([] : List Race).length : Nat) : Int)) hA fun ac hA => st_p (vI .i64 0) hA fun ac hA => wn <| wp_block <| wp_loop_rounds 1 ?_
 rw [rounds_succ]
 refine wr <| st_p (vB (decide ((0 : Int) < (((([] : List Race).length : Nat) : Int) : Int)))) hA ?_; clear hA ac; intro ac hA
 refine wn <| wp_seq <| wp_cond_split (t := decide ((0 : Int) < (((([] : List Race).length : Nat) : Int) : Int))) (hA.eval (by kernel_rfl)) (fun h7 => ?_) (fun h7 => ?_)
 ·
  have h7 := of_decide_eq_true h7
  exfalso; clear hA hW; exact absurd h7 (by decide)
 have h7 := of_decide_eq_false h7
 refine wp_exit <| thenX <| thenX <| blkX <| thenN <| wr <| st_p (vS none 0 0) hA ?_; clear hA ac; intro ac hA
 refine st_s hA (Runs.callN (v := vT #[]) (fun _ => by kernel_rfl) hW (e_sort0 none 0 ([] : List Race) w3 (RowAt.nil' _ _) (by first | assumption | omega | (simp; omega) | simp) (by first | omega | rfl | (simp; done))) ?_); clear hA ac hW; intro w8 hW hfw8 ac hA
 refine wn <| wr <| st_p (vS none 0 0) hA fun ac hA => st_p (vS none 0 0) hA fun ac hA => wn <| wp_ret <| r1 (vS none 0 0) hA ?_
 clear hA
 exact ⟨retv (by rfl), hW.fr⟩

set_option maxRecDepth 100000 in
theorem e_oev_z (o : Nat) (i : Int) (w : World) (ho_o : w.heap[o]? = some (.cells #[vS none 0 0, vS none 0 0, vM none, vM none] 64 (0, 0))) : Calls Tryz.prog 68 #[pA o 0, vI .i64 i] w (fun e w' => e = .returned (vT #[(⟨0, 0, ⟨0, 0⟩, 0, 0, 0, 0, 0⟩ : Event).v, vB false]) ∧ Fr No w w') := by
 have _hu := ho_o; clear _hu
 refine enter_E 25 Tryz.func68 rfl rfl (by kernel_rfl) (L := [(0, pA o 0), (1, vI .i64 i)]) (by kernel_rfl) ?_
 intro ac hA
 have hW := Ws.start w No
 have hW := hW.celG ho_o
 refine wr <| st_s hA (Runs.cells (fun b => pA b 0) #[vI .i64 0, vI .i64 0, vI .i64 0, vI .i64 0, vI .u32 0, vI .i64 0, vI .i64 0, vI .i64 0, vI .i64 0] 51 (fun _ => by kernel_rfl) hW ?_); clear hA ac hW; intro b1 w2 hW hb1 hfw2 ac hA
 refine st_p (vB false) hA ?_; clear hA ac; intro ac hA
 refine wn <| wp_seq <| wr <| st_p (pA o 0) hA ?_; clear hA ac; intro ac hA
 refine st_s hA (Runs.callN (v := vB true) (fun _ => by kernel_rfl) hW (e_onone_z o w2 (show _ = _ from (hW).getG 0 rfl)) ?_); clear hA ac hW; intro w3 hW hfw3 ac hA
 refine st_p (vB true) hA fun ac hA => st_k hA fun ac hA => st_k hA fun ac hA => st_k hA fun ac hA => st_k hA fun ac hA => st_k hA fun ac hA => st_k hA fun ac hA => st_p (vB true) hA fun ac hA => wn <| wp_cond_true (hA.eval (by kernel_rfl)) <| wr <| st_p (vA #[vI .i64 0, vI .i64 0, vI .i64 0, vI .i64 0, vI .u32 0, vI .i64 0, vI .i64 0, vI .i64 0, vI .i64 0]) hA ?_; clear hA ac; intro ac hA
 refine st_s hA (Runs.store (v := vA #[vI .i64 0, vI .i64 0, vI .i64 0, vI .i64 0, vI .u32 0, vI .i64 0, vI .i64 0, vI .i64 0, vI .i64 0]) (b := b1) (j := 0) (n := 9) (cs' := #[vI .i64 0, vI .i64 0, vI .i64 0, vI .i64 0, vI .u32 0, vI .i64 0, vI .i64 0, vI .i64 0, vI .i64 0]) (H' := [Cel b1 #[vI .i64 0, vI .i64 0, vI .i64 0, vI .i64 0, vI .u32 0, vI .i64 0, vI .i64 0, vI .i64 0, vI .i64 0] 51]) (by kernel_rfl) (by kernel_rfl) (by kernel_rfl) (by kernel_rfl) (by kernel_rfl) hW 0 (by rfl) (Nat.le_of_ble_eq_true (by kernel_rfl)) (by kernel_rfl) (by rfl) ?_); clear hA ac hW; intro w4 hW ac hA
 refine st_p (vB false) hA ?_; clear hA ac; intro ac hA
 refine wn <| wp_ret <| thenR <| ret2 (v1 := vA #[vI .i64 0, vI .i64 0, vI .i64 0, vI .i64 0, vI .u32 0, vI .i64 0, vI .i64 0, vI .i64 0, vI .i64 0]) (v2 := vB false) (by rfl) hA (Got.cell (b := b1) (i := 0) hA (by kernel_rfl) (by kernel_rfl) (hW.cel 0 rfl) (by kernel_rfl)) (Got.tmp hA (by kernel_rfl) (by kernel_rfl)) ?_
 clear hA
 exact ⟨retv (by rfl), hW.fr⟩

set_option maxRecDepth 100000 in
theorem e_made_z (o : Nat) (w : World) (ho_o : w.heap[o]? = some (.cells #[vS none 0 0, vS none 0 0, vM none, vM none] 64 (0, 0))) : Calls Tryz.prog 42 #[pA o 0] w (fun e w' => e = .returned (vB false) ∧ Fr No w w') := by
 have _hu := ho_o; clear _hu
 refine enter_E 11 Tryz.func42 rfl rfl (by kernel_rfl) (L := [(0, pA o 0)]) (by kernel_rfl) ?_
 intro ac hA
 have hW := Ws.start w No
 have hW := hW.celG ho_o
 refine wr <| st_p (vB false) hA ?_; clear hA ac; intro ac hA
 refine wn <| wr <| st_p (pA o 0) hA fun ac hA => st_p (vB true) hA fun ac hA => st_p (vB true) hA fun ac hA => st_p (pA o 0) hA fun ac hA => st_p (vA #[vI .i64 0, vI .i64 0, vI .i64 0, vI .i64 0, vI .u32 0, vI .i64 0, vI .i64 0, vI .i64 0, vI .i64 0]) hA fun ac hA => st_s hA (Runs.callN (v := vI .i64 1) (fun _ => by kernel_rfl) hW (e_oadd_z o (⟨0, 0, (⟨0, 0⟩ : Site), 0, 0, 0, 0, 0⟩ : Event) w (show _ = _ from (hW).getG 0 rfl)) ?_); clear hA ac hW; intro w1 hW hfw1 ac hA
 refine st_p (vB false) hA fun ac hA => st_p (vB false) hA fun ac hA => st_p (vB false) hA fun ac hA => wn <| wp_ret <| r1 (vB false) hA ?_
 clear hA
 exact ⟨retv (by rfl), hW.fr⟩

set_option maxRecDepth 100000 in
theorem e_rFirst_z (o : Nat) (w : World) (ho_o : w.heap[o]? = some (.cells #[vS none 0 0, vS none 0 0, vM none, vM none] 64 (0, 0))) : Calls Tryz.prog 19 #[pA o 0] w (fun e w' => e = .returned (vT #[(⟨0, 0, 0, ⟨⟨0, 0⟩, ⟨0, 0⟩⟩⟩ : Race).v, vI .i64 1]) ∧ Fr No w w') := by
 have _hu := ho_o; clear _hu
 refine enter_E 18 Tryz.func19 rfl rfl (by kernel_rfl) (L := [(0, pA o 0)]) (by kernel_rfl) ?_
 intro ac hA
 have hW := Ws.start w No
 have hW := hW.celG ho_o
 refine wr <| st_s hA (Runs.cells (fun b => pA b 0) #[vI .i64 0, vI .i64 0, vI .u32 0, vI .i64 0, vI .i64 0, vI .i64 0, vI .i64 0] 47 (fun _ => by kernel_rfl) hW ?_); clear hA ac hW; intro b1 w2 hW hb1 hfw2 ac hA
 refine st_p (vI .i64 0) hA ?_; clear hA ac; intro ac hA
 refine wn <| wp_fwd (l := 0) rfl <| wr <| st_p (vS none 0 0) hA ?_; clear hA ac; intro ac hA
 refine wn <| wp_seq <| wr <| st_p (vI .i64 1) hA ?_; clear hA ac; intro ac hA
 refine wn <| wr <| st_p (pA o 0) hA ?_; clear hA ac; intro ac hA
 refine st_s hA (Runs.callN (v := vB false) (fun _ => by kernel_rfl) hW (e_made_z o w2 (show _ = _ from (hW).getG 0 rfl)) ?_); clear hA ac hW; intro w3 hW hfw3 ac hA
 refine st_p (vB true) hA ?_; clear hA ac; intro ac hA
 refine wn <| wp_cond_true (hA.eval (by kernel_rfl)) <| wp_goto <| thenG <| fwdG <| wp_seq <| wp_skip <| thenN <| wr <| st_p (vA #[vI .i64 0, vI .i64 0, vI .u32 0, vI .i64 0, vI .i64 0, vI .i64 0, vI .i64 0]) hA fun ac hA => st_p (vI .i64 1) hA fun ac hA => st_s hA (Runs.store (v := vA #[vI .i64 0, vI .i64 0, vI .u32 0, vI .i64 0, vI .i64 0, vI .i64 0, vI .i64 0]) (b := b1) (j := 0) (n := 7) (cs' := #[vI .i64 0, vI .i64 0, vI .u32 0, vI .i64 0, vI .i64 0, vI .i64 0, vI .i64 0]) (H' := [Cel b1 #[vI .i64 0, vI .i64 0, vI .u32 0, vI .i64 0, vI .i64 0, vI .i64 0, vI .i64 0] 47]) (by kernel_rfl) (by kernel_rfl) (by kernel_rfl) (by kernel_rfl) (by kernel_rfl) hW 0 (by rfl) (Nat.le_of_ble_eq_true (by kernel_rfl)) (by kernel_rfl) (by rfl) ?_); clear hA ac hW; intro w4 hW ac hA
 refine st_p (vI .i64 1) hA ?_; clear hA ac; intro ac hA
 refine wn <| wp_ret <| nogR <| ret2 (v1 := vA #[vI .i64 0, vI .i64 0, vI .u32 0, vI .i64 0, vI .i64 0, vI .i64 0, vI .i64 0]) (v2 := vI .i64 1) (by rfl) hA (Got.cell (b := b1) (i := 0) hA (by kernel_rfl) (by kernel_rfl) (hW.cel 0 rfl) (by kernel_rfl)) (Got.tmp hA (by kernel_rfl) (by kernel_rfl)) ?_
 clear hA
 exact ⟨retv (by rfl), hW.fr⟩

set_option maxRecDepth 100000 in
theorem e_rwith_z (o : Nat) (j : Int) (w : World) (ho_o : w.heap[o]? = some (.cells #[vS none 0 0, vS none 0 0, vM none, vM none] 64 (0, 0))) : Calls Tryz.prog 47 #[vA #[pA o 0], vI .i64 j] w (fun e w' => e = .returned (vS none 0 0) ∧ Fr No w w') := by
 have _hu := ho_o; clear _hu
 refine enter_E 19 Tryz.func47 rfl rfl (by kernel_rfl) (L := [(0, vA #[pA o 0]), (1, vI .i64 j)]) (by kernel_rfl) ?_
 intro ac hA
 have hW := Ws.start w No
 have hW := hW.celG ho_o
 refine wr <| st_s hA (Runs.cells (fun b => pA b 0) #[pA o 0] 96 (fun _ => by kernel_rfl) hW ?_); clear hA ac hW; intro b1 w2 hW hb1 hfw2 ac hA
 refine st_s hA (Runs.cells (fun b => pA b 0) #[vI .i64 j] 3 (fun _ => by kernel_rfl) hW ?_); clear hA ac hW; intro b3 w4 hW hb3 hfw4 ac hA
 refine st_p (vS none 0 0) hA ?_; clear hA ac; intro ac hA
 refine wn <| wr <| st_p (pA b1 0) hA fun ac hA => st_q (pA o 0) hA hW.cls (rl b1 0 1) fun ac hA => st_q (vI .i64 j) hA hW.cls (rl b3 0 0) fun ac hA => st_s hA (Runs.callN (v := vT #[(⟨0, 0, ⟨0, 0⟩, 0, 0, 0, 0, 0⟩ : Event).v, vB false]) (fun _ => by kernel_rfl) hW (e_oev_z o (j) w4 (show _ = _ from (hW).getG 0 rfl)) ?_); clear hA ac hW; intro w5 hW hfw5 ac hA
 refine st_p (vT #[(⟨0, 0, ⟨0, 0⟩, 0, 0, 0, 0, 0⟩ : Event).v, vB false]) hA fun ac hA => st_p ((⟨0, 0, ⟨0, 0⟩, 0, 0, 0, 0, 0⟩ : Event).v) hA fun ac hA => st_p (vB false) hA fun ac hA => st_s hA (Runs.cells (fun b => pA b 0) #[vI .i64 0, vI .i64 0, vI .i64 0, vI .i64 0, vI .u32 0, vI .i64 0, vI .i64 0, vI .i64 0, vI .i64 0] 51 (fun _ => by kernel_rfl) hW ?_); clear hA ac hW; intro b6 w7 hW hb6 hfw7 ac hA
 refine st_s hA (Runs.store (v := (⟨0, 0, ⟨0, 0⟩, 0, 0, 0, 0, 0⟩ : Event).v) (b := b6) (j := 0) (n := 9) (cs' := #[vI .i64 (⟨0, 0, ⟨0, 0⟩, 0, 0, 0, 0, 0⟩ : Event).g, vI .i64 (⟨0, 0, ⟨0, 0⟩, 0, 0, 0, 0, 0⟩ : Event).kind, vI .i64 (⟨0, 0, ⟨0, 0⟩, 0, 0, 0, 0, 0⟩ : Event).site.f, vI .i64 (⟨0, 0, ⟨0, 0⟩, 0, 0, 0, 0, 0⟩ : Event).site.pc, vI .u32 (⟨0, 0, ⟨0, 0⟩, 0, 0, 0, 0, 0⟩ : Event).addr, vI .i64 (⟨0, 0, ⟨0, 0⟩, 0, 0, 0, 0, 0⟩ : Event).child, vI .i64 (⟨0, 0, ⟨0, 0⟩, 0, 0, 0, 0, 0⟩ : Event).obj, vI .i64 (⟨0, 0, ⟨0, 0⟩, 0, 0, 0, 0, 0⟩ : Event).n, vI .i64 (⟨0, 0, ⟨0, 0⟩, 0, 0, 0, 0, 0⟩ : Event).trap]) (H' := [Cel b6 #[vI .i64 (⟨0, 0, ⟨0, 0⟩, 0, 0, 0, 0, 0⟩ : Event).g, vI .i64 (⟨0, 0, ⟨0, 0⟩, 0, 0, 0, 0, 0⟩ : Event).kind, vI .i64 (⟨0, 0, ⟨0, 0⟩, 0, 0, 0, 0, 0⟩ : Event).site.f, vI .i64 (⟨0, 0, ⟨0, 0⟩, 0, 0, 0, 0, 0⟩ : Event).site.pc, vI .u32 (⟨0, 0, ⟨0, 0⟩, 0, 0, 0, 0, 0⟩ : Event).addr, vI .i64 (⟨0, 0, ⟨0, 0⟩, 0, 0, 0, 0, 0⟩ : Event).child, vI .i64 (⟨0, 0, ⟨0, 0⟩, 0, 0, 0, 0, 0⟩ : Event).obj, vI .i64 (⟨0, 0, ⟨0, 0⟩, 0, 0, 0, 0, 0⟩ : Event).n, vI .i64 (⟨0, 0, ⟨0, 0⟩, 0, 0, 0, 0, 0⟩ : Event).trap] 51, Cel b3 #[vI .i64 j] 3, Cel b1 #[pA o 0] 96]) (by kernel_rfl) (by kernel_rfl) (by kernel_rfl) (by kernel_rfl) (by kernel_rfl) hW 0 (by rfl) (Nat.le_of_ble_eq_true (by kernel_rfl)) (by kernel_rfl) (by rfl) ?_); clear hA ac hW; intro w8 hW ac hA
 refine st_p (vB false) hA ?_; clear hA ac; intro ac hA
 refine wn <| wp_seq <| wr <| st_p (vB false) hA fun ac hA => st_p (vB true) hA fun ac hA => wn <| wp_cond_true (hA.eval (by kernel_rfl)) <| wr <| st_p (vS none 0 0) hA ?_; clear hA ac; intro ac hA
 refine wn <| wp_ret <| thenR <| r1 (vS none 0 0) hA ?_
 clear hA
 exact ⟨retv (by rfl), hW.fr⟩

set_option maxRecDepth 100000 in
theorem e_rWith_z (o : Nat) (j : Int) (w : World) (ho_o : w.heap[o]? = some (.cells #[vS none 0 0, vS none 0 0, vM none, vM none] 64 (0, 0))) : Calls Tryz.prog 25 #[pA o 0, vI .i64 j] w (fun e w' => e = .returned (vS none 0 0) ∧ Fr No w w') := by
 have _hu := ho_o; clear _hu
 refine enter_E 9 Tryz.func25 rfl rfl (by kernel_rfl) (L := [(0, pA o 0), (1, vI .i64 j)]) (by kernel_rfl) ?_
 intro ac hA
 have hW := Ws.start w No
 have hW := hW.celG ho_o
 refine wr <| st_p (vS none 0 0) hA ?_; clear hA ac; intro ac hA
 refine wn <| wr <| st_p (pA o 0) hA fun ac hA => st_p (vA #[pA o 0]) hA fun ac hA => st_p (vI .i64 j) hA fun ac hA => st_s hA (Runs.callN (v := vS none 0 0) (fun _ => by kernel_rfl) hW (e_rwith_z o (j) w (show _ = _ from (hW).getG 0 rfl)) ?_); clear hA ac hW; intro w1 hW hfw1 ac hA
 refine st_p (vS none 0 0) hA ?_; clear hA ac; intro ac hA
 refine wn <| wp_ret <| r1 (vS none 0 0) hA ?_
 clear hA
 exact ⟨retv (by rfl), hW.fr⟩

set_option maxRecDepth 100000 in
theorem e_rFirsts_z (o : Nat) (w : World) (ho_o : w.heap[o]? = some (.cells #[vS none 0 0, vS none 0 0, vM none, vM none] 64 (0, 0))) : Calls Tryz.prog 20 #[pA o 0] w (fun e w' => e = .returned (vS none 0 0) ∧ Fr No w w') := by
 have _hu := ho_o; clear _hu
 refine enter_E 32 Tryz.func20 rfl rfl (by kernel_rfl) (L := [(0, pA o 0)]) (by kernel_rfl) ?_
 intro ac hA
 have hW := Ws.start w No
 have hW := hW.celG ho_o
 refine wr <| st_p (vS none 0 0) hA ?_; clear hA ac; intro ac hA
 refine wn <| wr <| st_s hA (Runs.makeMap (fun a : Int => vI .u32 a) (fun a : Int => vI .i64 a) hW ?_); clear hA ac hW; intro b1 w2 hW hb1 hfw2 ac hA
 refine st_p (vM (some b1)) hA ?_; clear hA ac; intro ac hA
 refine wn <| wp_seq <| wr <| st_p (pA o 0) hA ?_; clear hA ac; intro ac hA
 refine st_s hA (Runs.callRow (E := 47) (sz := 7) (en := enRace) (l := ([] : List Race)) (fun _ => by kernel_rfl) hW (e_rall_z o w2 (show _ = _ from (hW).getG 0 rfl)) ?_); clear hA ac hW; intro A4 c5 w3 hW hcc5 hfw3 ac hA
 refine st_p (vI .i64 ((([] : List Race).length : Nat) : Int)) hA fun ac hA => st_p (vI .i64 0) hA fun ac hA => wn <| wp_block <| wp_loop_rounds 1 ?_
 rw [rounds_succ]
 refine wr <| st_p (vB (decide ((0 : Int) < (((([] : List Race).length : Nat) : Int) : Int)))) hA ?_; clear hA ac; intro ac hA
 refine wn <| wp_seq <| wp_cond_split (t := decide ((0 : Int) < (((([] : List Race).length : Nat) : Int) : Int))) (hA.eval (by kernel_rfl)) (fun h7 => ?_) (fun h7 => ?_)
 ·
  have h7 := of_decide_eq_true h7
  exfalso; clear hA hW; exact absurd h7 (by decide)
 have h7 := of_decide_eq_false h7
 refine wp_exit <| thenX <| thenX <| blkX <| thenN <| wr <| st_p (vS none 0 0) hA ?_; clear hA ac; intro ac hA
 refine st_s hA (Runs.callN (v := vT #[]) (fun _ => by kernel_rfl) hW (e_sort0 none 0 ([] : List Race) w3 (RowAt.nil' _ _) (by first | assumption | omega | (simp; omega) | simp) (by first | omega | rfl | (simp; done))) ?_); clear hA ac hW; intro w8 hW hfw8 ac hA
 refine wn <| wr <| st_p (vS none 0 0) hA fun ac hA => st_p (vS none 0 0) hA fun ac hA => wn <| wp_ret <| r1 (vS none 0 0) hA ?_
 clear hA
 exact ⟨retv (by rfl), hW.fr⟩

set_option maxRecDepth 100000 in
theorem e_rPairs_n  (w : World)  : Calls Tryz.prog 22 #[vP none] w (fun e w' => ∃ p : Nat, ∃ q : Nat, e = .returned (pA p 0) ∧ Made (PzR p q) w w') := by
 refine enter_E 27 Tryz.func22 rfl rfl (by kernel_rfl) (L := [(0, vP none)]) (by kernel_rfl) ?_
 intro ac hA
 have hW := Ws.start w No
 refine wr <| st_p (vP none) hA ?_; clear hA ac; intro ac hA
 refine wn <| wr <| st_p (vS none 0 0) hA ?_; clear hA ac; intro ac hA
 refine wn <| wp_seq <| wr <| st_p (vP none) hA ?_; clear hA ac; intro ac hA
 refine st_s hA (Runs.callRow (E := 47) (sz := 7) (en := enRace) (l := ([] : List Race)) (fun _ => by kernel_rfl) hW (e_rall_n w) ?_); clear hA ac hW; intro A2 c3 w1 hW hcc3 hfw1 ac hA
 refine st_p (vI .i64 ((([] : List Race).length : Nat) : Int)) hA fun ac hA => st_p (vI .i64 0) hA fun ac hA => wn <| wp_block <| wp_loop_rounds 1 ?_
 rw [rounds_succ]
 refine wr <| st_p (vB (decide ((0 : Int) < (((([] : List Race).length : Nat) : Int) : Int)))) hA ?_; clear hA ac; intro ac hA
 refine wn <| wp_seq <| wp_cond_split (t := decide ((0 : Int) < (((([] : List Race).length : Nat) : Int) : Int))) (hA.eval (by kernel_rfl)) (fun h5 => ?_) (fun h5 => ?_)
 ·
  have h5 := of_decide_eq_true h5
  exfalso; clear hA hW; exact absurd h5 (by decide)
 have h5 := of_decide_eq_false h5
 refine wp_exit <| thenX <| thenX <| blkX <| thenN <| wr <| st_p (vS none 0 0) hA ?_; clear hA ac; intro ac hA
 refine st_s hA (Runs.call (fun _ => by kernel_rfl) (e_snew0 w1) ?_)
 rintro _ w6 ⟨n7, n8, rfl, hu_⟩; refine ⟨_, rfl, ?_⟩; replace hW := hW.made hu_; clear hA ac; intro ac hA
 refine st_p (vT #[pA n7 0, vI .i64 0]) hA fun ac hA => st_p (pA n7 0) hA fun ac hA => st_p (vI .i64 0) hA fun ac hA => st_p (pA n7 0) hA fun ac hA => st_p (vI .i64 0) hA fun ac hA => wn <| wr <| st_p (pA n7 0) hA fun ac hA => st_p (pA n7 0) hA fun ac hA => wn <| wp_ret <| r1 (pA n7 0) hA ?_
 clear hA
 exact ⟨n7, n8, rfl, hW.madeDone 0 rfl⟩

set_option maxRecDepth 100000 in
theorem e_rPairs_z (o : Nat) (w : World) (ho_o : w.heap[o]? = some (.cells #[vS none 0 0, vS none 0 0, vM none, vM none] 64 (0, 0))) : Calls Tryz.prog 22 #[pA o 0] w (fun e w' => ∃ p : Nat, ∃ q : Nat, e = .returned (pA p 0) ∧ Made (PzR p q) w w') := by
 have _hu := ho_o; clear _hu
 refine enter_E 27 Tryz.func22 rfl rfl (by kernel_rfl) (L := [(0, pA o 0)]) (by kernel_rfl) ?_
 intro ac hA
 have hW := Ws.start w No
 have hW := hW.celG ho_o
 refine wr <| st_p (vP none) hA ?_; clear hA ac; intro ac hA
 refine wn <| wr <| st_p (vS none 0 0) hA ?_; clear hA ac; intro ac hA
 refine wn <| wp_seq <| wr <| st_p (pA o 0) hA ?_; clear hA ac; intro ac hA
 refine st_s hA (Runs.callRow (E := 47) (sz := 7) (en := enRace) (l := ([] : List Race)) (fun _ => by kernel_rfl) hW (e_rall_z o w (show _ = _ from (hW).getG 0 rfl)) ?_); clear hA ac hW; intro A2 c3 w1 hW hcc3 hfw1 ac hA
 refine st_p (vI .i64 ((([] : List Race).length : Nat) : Int)) hA fun ac hA => st_p (vI .i64 0) hA fun ac hA => wn <| wp_block <| wp_loop_rounds 1 ?_
 rw [rounds_succ]
 refine wr <| st_p (vB (decide ((0 : Int) < (((([] : List Race).length : Nat) : Int) : Int)))) hA ?_; clear hA ac; intro ac hA
 refine wn <| wp_seq <| wp_cond_split (t := decide ((0 : Int) < (((([] : List Race).length : Nat) : Int) : Int))) (hA.eval (by kernel_rfl)) (fun h5 => ?_) (fun h5 => ?_)
 ·
  have h5 := of_decide_eq_true h5
  exfalso; clear hA hW; exact absurd h5 (by decide)
 have h5 := of_decide_eq_false h5
 refine wp_exit <| thenX <| thenX <| blkX <| thenN <| wr <| st_p (vS none 0 0) hA ?_; clear hA ac; intro ac hA
 refine st_s hA (Runs.call (fun _ => by kernel_rfl) (e_snew0 w1) ?_)
 rintro _ w6 ⟨n7, n8, rfl, hu_⟩; refine ⟨_, rfl, ?_⟩; replace hW := hW.made hu_; clear hA ac; intro ac hA
 refine st_p (vT #[pA n7 0, vI .i64 0]) hA fun ac hA => st_p (pA n7 0) hA fun ac hA => st_p (vI .i64 0) hA fun ac hA => st_p (pA n7 0) hA fun ac hA => st_p (vI .i64 0) hA fun ac hA => wn <| wr <| st_p (pA n7 0) hA fun ac hA => st_p (pA n7 0) hA fun ac hA => wn <| wp_ret <| r1 (pA n7 0) hA ?_
 clear hA
 exact ⟨n7, n8, rfl, hW.madeDone 0 rfl⟩

end Go.Proofs.YtfkbjfbbigbacaaGreatDoor.L
