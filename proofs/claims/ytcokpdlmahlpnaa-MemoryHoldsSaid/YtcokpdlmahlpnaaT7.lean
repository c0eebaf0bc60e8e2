/- Contracts, walked by program over the engine's laws. -/
import Derived.Test.YtcokpdlmahlpnaaProg
import Derived.Test.YtcokpdlmahlpnaaT6
namespace Go.Proofs.Ytcokpdlmahlpnaa.L
open Go.RowKit

/-- Two memories' maps say the same. -/
def vEq1 (B : List (Int × (Nat → Int))) (x : Int × (Nat → Int)) : Bool := match look B x.1 with
  | some c => pgEq 4096 x.2 c
  | none => false
def vEq (A B : List (Int × (Nat → Int))) : Bool := decide (A.length = B.length) && A.all (vEq1 B)
theorem vEq_len {V W : VT6} (h : V.length ≠ W.length) : vEq (vals V) (vals W) = false := by unfold vEq; rw [vals_len, vals_len, decide_eq_false h]; rfl
theorem vEq_no {V W : VT6} {e : Int × Nat × (Nat → Int)} (he : e ∈ V) (h : vEq1 (vals W) (e.1, e.2.2) = false) : vEq (vals V) (vals W) = false := by
  unfold vEq
  rw [Bool.and_eq_false_iff]
  exact .inr (List.all_eq_false.2 ⟨(e.1, e.2.2), List.mem_map.2 ⟨e, he, rfl⟩, by rw [h]; simp⟩)
theorem vEq_yes {V W : VT6} (hl : V.length = W.length) (h : ∀ e ∈ V, vEq1 (vals W) (e.1, e.2.2) = true) : vEq (vals V) (vals W) = true := by
  unfold vEq
  rw [vals_len, vals_len, decide_eq_true hl, Bool.true_and, List.all_eq_true]
  intro x hx
  obtain ⟨e, he, rfl⟩ := List.mem_map.1 hx
  exact h e he
set_option maxRecDepth 100000 in
theorem e_msame1 (p : Nat) (f : Nat → Int) (q : Nat) (g : Nat → Int) (w : World) (ho_p : w.heap[p]? = some (.cells (pgA .u32 4096 f) 64 (0, 0))) (ho_q : w.heap[q]? = some (.cells (pgA .u32 4096 g) 64 (0, 0))) : Calls Try.prog 30 #[Value.pointer (some ⟨p, 0, none⟩), Value.pointer (some ⟨q, 0, none⟩)] w (fun e w' => e = .returned (Value.bool (pgEq 4096 f g)) ∧ Fr No w w') := by
 have _hu := ho_p; clear _hu
 have _hu := ho_q; clear _hu
 refine enter_E 12 Try.func30 rfl rfl (by kernel_rfl) (L := [(0, Value.pointer (some ⟨p, 0, none⟩)), (1, Value.pointer (some ⟨q, 0, none⟩))]) (by kernel_rfl) ?_
 intro ac hA
 have hW := Ws.start w No
 have hW := hW.celG ho_p
 have hW := hW.celG ho_q
 refine wp_seq ?_
 refine wp_region_lit ?_
 refine st_rd (v := Value.bool false) hA (by kernel_rfl) (by kernel_rfl) (by kernel_rfl) hW.cls (Rd.pure fun _ => by kernel_rfl) ?_; clear hA ac; intro ac hA
 refine wpList_nil ?_
 refine thenN ?_
 refine wp_seq ?_
 refine q_region (by kernel_rfl) (by kernel_rfl) hW ?_
 refine sq_rd (v := Value.pointer (some ⟨p, 0, none⟩)) hA (by kernel_rfl) (by kernel_rfl) (by kernel_rfl) (Rd.pure fun _ => by kernel_rfl) ?_; clear hA ac; intro ac hA
 refine sq_rd (v := Value.pointer (some ⟨p, 0, none⟩)) hA (by kernel_rfl) (by kernel_rfl) (by kernel_rfl) (Rd.pure fun _ => by kernel_rfl) ?_; clear hA ac; intro ac hA
 refine sq_rd (v := Value.agg (pgA .u32 4096 f)) hA (by kernel_rfl) (by kernel_rfl) (by kernel_rfl) (Rd.load (b := p) (i := 0) (by kernel_rfl) (fun _ hw => show _ = _ from (hw.1).getG 1 rfl) (ldv_page (e := 28) (by kernel_rfl) (by kernel_rfl))) ?_; clear hA ac; intro ac hA
 refine sq_rd (v := Value.pointer (some ⟨q, 0, none⟩)) hA (by kernel_rfl) (by kernel_rfl) (by kernel_rfl) (Rd.pure fun _ => by kernel_rfl) ?_; clear hA ac; intro ac hA
 refine sq_rd (v := Value.pointer (some ⟨q, 0, none⟩)) hA (by kernel_rfl) (by kernel_rfl) (by kernel_rfl) (Rd.pure fun _ => by kernel_rfl) ?_; clear hA ac; intro ac hA
 refine sq_rd (v := Value.agg (pgA .u32 4096 g)) hA (by kernel_rfl) (by kernel_rfl) (by kernel_rfl) (Rd.load (b := q) (i := 0) (by kernel_rfl) (fun _ hw => show _ = _ from (hw.1).getG 0 rfl) (ldv_page (e := 28) (by kernel_rfl) (by kernel_rfl))) ?_; clear hA ac; intro ac hA
 refine sq_rd (v := Value.bool (pgEq 4096 f g)) hA (by kernel_rfl) (by kernel_rfl) (by kernel_rfl) (Rd.eqS (u := Value.agg (pgA .u32 4096 f)) (v := Value.agg (pgA .u32 4096 g)) (by kernel_rfl) (by kernel_rfl) rfl rfl (by kernel_rfl) (fun w => run_page_eq 9998 (e := 28) (by kernel_rfl) (by kernel_rfl) (fun _ => by kernel_rfl) w)) ?_; clear hA ac; intro ac hA
 refine sq_rd (v := Value.bool (pgEq 4096 f g)) hA (by kernel_rfl) (by kernel_rfl) (by kernel_rfl) (Rd.pure fun _ => by kernel_rfl) ?_; clear hA ac; intro ac hA
 refine sq_nil ?_; intro w1 hww1; have hW := hww1.1; have hfw1 := hww1.2; clear hww1
 refine thenN ?_
 refine wp_ret ?_
 refine ret1 (v := Value.bool (pgEq 4096 f g)) (by rfl) hA (Got.tmp hA (by kernel_rfl) (by kernel_rfl)) ?_
 clear hA
 exact ⟨retv (by rfl), hW.fr⟩

set_option maxRecDepth 100000 in
theorem e_equalFunc (b : Nat) (V : VT6) (b2 : Nat) (W : VT6) (w : World) (ho_x : (mapR b (fun a : Int => Value.int .u32 a) (fun x_ : Nat => Value.pointer (some ⟨x_, 0, none⟩)) (outs V)).p w) (hs_x : (SubR (fun (c_ : Nat → Int) (b_ : Nat) => PgR .u32 4096 64 c_ b_) V).p w) (hl_x : ∀ x_ ∈ (SubR (fun (c_ : Nat → Int) (b_ : Nat) => PgR .u32 4096 64 c_ b_) V).fp, x_ < w.heap.size) (ho_y : (mapR b2 (fun a : Int => Value.int .u32 a) (fun x_ : Nat => Value.pointer (some ⟨x_, 0, none⟩)) (outs W)).p w) (hs_y : (SubR (fun (c_ : Nat → Int) (b_ : Nat) => PgR .u32 4096 64 c_ b_) W).p w) (hl_y : ∀ x_ ∈ (SubR (fun (c_ : Nat → Int) (b_ : Nat) => PgR .u32 4096 64 c_ b_) W).fp, x_ < w.heap.size) (hl : V.length ≤ 100000 ∧ W.length ≤ 100000) : Calls Try.prog 29 #[Value.map (some b), Value.map (some b2), Value.func (.func 30) #[] #[]] w (fun e w' => e = .returned (Value.bool (vEq (vals V) (vals W))) ∧ Fr No w w') := by
 have _hu := ho_x; clear _hu
 have _hu := ho_y; clear _hu
 have _hu := hl; clear _hu
 refine enter_E 38 Try.func29 rfl rfl (by kernel_rfl) (L := [(0, Value.map (some b)), (1, Value.map (some b2)), (2, Value.func (.func 30) #[] #[])]) (by kernel_rfl) ?_
 intro ac hA
 have hW := Ws.start w No
 have hW := hW.mapG ho_x
 have hW := hW.addG (SubR (fun (c_ : Nat → Int) (b_ : Nat) => PgR .u32 4096 64 c_ b_) V) hs_x hl_x (by simp)
 have hW := hW.mapG ho_y
 have hW := hW.addG (SubR (fun (c_ : Nat → Int) (b_ : Nat) => PgR .u32 4096 64 c_ b_) W) hs_y hl_y (by simp)
 refine wp_seq ?_
 refine wp_region_lit ?_
 refine st_rd (v := Value.bool false) hA (by kernel_rfl) (by kernel_rfl) (by kernel_rfl) hW.cls (Rd.pure fun _ => by kernel_rfl) ?_; clear hA ac; intro ac hA
 refine wpList_nil ?_
 refine thenN ?_
 refine wp_seq ?_
 refine wp_seq ?_
 have hoV := outs_len (V := V); have hoW := outs_len (V := W)
 refine wp_region_lit ?_
 refine st_rd (v := Value.map (some b)) hA (by kernel_rfl) (by kernel_rfl) (by kernel_rfl) hW.cls (Rd.pure fun _ => by kernel_rfl) ?_; clear hA ac; intro ac hA
 refine st_rd (v := Value.int .i64 (((outs V).length : Nat) : Int)) hA (by kernel_rfl) (by kernel_rfl) (by kernel_rfl) hW.cls (Rd.mapLen (k := 28) (e := 62) (ek := (fun a : Int => Value.int .u32 a)) (ev := (fun x_ : Nat => Value.pointer (some ⟨x_, 0, none⟩))) (m := (outs V)) (by kernel_rfl) (by kernel_rfl) (fun _ hw => (hw.1).getG 3 rfl)) ?_; clear hA ac; intro ac hA
 refine st_rd (v := Value.map (some b2)) hA (by kernel_rfl) (by kernel_rfl) (by kernel_rfl) hW.cls (Rd.pure fun _ => by kernel_rfl) ?_; clear hA ac; intro ac hA
 refine st_rd (v := Value.int .i64 (((outs W).length : Nat) : Int)) hA (by kernel_rfl) (by kernel_rfl) (by kernel_rfl) hW.cls (Rd.mapLen (k := 28) (e := 62) (ek := (fun a : Int => Value.int .u32 a)) (ev := (fun x_ : Nat => Value.pointer (some ⟨x_, 0, none⟩))) (m := (outs W)) (by kernel_rfl) (by kernel_rfl) (fun _ hw => (hw.1).getG 1 rfl)) ?_; clear hA ac; intro ac hA
 refine st_rd (v := Value.bool (((((outs V).length : Nat) : Int) : Int) != ((((outs W).length : Nat) : Int) : Int))) hA (by kernel_rfl) (by kernel_rfl) (by kernel_rfl) hW.cls (Rd.pure fun _ => by kernel_rfl) ?_; clear hA ac; intro ac hA
 refine wpList_nil ?_
 refine thenN ?_
 refine wp_cond_split (t := ((((outs V).length : Nat) : Int) : Int) != ((((outs W).length : Nat) : Int) : Int)) (hA.eval (by kernel_rfl)) (fun h1 => ?_) (fun h1 => ?_)
 · skip
   have h1 := bne_iff_ne.1 h1
   first
   | (exfalso; clear hA hW; omega)
   | (
     refine wp_seq ?_
     refine wp_region_lit ?_
     refine st_rd (v := Value.bool false) hA (by kernel_rfl) (by kernel_rfl) (by kernel_rfl) hW.cls (Rd.pure fun _ => by kernel_rfl) ?_; clear hA ac; intro ac hA
     refine wpList_nil ?_
     refine thenN ?_
     refine wp_ret ?_
     refine thenR ?_
     refine ret1 (v := Value.bool false) (by rfl) hA (Got.tmp hA (by kernel_rfl) (by kernel_rfl)) ?_
     clear hA
     exact ⟨retv (congrArg Value.bool (vEq_len (by omega)).symm), hW.fr⟩)
 · skip
   have h1 := of_bne_f h1
   first
   | (exfalso; clear hA hW; omega)
   | (
     refine wp_skip ?_
     refine thenN ?_
     refine wp_seq ?_
     refine wp_seq ?_
     refine wp_region_lit ?_
     refine st_rd (v := Value.map (some b)) hA (by kernel_rfl) (by kernel_rfl) (by kernel_rfl) hW.cls (Rd.pure fun _ => by kernel_rfl) ?_; clear hA ac; intro ac hA
     refine st hA (by kernel_rfl) (by kernel_rfl) (by kernel_rfl) (Runs.range (k := 28) (e := 62) (ek := (fun a : Int => Value.int .u32 a)) (ev := (fun x_ : Nat => Value.pointer (some ⟨x_, 0, none⟩))) (m := (outs V)) (by kernel_rfl) (by kernel_rfl) hW 3 rfl ?_); clear hA ac hW; intro r2 es3 ck4 w5 hnr2 hW hfw5 ac hA
     refine wpList_nil ?_
     refine thenN ?_
     refine wp_block ?_
     refine wp_loop_m (fun m_ ac_ wl_ => ∃ Vl : VT6, ∃ cur : Option (Int × Nat), m_ = Vl.length ∧ (∀ e ∈ Vl, e ∈ V) ∧ (∀ e ∈ V, e ∈ Vl ∨ vEq1 (vals W) (e.1, e.2.2) = true) ∧ Fm 38 [] [(0, Value.map (some b)), (1, Value.map (some b2)), (2, Value.func (.func 30) #[] #[]), (17, Value.pointer (some ⟨r2, 0, none⟩))] ac_ ∧ Ws w No [IterX r2 b es3 ck4 (fun a : Int => Value.int .u32 a) (fun x_ : Nat => Value.pointer (some ⟨x_, 0, none⟩)) (outs Vl) cur] [MapX b es3 ck4, SubR (fun (c_ : Nat → Int) (b_ : Nat) => PgR .u32 4096 64 c_ b_) W, mapR b2 (fun a : Int => Value.int .u32 a) (fun x_ : Nat => Value.pointer (some ⟨x_, 0, none⟩)) (outs W), SubR (fun (c_ : Nat → Int) (b_ : Nat) => PgR .u32 4096 64 c_ b_) V, mapR b (fun a : Int => Value.int .u32 a) (fun x_ : Nat => Value.pointer (some ⟨x_, 0, none⟩)) (outs V)] wl_) _ ⟨V, none, rfl, by exact fun _ hx => hx, by exact fun _ hx => .inl hx, hA.sub ⟨⟨by kernel_rfl, by kernel_rfl⟩, ⟨by kernel_rfl, by kernel_rfl⟩, ⟨by kernel_rfl, by kernel_rfl⟩, ⟨by kernel_rfl, by kernel_rfl⟩, trivial⟩, (hW.pick [0] (by decide) rfl).pickG [0, 1, 2, 3, 4] rfl⟩ ?_
     clear hA ac hW; rintro m_ ac w6 ⟨Vl, cur, rfl, hsub, hdn, hA, hW⟩
     refine wp_seq ?_
     refine wp_region_lit ?_
     refine st hA (by kernel_rfl) (by kernel_rfl) (by kernel_rfl) ((Runs.next (ek := (fun a : Int => Value.int .u32 a)) (ev := (fun x_ : Nat => Value.pointer (some ⟨x_, 0, none⟩))) (r := r2) (b := b) (es := es3) (clock := ck4) (left := (outs Vl)) (cur := cur) (by kernel_rfl) hnr2 hW 0 0 rfl rfl ?_ ?_))
     · skip
       intro hdoner2 ac hA
       refine st_rd (v := Value.bool false) hA (by kernel_rfl) (by kernel_rfl) (by kernel_rfl) hW.cls (Rd.pure fun _ => by kernel_rfl) ?_; clear hA ac; intro ac hA
       refine wpList_nil ?_
       refine thenN ?_
       refine wp_seq ?_
       refine wp_cond_false (hA.eval (by kernel_rfl)) ?_
       refine wp_exit ?_
       refine thenX ?_
       refine thenX ?_
       refine blkX ?_
       refine thenN ?_
       refine wp_seq ?_
       refine wp_region_lit ?_
       refine st_rd (v := Value.bool true) hA (by kernel_rfl) (by kernel_rfl) (by kernel_rfl) hW.cls (Rd.pure fun _ => by kernel_rfl) ?_; clear hA ac; intro ac hA
       refine wpList_nil ?_
       refine thenN ?_
       refine wp_ret ?_
       refine ret1 (v := Value.bool true) (by rfl) hA (Got.tmp hA (by kernel_rfl) (by kernel_rfl)) ?_
       clear hA
       refine ⟨retv (congrArg Value.bool (vEq_yes (by omega) ?_).symm), hW.fr⟩; have hVl := outs_nil hdoner2; subst hVl; exact fun e he => (hdn e he).resolve_left (by simp)
     · skip
       clear hA ac; intro k7 y8 w9 hkk7 hW ac hA
       refine st_rd (v := Value.bool true) hA (by kernel_rfl) (by kernel_rfl) (by kernel_rfl) hW.cls (Rd.pure fun _ => by kernel_rfl) ?_; clear hA ac; intro ac hA
       refine wpList_nil ?_
       refine thenN ?_
       refine wp_seq ?_
       refine wp_cond_true (hA.eval (by kernel_rfl)) ?_
       refine wp_skip ?_
       refine thenN ?_
       refine wp_block ?_
       refine wp_seq ?_
       refine wp_region_lit ?_
       refine st_rd (v := Value.tuple #[Value.int .u32 y8.1, Value.pointer (some ⟨y8.2, 0, none⟩)]) hA (by kernel_rfl) (by kernel_rfl) (by kernel_rfl) hW.cls (Rd.entry (ek := (fun a : Int => Value.int .u32 a)) (ev := (fun x_ : Nat => Value.pointer (some ⟨x_, 0, none⟩))) (r := r2) (b := b) (es := es3) (clock := ck4) (left := (List.eraseIdx (outs Vl) k7)) (y := y8) (by kernel_rfl) hnr2 (fun _ hw => show _ = _ from (hw.1).getG 0 rfl) (fun _ hw => (hw.1).get 0 rfl)) ?_; clear hA ac; intro ac hA
       refine st_rd (v := Value.int .u32 y8.1) hA (by kernel_rfl) (by kernel_rfl) (by kernel_rfl) hW.cls (Rd.pure fun _ => by kernel_rfl) ?_; clear hA ac; intro ac hA
       refine st_rd (v := Value.pointer (some ⟨y8.2, 0, none⟩)) hA (by kernel_rfl) (by kernel_rfl) (by kernel_rfl) hW.cls (Rd.pure fun _ => by kernel_rfl) ?_; clear hA ac; intro ac hA
       refine st_rd (v := Value.int .u32 y8.1) hA (by kernel_rfl) (by kernel_rfl) (by kernel_rfl) hW.cls (Rd.pure fun _ => by kernel_rfl) ?_; clear hA ac; intro ac hA
       refine st_rd (v := Value.pointer (some ⟨y8.2, 0, none⟩)) hA (by kernel_rfl) (by kernel_rfl) (by kernel_rfl) hW.cls (Rd.pure fun _ => by kernel_rfl) ?_; clear hA ac; intro ac hA
       refine wpList_nil ?_
       refine thenN ?_
       refine wp_seq ?_
       obtain ⟨c10, hcc10⟩ := outs_get hkk7
       obtain ⟨iv_c10, hvc10⟩ := List.getElem?_of_mem (hsub _ (List.mem_of_getElem? hcc10))
       have hW := hW.subG 3 rfl hvc10
       replace hW : Ws w No [IterX r2 b es3 ck4 (fun a : Int => Value.int .u32 a) (fun x_ : Nat => Value.pointer (some ⟨x_, 0, none⟩)) (List.eraseIdx (outs Vl) k7) (some y8)] [PgR .u32 4096 64 c10 y8.2, MapX b es3 ck4, SubR (fun (c_ : Nat → Int) (b_ : Nat) => PgR .u32 4096 64 c_ b_) W, mapR b2 (fun a : Int => Value.int .u32 a) (fun x_ : Nat => Value.pointer (some ⟨x_, 0, none⟩)) (outs W), SubR (fun (c_ : Nat → Int) (b_ : Nat) => PgR .u32 4096 64 c_ b_) V, mapR b (fun a : Int => Value.int .u32 a) (fun x_ : Nat => Value.pointer (some ⟨x_, 0, none⟩)) (outs V)] w9 := hW
       refine wp_region_lit ?_
       refine st_rd (v := Value.map (some b2)) hA (by kernel_rfl) (by kernel_rfl) (by kernel_rfl) hW.cls (Rd.pure fun _ => by kernel_rfl) ?_; clear hA ac; intro ac hA
       refine st_rd (v := Value.int .u32 y8.1) hA (by kernel_rfl) (by kernel_rfl) (by kernel_rfl) hW.cls (Rd.pure fun _ => by kernel_rfl) ?_; clear hA ac; intro ac hA
       rcases hk11 : look (outs W) (y8.1 : Int) with _ | bk12
       · skip
         first
         | (exfalso; clear hA hW; omega)
         | (
           refine st_rd (v := Value.tuple #[Value.pointer none, Value.bool false]) hA (by kernel_rfl) (by kernel_rfl) (by kernel_rfl) hW.cls ((Rd.lookup (k := 28) (e := 62) (ek := (fun a : Int => Value.int .u32 a)) (ev := (fun x_ : Nat => Value.pointer (some ⟨x_, 0, none⟩))) (m := (outs W)) (z := Value.pointer none) (y8.1 : Int) true (by kernel_rfl) (by kernel_rfl) (KeyE.int (by kernel_rfl)) (by kernel_rfl) (fun _ => by kernel_rfl) (fun _ hw => (hw.1).getG 3 rfl)).cast (by rw [hk11]; rfl)) ?_; clear hA ac; intro ac hA
           refine st_rd (v := Value.tuple #[Value.pointer none, Value.bool false]) hA (by kernel_rfl) (by kernel_rfl) (by kernel_rfl) hW.cls (Rd.pure fun _ => by kernel_rfl) ?_; clear hA ac; intro ac hA
           refine st_rd (v := Value.pointer none) hA (by kernel_rfl) (by kernel_rfl) (by kernel_rfl) hW.cls (Rd.pure fun _ => by kernel_rfl) ?_; clear hA ac; intro ac hA
           refine st_rd (v := Value.bool false) hA (by kernel_rfl) (by kernel_rfl) (by kernel_rfl) hW.cls (Rd.pure fun _ => by kernel_rfl) ?_; clear hA ac; intro ac hA
           refine st_rd (v := Value.pointer none) hA (by kernel_rfl) (by kernel_rfl) (by kernel_rfl) hW.cls (Rd.pure fun _ => by kernel_rfl) ?_; clear hA ac; intro ac hA
           refine st_rd (v := Value.bool false) hA (by kernel_rfl) (by kernel_rfl) (by kernel_rfl) hW.cls (Rd.pure fun _ => by kernel_rfl) ?_; clear hA ac; intro ac hA
           refine wpList_nil ?_
           refine thenN ?_
           refine wp_seq ?_
           refine wp_region_lit ?_
           refine st_rd (v := Value.bool false) hA (by kernel_rfl) (by kernel_rfl) (by kernel_rfl) hW.cls (Rd.pure fun _ => by kernel_rfl) ?_; clear hA ac; intro ac hA
           refine st_rd (v := Value.bool true) hA (by kernel_rfl) (by kernel_rfl) (by kernel_rfl) hW.cls (Rd.pure fun _ => by kernel_rfl) ?_; clear hA ac; intro ac hA
           refine st_rd (v := Value.bool true) hA (by kernel_rfl) (by kernel_rfl) (by kernel_rfl) hW.cls (Rd.pure fun _ => by kernel_rfl) ?_; clear hA ac; intro ac hA
           refine st_skip hA (by kernel_rfl) (by kernel_rfl) ?_; clear hA ac; intro ac hA
           refine st_skip hA (by kernel_rfl) (by kernel_rfl) ?_; clear hA ac; intro ac hA
           refine st_skip hA (by kernel_rfl) (by kernel_rfl) ?_; clear hA ac; intro ac hA
           refine st_skip hA (by kernel_rfl) (by kernel_rfl) ?_; clear hA ac; intro ac hA
           refine st_skip hA (by kernel_rfl) (by kernel_rfl) ?_; clear hA ac; intro ac hA
           refine st_rd (v := Value.bool true) hA (by kernel_rfl) (by kernel_rfl) (by kernel_rfl) hW.cls (Rd.pure fun _ => by kernel_rfl) ?_; clear hA ac; intro ac hA
           refine wpList_nil ?_
           refine thenN ?_
           refine wp_cond_true (hA.eval (by kernel_rfl)) ?_
           refine wp_seq ?_
           refine wp_region_lit ?_
           refine st_rd (v := Value.bool false) hA (by kernel_rfl) (by kernel_rfl) (by kernel_rfl) hW.cls (Rd.pure fun _ => by kernel_rfl) ?_; clear hA ac; intro ac hA
           refine wpList_nil ?_
           refine thenN ?_
           refine wp_ret ?_
           refine blkR ?_
           refine thenR ?_
           refine blkR ?_
           refine thenR ?_
           refine ret1 (v := Value.bool false) (by rfl) hA (Got.tmp hA (by kernel_rfl) (by kernel_rfl)) ?_
           clear hA
           exact ⟨retv (congrArg Value.bool (vEq_no (hsub _ (List.mem_of_getElem? hcc10)) (by unfold vEq1; rw [outs_none.1 hk11])).symm), hW.fr⟩)
       · skip
         first
         | (exfalso; clear hA hW; omega)
         | (
           obtain ⟨i13, c14, hi15, hv16⟩ := outs_at hk11
           have hW := hW.subG 2 rfl hi15
           replace hW : Ws w No [IterX r2 b es3 ck4 (fun a : Int => Value.int .u32 a) (fun x_ : Nat => Value.pointer (some ⟨x_, 0, none⟩)) (List.eraseIdx (outs Vl) k7) (some y8)] [PgR .u32 4096 64 c14 bk12, PgR .u32 4096 64 c10 y8.2, MapX b es3 ck4, SubR (fun (c_ : Nat → Int) (b_ : Nat) => PgR .u32 4096 64 c_ b_) W, mapR b2 (fun a : Int => Value.int .u32 a) (fun x_ : Nat => Value.pointer (some ⟨x_, 0, none⟩)) (outs W), SubR (fun (c_ : Nat → Int) (b_ : Nat) => PgR .u32 4096 64 c_ b_) V, mapR b (fun a : Int => Value.int .u32 a) (fun x_ : Nat => Value.pointer (some ⟨x_, 0, none⟩)) (outs V)] w9 := hW
           refine st_rd (v := Value.tuple #[Value.pointer (some ⟨bk12, 0, none⟩), Value.bool true]) hA (by kernel_rfl) (by kernel_rfl) (by kernel_rfl) hW.cls ((Rd.lookup (k := 28) (e := 62) (ek := (fun a : Int => Value.int .u32 a)) (ev := (fun x_ : Nat => Value.pointer (some ⟨x_, 0, none⟩))) (m := (outs W)) (z := Value.pointer none) (y8.1 : Int) true (by kernel_rfl) (by kernel_rfl) (KeyE.int (by kernel_rfl)) (by kernel_rfl) (fun _ => by kernel_rfl) (fun _ hw => (hw.1).getG 4 rfl)).cast (by rw [hk11]; rfl)) ?_; clear hA ac; intro ac hA
           refine st_rd (v := Value.tuple #[Value.pointer (some ⟨bk12, 0, none⟩), Value.bool true]) hA (by kernel_rfl) (by kernel_rfl) (by kernel_rfl) hW.cls (Rd.pure fun _ => by kernel_rfl) ?_; clear hA ac; intro ac hA
           refine st_rd (v := Value.pointer (some ⟨bk12, 0, none⟩)) hA (by kernel_rfl) (by kernel_rfl) (by kernel_rfl) hW.cls (Rd.pure fun _ => by kernel_rfl) ?_; clear hA ac; intro ac hA
           refine st_rd (v := Value.bool true) hA (by kernel_rfl) (by kernel_rfl) (by kernel_rfl) hW.cls (Rd.pure fun _ => by kernel_rfl) ?_; clear hA ac; intro ac hA
           refine st_rd (v := Value.pointer (some ⟨bk12, 0, none⟩)) hA (by kernel_rfl) (by kernel_rfl) (by kernel_rfl) hW.cls (Rd.pure fun _ => by kernel_rfl) ?_; clear hA ac; intro ac hA
           refine st_rd (v := Value.bool true) hA (by kernel_rfl) (by kernel_rfl) (by kernel_rfl) hW.cls (Rd.pure fun _ => by kernel_rfl) ?_; clear hA ac; intro ac hA
           refine wpList_nil ?_
           refine thenN ?_
           refine wp_seq ?_
           refine wp_region_lit ?_
           refine st_rd (v := Value.bool true) hA (by kernel_rfl) (by kernel_rfl) (by kernel_rfl) hW.cls (Rd.pure fun _ => by kernel_rfl) ?_; clear hA ac; intro ac hA
           refine st_rd (v := Value.bool false) hA (by kernel_rfl) (by kernel_rfl) (by kernel_rfl) hW.cls (Rd.pure fun _ => by kernel_rfl) ?_; clear hA ac; intro ac hA
           refine st_rd (v := Value.bool false) hA (by kernel_rfl) (by kernel_rfl) (by kernel_rfl) hW.cls (Rd.pure fun _ => by kernel_rfl) ?_; clear hA ac; intro ac hA
           refine st_rd (v := Value.func (.func 30) #[] #[]) hA (by kernel_rfl) (by kernel_rfl) (by kernel_rfl) hW.cls (Rd.pure fun _ => by kernel_rfl) ?_; clear hA ac; intro ac hA
           refine st_rd (v := Value.pointer (some ⟨y8.2, 0, none⟩)) hA (by kernel_rfl) (by kernel_rfl) (by kernel_rfl) hW.cls (Rd.pure fun _ => by kernel_rfl) ?_; clear hA ac; intro ac hA
           refine st_rd (v := Value.pointer (some ⟨bk12, 0, none⟩)) hA (by kernel_rfl) (by kernel_rfl) (by kernel_rfl) hW.cls (Rd.pure fun _ => by kernel_rfl) ?_; clear hA ac; intro ac hA
           refine st hA (by kernel_rfl) (by kernel_rfl) (by kernel_rfl) (Runs.callN (v := Value.bool (pgEq 4096 c10 c14)) (fun _ => by kernel_rfl) hW (e_msame1 y8.2 c10 bk12 c14 w9 (show _ = _ from (hW).getG 1 rfl) (show _ = _ from (hW).getG 0 rfl)) ?_); clear hA ac hW; intro w17 hW hfw17 ac hA
           refine st_rd (v := Value.bool (!(pgEq 4096 c10 c14))) hA (by kernel_rfl) (by kernel_rfl) (by kernel_rfl) hW.cls (Rd.pure fun _ => by kernel_rfl) ?_; clear hA ac; intro ac hA
           refine st_rd (v := Value.bool (!(pgEq 4096 c10 c14))) hA (by kernel_rfl) (by kernel_rfl) (by kernel_rfl) hW.cls (Rd.pure fun _ => by kernel_rfl) ?_; clear hA ac; intro ac hA
           refine wpList_nil ?_
           refine thenN ?_
           refine wp_cond_split (t := !(pgEq 4096 c10 c14)) (hA.eval (by kernel_rfl)) (fun h18 => ?_) (fun h18 => ?_)
           · skip
             have h18 := not_t h18
             first
             | (exfalso; clear hA hW; omega)
             | (
               refine wp_seq ?_
               refine wp_region_lit ?_
               refine st_rd (v := Value.bool false) hA (by kernel_rfl) (by kernel_rfl) (by kernel_rfl) hW.cls (Rd.pure fun _ => by kernel_rfl) ?_; clear hA ac; intro ac hA
               refine wpList_nil ?_
               refine thenN ?_
               refine wp_ret ?_
               refine blkR ?_
               refine thenR ?_
               refine blkR ?_
               refine thenR ?_
               refine ret1 (v := Value.bool false) (by rfl) hA (Got.tmp hA (by kernel_rfl) (by kernel_rfl)) ?_
               clear hA
               exact ⟨retv (congrArg Value.bool (vEq_no (hsub _ (List.mem_of_getElem? hcc10)) (by unfold vEq1; rw [hv16]; exact h18)).symm), hW.fr⟩)
           · skip
             have h18 := not_f h18
             first
             | (exfalso; clear hA hW; omega)
             | (
               refine wp_skip ?_
               refine blkN ?_
               refine thenN ?_
               have hlt_ := er_len_ hcc10; rw [← outs_erase] at hW
               exact ⟨(List.eraseIdx Vl k7).length, by omega, List.eraseIdx Vl k7, (some y8), rfl, by exact fun e he => hsub e (List.eraseIdx_subset he), by intro e he; rcases hdn e he with h_ | h_; (rcases mem_er hcc10 h_ with h_ | h_; (subst h_; exact .inr (by unfold vEq1; rw [hv16]; exact h18)); exact .inl h_); exact .inr h_, hA.sub ⟨⟨by kernel_rfl, by kernel_rfl⟩, ⟨by kernel_rfl, by kernel_rfl⟩, ⟨by kernel_rfl, by kernel_rfl⟩, ⟨by kernel_rfl, by kernel_rfl⟩, trivial⟩, (hW.pick [0] (by decide) rfl).pickG [2, 3, 4, 5, 6] rfl⟩)))

set_option maxRecDepth 100000 in
theorem e_msame (m : Nat) (b : Nat) (V : VT6) (q : Nat) (b2 : Nat) (W : VT6) (w : World) (ho_p : (MemR m b V).p w) (hl_p : ∀ x_ ∈ (MemR m b V).fp, x_ < w.heap.size) (ho_q : (MemR q b2 W).p w) (hl_q : ∀ x_ ∈ (MemR q b2 W).fp, x_ < w.heap.size) (hl : V.length ≤ 100000 ∧ W.length ≤ 100000) : Calls Try.prog 12 #[Value.pointer (some ⟨m, 0, none⟩), Value.pointer (some ⟨q, 0, none⟩)] w (fun e w' => e = .returned (Value.bool (vEq (vals V) (vals W))) ∧ Fr No w w') := by
 have _hu := ho_p; have _hv := hl_p; clear _hu _hv
 have _hu := ho_q; have _hv := hl_q; clear _hu _hv
 have _hu := hl; clear _hu
 refine enter_E 26 Try.func12 rfl rfl (by kernel_rfl) (L := [(0, Value.pointer (some ⟨m, 0, none⟩)), (1, Value.pointer (some ⟨q, 0, none⟩))]) (by kernel_rfl) ?_
 intro ac hA
 have hW := Ws.start w No
 have hW := hW.objG (L := [Cel m #[Value.map (some b)] 54, mapR b (fun a : Int => Value.int .u32 a) (fun x_ : Nat => Value.pointer (some ⟨x_, 0, none⟩)) (outs V), SubR (fun (c_ : Nat → Int) (b_ : Nat) => PgR .u32 4096 64 c_ b_) V]) ho_p hl_p
 clear ho_p hl_p
 have hW := hW.objG (L := [Cel q #[Value.map (some b2)] 54, mapR b2 (fun a : Int => Value.int .u32 a) (fun x_ : Nat => Value.pointer (some ⟨x_, 0, none⟩)) (outs W), SubR (fun (c_ : Nat → Int) (b_ : Nat) => PgR .u32 4096 64 c_ b_) W]) ho_q hl_q
 clear ho_q hl_q
 refine wp_seq ?_
 refine wp_region_lit ?_
 refine st_rd (v := Value.bool false) hA (by kernel_rfl) (by kernel_rfl) (by kernel_rfl) hW.cls (Rd.pure fun _ => by kernel_rfl) ?_; clear hA ac; intro ac hA
 refine wpList_nil ?_
 refine thenN ?_
 refine wp_seq ?_
 refine wp_seq ?_
 refine wp_region_lit ?_
 refine st_rd (v := Value.pointer (some ⟨m, 0, none⟩)) hA (by kernel_rfl) (by kernel_rfl) (by kernel_rfl) hW.cls (Rd.pure fun _ => by kernel_rfl) ?_; clear hA ac; intro ac hA
 refine st hA (by kernel_rfl) (by kernel_rfl) (by kernel_rfl) (Runs.callS (v := Value.bool false) (fun _ => by kernel_rfl) (e_mnone m b w (show _ = _ from (hW).getG 3 rfl)) ?_); clear hA ac; intro  ac hA
 refine st_rd (v := Value.bool false) hA (by kernel_rfl) (by kernel_rfl) (by kernel_rfl) hW.cls (Rd.pure fun _ => by kernel_rfl) ?_; clear hA ac; intro ac hA
 refine st_rd (v := Value.pointer (some ⟨q, 0, none⟩)) hA (by kernel_rfl) (by kernel_rfl) (by kernel_rfl) hW.cls (Rd.pure fun _ => by kernel_rfl) ?_; clear hA ac; intro ac hA
 refine st hA (by kernel_rfl) (by kernel_rfl) (by kernel_rfl) (Runs.callS (v := Value.bool false) (fun _ => by kernel_rfl) (e_mnone q b2 w (show _ = _ from (hW).getG 0 rfl)) ?_); clear hA ac; intro  ac hA
 refine st_rd (v := Value.bool false) hA (by kernel_rfl) (by kernel_rfl) (by kernel_rfl) hW.cls (Rd.pure fun _ => by kernel_rfl) ?_; clear hA ac; intro ac hA
 refine wpList_nil ?_
 refine thenN ?_
 refine wp_cond_false (hA.eval (by kernel_rfl)) ?_
 refine wp_skip ?_
 refine thenN ?_
 refine wp_seq ?_
 refine q_region (by kernel_rfl) (by kernel_rfl) hW ?_
 refine sq_rd (v := Value.pointer (some ⟨m, 0, none⟩)) hA (by kernel_rfl) (by kernel_rfl) (by kernel_rfl) (Rd.pure fun _ => by kernel_rfl) ?_; clear hA ac; intro ac hA
 refine sq_rd (v := Value.pointer (some ⟨m, 0, none⟩)) hA (by kernel_rfl) (by kernel_rfl) (by kernel_rfl) (Rd.pure fun _ => by kernel_rfl) ?_; clear hA ac; intro ac hA
 refine sq_rd (v := Value.pointer (some ⟨m, 0, none⟩)) hA (by kernel_rfl) (by kernel_rfl) (by kernel_rfl) (Rd.pure fun _ => by kernel_rfl) ?_; clear hA ac; intro ac hA
 refine sq_rd (v := Value.map (some b)) hA (by kernel_rfl) (by kernel_rfl) (by kernel_rfl) (Rd.load (b := m) (i := 0) (by kernel_rfl) (fun _ hw => show _ = _ from (hw.1).getG 3 rfl) (by kernel_rfl)) ?_; clear hA ac; intro ac hA
 refine sq_rd (v := Value.pointer (some ⟨q, 0, none⟩)) hA (by kernel_rfl) (by kernel_rfl) (by kernel_rfl) (Rd.pure fun _ => by kernel_rfl) ?_; clear hA ac; intro ac hA
 refine sq_rd (v := Value.pointer (some ⟨q, 0, none⟩)) hA (by kernel_rfl) (by kernel_rfl) (by kernel_rfl) (Rd.pure fun _ => by kernel_rfl) ?_; clear hA ac; intro ac hA
 refine sq_rd (v := Value.pointer (some ⟨q, 0, none⟩)) hA (by kernel_rfl) (by kernel_rfl) (by kernel_rfl) (Rd.pure fun _ => by kernel_rfl) ?_; clear hA ac; intro ac hA
 refine sq_rd (v := Value.map (some b2)) hA (by kernel_rfl) (by kernel_rfl) (by kernel_rfl) (Rd.load (b := q) (i := 0) (by kernel_rfl) (fun _ hw => show _ = _ from (hw.1).getG 0 rfl) (by kernel_rfl)) ?_; clear hA ac; intro ac hA
 refine sq_call (v := Value.bool (vEq (vals V) (vals W))) hA (by kernel_rfl) (by kernel_rfl) (by kernel_rfl) (fun _ => by kernel_rfl) (Cls.callNC fun wx hwx => e_equalFunc b V b2 W wx ((hwx.1).getG 4 rfl) ((hwx.1).getG 5 rfl) ((hwx.1).glt _ (List.mem_of_getElem? (i := 5) rfl)) ((hwx.1).getG 1 rfl) ((hwx.1).getG 2 rfl) ((hwx.1).glt _ (List.mem_of_getElem? (i := 2) rfl)) (by first | omega | assumption)) ?_; clear hA ac; intro ac hA
 refine sq_rd (v := Value.bool (vEq (vals V) (vals W))) hA (by kernel_rfl) (by kernel_rfl) (by kernel_rfl) (Rd.pure fun _ => by kernel_rfl) ?_; clear hA ac; intro ac hA
 refine sq_nil ?_; intro w1 hww1; have hW := hww1.1; have hfw1 := hww1.2; clear hww1
 refine thenN ?_
 refine wp_ret ?_
 refine ret1 (v := Value.bool (vEq (vals V) (vals W))) (by rfl) hA (Got.tmp hA (by kernel_rfl) (by kernel_rfl)) ?_
 clear hA
 exact ⟨retv (by rfl), hW.fr⟩

end Go.Proofs.Ytcokpdlmahlpnaa.L
