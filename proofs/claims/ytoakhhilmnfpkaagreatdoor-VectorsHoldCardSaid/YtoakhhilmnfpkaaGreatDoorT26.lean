/- Contracts, walked by program over the engine's laws. -/
import Derived.Test.YtoakhhilmnfpkaaGreatDoorProg
import Derived.Test.YtoakhhilmnfpkaaGreatDoorT25
namespace Go.Proofs.YtoakhhilmnfpkaaGreatDoor.L
open Go.RowKit
open Go.Value renaming int → vI, slice → vS, bool → vB, pointer → vP, func → vF, agg → vA, map → vM, tuple → vT

abbrev VT26 : Type := List (Int × Nat × (Option MkF × Option MkF))
/-- The cells: the map, the cells. -/
def CmR (bc : Nat) (V : VT26) : Res := allR [mapR bc (fun a : Int => vI .u32 a) (fun x_ : Nat => pA x_ 0) (outs V), SubR ClR V]
def cellOf (V : VT26) (a : Int) : Option MkF × Option MkF := (look (vals V) a).getD (none, none)
/-- An address's cell is there. -/
structure CellOk (V V' : VT26) (addr : Int) (b i : Nat) (X Y : Option MkF) : Prop where
  at_ : V'[i]? = some (addr, b, (X, Y))
  of_ : (X, Y) = cellOf V addr
  all : ∀ a, cellOf V' a = cellOf V a
  nd : (keys (vals V)).Nodup → (keys (vals V')).Nodup
  mem : ∀ x ∈ V', x ∈ V ∨ x.2.2 = (none, none)
theorem CellOk.same {V : VT26} {addr : Int} {b i : Nat} {c : Option MkF × Option MkF} (hi : V[i]? = some (addr, b, c)) (hv : look (vals V) addr = some c) : CellOk V V addr b i c.1 c.2 :=
  ⟨hi, by unfold cellOf; rw [hv]; rfl, fun _ => rfl, id, fun _ h => .inl h⟩
theorem look_snoc26 {κ ν : Type} [DecidableEq κ] (m : List (κ × ν)) (k a : κ) (v : ν) (h : look m k = none) : look (m ++ [(k, v)]) a = if a = k then some v else look m a := by
  rw [← put_end h, look_put]
  by_cases q : k = a
  · rw [if_pos q, if_pos q.symm]
  · rw [if_neg q, if_neg (fun e => q e.symm)]
theorem look_none_keys {κ ν : Type} [DecidableEq κ] {m : List (κ × ν)} {k : κ} (h : look m k = none) : k ∉ keys m := by
  induction m with
  | nil => simp [keys]
  | cons x r ih =>
    obtain ⟨a, v⟩ := x
    simp only [look] at h
    split at h
    · cases h
    · rename_i q
      simp only [keys, List.map_cons, List.mem_cons, not_or] at ih ⊢
      exact ⟨fun e => q e.symm, ih h⟩
theorem CellOk.new {V : VT26} {addr : Int} (b : Nat) (h : look (outs V) addr = none) : CellOk V (V ++ [(addr, b, (none, none))]) addr b V.length none none := by
  have hv := outs_none.1 h
  have hc : cellOf V addr = (none, none) := by unfold cellOf; rw [hv]; rfl
  refine ⟨by simp, hc.symm, fun a => ?_, fun hn => ?_, fun x hx => ?_⟩
  · unfold cellOf; rw [vals_snoc, look_snoc26 _ _ _ _ hv]
    by_cases q : a = addr
    · rw [if_pos q, q, hv]; rfl
    · rw [if_neg q]
  · rw [vals_snoc]; unfold keys; rw [List.map_append, List.nodup_append]
    exact ⟨hn, by simp, fun a ha b hb => by simp at hb; subst hb; exact fun e => look_none_keys hv (e ▸ ha)⟩
  · rcases List.mem_append.1 hx with q | q
    · exact .inl q
    · rw [List.mem_singleton] at q; exact .inr (by rw [q])
theorem set_same {α : Type} {l : List α} {i : Nat} {x : α} (h : l[i]? = some x) : l.set i x = l := by
  refine List.ext_getElem? fun j => ?_
  by_cases e : i = j
  · subst e; rw [List.getElem?_set_self (List.getElem?_eq_some_iff.1 h).1, h]
  · rw [List.getElem?_set_ne e]
theorem outs_new {V : VT26} {addr : Int} (b : Nat) (h : look (outs V) addr = none) : put (outs V) addr b = outs (V ++ [(addr, b, (none, none))]) ∧ look (outs (V ++ [(addr, b, (none, none))])) addr = some b := by
  rw [outs_snoc, look_snoc26 _ _ _ _ h, put_end h]; exact ⟨rfl, if_pos rfl⟩
theorem Ws.celCl {w0 w : World} {S : Nat → Prop} {K G : List Res} {b : Nat} (h : Ws w0 S (Cel b #[.slice none 0 0, .map none, .slice none 0 0, .map none] 168 :: K) G w) : Ws w0 S (ClR (none, none) b :: K) G w := by
  have h1 : Ws w0 S (allR [] :: Cel b #[.slice none 0 0, .map none, .slice none 0 0, .map none] 168 :: K) G w := Ws.pack (L := []) h
  have h2 : Ws w0 S (([allR [], allR []] ++ [Cel b #[.slice none 0 0, .map none, .slice none 0 0, .map none] 168]) ++ K) G w := Ws.pack (L := []) h1
  exact Ws.pack (L := [Cel b #[.slice none 0 0, .map none, .slice none 0 0, .map none] 168, allR [], allR []]) (K := K) (Ws.turnL h2 (List.perm_append_comm (l₁ := [Cel b #[.slice none 0 0, .map none, .slice none 0 0, .map none] 168])))
theorem Ws.hd {w0 w : World} {S : Nat → Prop} {H G : List Res} (h : Ws w0 S H G w) (i j : Nat) {r o : Res} (hi : H[i]? = some r) (hj : H[j]? = some o) (hne : i ≠ j) : ∀ b ∈ r.fp, b ∉ o.fp := fun b hb hb' => by
  obtain ⟨il, ie⟩ := List.getElem?_eq_some_iff.1 hi
  obtain ⟨jl, je⟩ := List.getElem?_eq_some_iff.1 hj
  have pw := List.pairwise_iff_getElem.1 h.nd
  rcases Nat.lt_or_gt_of_ne hne with q | q
  · exact pw i j il jl q b (by rw [ie]; exact hb) (by rw [je]; exact hb')
  · exact pw j i jl il q b (by rw [je]; exact hb') (by rw [ie]; exact hb)
set_option maxRecDepth 100000 in
theorem e_vnone (p : Nat) (m : Nat) (bc : Nat) (hs : Value) (many : Int) (w : World) (ho_p : w.heap[p]? = some (.cells #[pA m 0, vM (some bc), hs, vI .i64 many] 75 (0, 0))) : Calls Tryz.prog 32 #[pA p 0] w (fun e w' => e = .returned (vB false) ∧ Fr No w w') := by
 have _hu := ho_p; clear _hu
 refine enter_E 12 Tryz.func32 rfl rfl (by kernel_rfl) (L := [(0, pA p 0)]) (by kernel_rfl) ?_
 intro ac hA
 have hW := Ws.start w No
 have hW := hW.celG ho_p
 refine wr <| st_p (vB false) hA ?_; clear hA ac; intro ac hA
 refine wn <| wr <| st_p (pA p 0) hA fun ac hA => st_p (vB false) hA fun ac hA => st_p (vB false) hA fun ac hA => st_p (pA p 0) hA fun ac hA => st_p (pA p 0) hA fun ac hA => st_p (pA p 1) hA fun ac hA => st_q (vM (some bc)) hA hW.cls (Rd.load (b := p) (i := 1) (by kernel_rfl) (fun _ hw => show _ = _ from (hw.1).getG 0 rfl) (by kernel_rfl)) fun ac hA => st_p (vB false) hA fun ac hA => st_p (vB false) hA fun ac hA => st_p (vB false) hA fun ac hA => wn <| wp_ret <| r1 (vB false) hA ?_
 clear hA
 exact ⟨retv (by rfl), hW.fr⟩

set_option maxRecDepth 100000 in
theorem e_vnone0  (w : World)  : Calls Tryz.prog 32 #[vP none] w (fun e w' => e = .returned (vB true) ∧ Fr No w w') := by
 refine enter_E 12 Tryz.func32 rfl rfl (by kernel_rfl) (L := [(0, vP none)]) (by kernel_rfl) ?_
 intro ac hA
 have hW := Ws.start w No
 refine wr <| st_p (vB false) hA ?_; clear hA ac; intro ac hA
 refine wn <| wr <| st_p (vP none) hA fun ac hA => st_p (vB true) hA fun ac hA => st_p (vB true) hA fun ac hA => st_k hA fun ac hA => st_k hA fun ac hA => st_k hA fun ac hA => st_k hA fun ac hA => st_k hA fun ac hA => st_p (vB true) hA fun ac hA => st_p (vB true) hA fun ac hA => wn <| wp_ret <| r1 (vB true) hA ?_
 clear hA
 exact ⟨retv (by rfl), hW.fr⟩

set_option maxRecDepth 100000 in
theorem e_vcell (bc : Nat) (V : VT26) (p : Nat) (m : Nat) (hs : Value) (many : Int) (addr : Int) (w : World) (ho_p : (CmR bc V).p w) (hl_p : ∀ x_ ∈ (CmR bc V).fp, x_ < w.heap.size) (ho_pc : w.heap[p]? = some (.cells #[pA m 0, vM (some bc), hs, vI .i64 many] 75 (0, 0))) (hz_pc : ∀ x_ ∈ (CmR bc V).fp, x_ ∉ (Cel p #[pA m 0, vM (some bc), hs, vI .i64 many] 75).fp) : Calls Tryz.prog 36 #[pA p 0, vI .u32 addr] w (fun e w' => ∃ b' : Nat, ∃ V' : VT26, ∃ i' : Nat, ∃ X' : Option MkF, ∃ Y' : Option MkF, e = .returned (vP (some ⟨b', 0, none⟩)) ∧ (CellOk V V' addr b' i' X' Y') ∧ Upd (CmR bc V) (CmR bc V') w w') := by
 have _hu := ho_p; have _hv := hl_p; clear _hu _hv
 refine enter_E 25 Tryz.func36 rfl rfl (by kernel_rfl) (L := [(0, pA p 0), (1, vI .u32 addr)]) (by kernel_rfl) ?_
 intro ac hA
 have hW : Ws w (· ∈ (CmR bc V).fp) [mapR bc (fun a : Int => vI .u32 a) (fun x_ : Nat => pA x_ 0) (outs V), SubR ClR V] [] w := Ws.unpack (K := []) (objW ho_p hl_p)
 clear ho_p hl_p
 have hW := hW.addG (Cel p #[pA m 0, vM (some bc), hs, vI .i64 many] 75) ho_pc (by intro b_ hb_; simp only [Cel, List.mem_singleton] at hb_; subst hb_; exact lt_of_block ho_pc) (by intro r_ hr_; exact fun b_ hb_ => hz_pc b_ (mem_allR.2 ⟨r_, hr_, hb_⟩))
 refine wr <| st_p (vP none) hA ?_; clear hA ac; intro ac hA
 refine wn <| wp_seq <| wr <| st_p (pA p 0) hA fun ac hA => st_p (pA p 0) hA fun ac hA => st_p (pA p 1) hA fun ac hA => st_q (vM (some bc)) hA hW.cls (Rd.load (b := p) (i := 1) (by kernel_rfl) (fun _ hw => show _ = _ from (hw.1).getG 0 rfl) (by kernel_rfl)) fun ac hA => st_p (vI .u32 addr) hA fun ac hA => ?_
 rcases hk1 : look (outs V) (addr : Int) with _ | bk2
 ·
  refine st_q (vP none) hA hW.cls ((Rd.lookup (k := 32) (e := 97) (ek := (fun a : Int => vI .u32 a)) (ev := (fun x_ : Nat => pA x_ 0)) (m := (outs V)) (z := vP none) (addr : Int) false (by kernel_rfl) (by kernel_rfl) (KeyE.int (by kernel_rfl)) (by kernel_rfl) (fun _ => by kernel_rfl) (fun _ hw => (hw.1).get 0 rfl)).cast (by rw [hk1]; rfl)) fun ac hA => st_p (vB true) hA fun ac hA => wn <| wp_cond_true (hA.eval (by kernel_rfl)) <| wp_region_lit <| st_p (pA p 0) hA fun ac hA => st_p (pA p 0) hA fun ac hA => st_p (pA p 1) hA fun ac hA => st_q (vM (some bc)) hA hW.cls (Rd.load (b := p) (i := 1) (by kernel_rfl) (fun _ hw => show _ = _ from (hw.1).getG 0 rfl) (by kernel_rfl)) fun ac hA => st_p (vI .u32 addr) hA fun ac hA => st_p (vA #[vS none 0 0, vM none, vS none 0 0, vM none]) hA fun ac hA => st_s hA (Runs.cells (fun b => pA b 0) #[vS none 0 0, vM none, vS none 0 0, vM none] 168 (fun _ => by kernel_rfl) hW ?_); clear hA ac hW; intro b3 w4 hW hb3 hfw4 ac hA
  refine st_s hA (Runs.mapUpdate (k := 32) (e := 97) (ek := (fun a : Int => vI .u32 a)) (ev := (fun x_ : Nat => pA x_ 0)) (m := (outs V)) (addr : Int) b3 (by kernel_rfl) (by kernel_rfl) (by kernel_rfl) (KeyE.int (by kernel_rfl)) (by kernel_rfl) hW (i := 1) rfl ?_); clear hA ac hW; intro w5 hW ac hA
  refine wn <| wp_seq ?_
  have hW : Ws w (· ∈ (CmR bc V).fp) [ClR ((none, none) : Option MkF × Option MkF) b3, mapR bc (fun a : Int => vI .u32 a) (fun x_ : Nat => pA x_ 0) (put (outs V) (addr : Int) b3), SubR ClR V] [Cel p #[pA m 0, vM (some bc), hs, vI .i64 many] 75] w5 := Ws.celCl (hW.pick [0, 1, 2] (by decide) rfl)
  have hW := Ws.subAdd (f := ClR) (hW.pick [0, 2, 1] (by decide) rfl) addr
  obtain ⟨hp_, hl2_⟩ := outs_new b3 hk1; rw [hp_] at hW
  replace hW : Ws w (· ∈ (CmR bc V).fp) [SubR ClR (V ++ [(addr, b3, (none, none))]), mapR bc (fun a : Int => vI .u32 a) (fun x_ : Nat => pA x_ 0) (outs (V ++ [(addr, b3, (none, none))]))] [Cel p #[pA m 0, vM (some bc), hs, vI .i64 many] 75] w5 := hW
  refine wp_region_lit <| st_p (pA p 0) hA fun ac hA => st_p (pA p 0) hA fun ac hA => st_p (pA p 1) hA fun ac hA => st_q (vM (some bc)) hA hW.cls (Rd.load (b := p) (i := 1) (by kernel_rfl) (fun _ hw => show _ = _ from (hw.1).getG 0 rfl) (by kernel_rfl)) fun ac hA => st_p (vI .u32 addr) hA fun ac hA => st_q (pA b3 0) hA hW.cls ((Rd.lookup (k := 32) (e := 97) (ek := (fun a : Int => vI .u32 a)) (ev := (fun x_ : Nat => pA x_ 0)) (m := (outs (V ++ [(addr, b3, (none, none))]))) (z := vP none) (addr : Int) false (by kernel_rfl) (by kernel_rfl) (KeyE.int (by kernel_rfl)) (by kernel_rfl) (fun _ => by kernel_rfl) (fun _ hw => (hw.1).get 1 rfl)).cast (by rw [hl2_]; rfl)) fun ac hA => st_p (pA b3 0) hA fun ac hA => wn <| wp_ret <| r1 (pA b3 0) hA ?_
  clear hA
  exact ⟨b3, _, _, none, none, rfl, by exact CellOk.new b3 hk1, (Ws.pack (K := []) (show Ws w (· ∈ (CmR bc V).fp) ([mapR bc (fun a : Int => vI .u32 a) (fun x_ : Nat => pA x_ 0) (outs (V ++ [(addr, b3, (none, none))])), SubR ClR (V ++ [(addr, b3, (none, none))])] ++ []) [Cel p #[pA m 0, vM (some bc), hs, vI .i64 many] 75] _ from hW.pick [1, 0] (by decide) rfl)).updDone 0 rfl⟩
 ·
  obtain ⟨i6, c7, hi8, hv9⟩ := outs_at hk1
  have hW := Ws.subOpen (hW.pick [1, 0] (by decide) rfl) i6 hi8
  replace hW : Ws w (· ∈ (CmR bc V).fp) [ClR c7 bk2, SubR ClR (List.eraseIdx V i6), mapR bc (fun a : Int => vI .u32 a) (fun x_ : Nat => pA x_ 0) (outs V)] [Cel p #[pA m 0, vM (some bc), hs, vI .i64 many] 75] w := hW
  refine st_q (pA bk2 0) hA hW.cls ((Rd.lookup (k := 32) (e := 97) (ek := (fun a : Int => vI .u32 a)) (ev := (fun x_ : Nat => pA x_ 0)) (m := (outs V)) (z := vP none) (addr : Int) false (by kernel_rfl) (by kernel_rfl) (KeyE.int (by kernel_rfl)) (by kernel_rfl) (fun _ => by kernel_rfl) (fun _ hw => (hw.1).get 2 rfl)).cast (by rw [hk1]; rfl)) fun ac hA => st_p (vB false) hA fun ac hA => wn <| wp_cond_false (hA.eval (by kernel_rfl)) <| wp_skip <| thenN <| wr <| st_p (pA p 0) hA fun ac hA => st_p (pA p 0) hA fun ac hA => st_p (pA p 1) hA fun ac hA => st_q (vM (some bc)) hA hW.cls (Rd.load (b := p) (i := 1) (by kernel_rfl) (fun _ hw => show _ = _ from (hw.1).getG 0 rfl) (by kernel_rfl)) fun ac hA => st_p (vI .u32 addr) hA fun ac hA => st_q (pA bk2 0) hA hW.cls ((Rd.lookup (k := 32) (e := 97) (ek := (fun a : Int => vI .u32 a)) (ev := (fun x_ : Nat => pA x_ 0)) (m := (outs V)) (z := vP none) (addr : Int) false (by kernel_rfl) (by kernel_rfl) (KeyE.int (by kernel_rfl)) (by kernel_rfl) (fun _ => by kernel_rfl) (fun _ hw => (hw.1).get 2 rfl)).cast (by rw [hk1]; rfl)) fun ac hA => st_p (pA bk2 0) hA fun ac hA => wn <| wp_ret <| r1 (pA bk2 0) hA ?_
  clear hA
  have hW := Ws.subClose (f := ClR) (x := c7) (hW.pick [0, 1, 2] (by decide) rfl) hi8
  rw [← outs_set (c' := c7) hi8] at hW
  replace hW : Ws w (· ∈ (CmR bc V).fp) [SubR ClR (List.set V i6 ((addr : Int), bk2, c7)), mapR bc (fun a : Int => vI .u32 a) (fun x_ : Nat => pA x_ 0) (outs (List.set V i6 ((addr : Int), bk2, c7)))] [Cel p #[pA m 0, vM (some bc), hs, vI .i64 many] 75] w := hW
  rw [set_same hi8] at hW
  replace hW : Ws w (· ∈ (CmR bc V).fp) [SubR ClR V, mapR bc (fun a : Int => vI .u32 a) (fun x_ : Nat => pA x_ 0) (outs V)] [Cel p #[pA m 0, vM (some bc), hs, vI .i64 many] 75] w := hW
  exact ⟨bk2, _, _, c7.1, c7.2, rfl, by exact CellOk.same hi8 hv9, (Ws.pack (K := []) (show Ws w (· ∈ (CmR bc V).fp) ([mapR bc (fun a : Int => vI .u32 a) (fun x_ : Nat => pA x_ 0) (outs V), SubR ClR V] ++ []) [Cel p #[pA m 0, vM (some bc), hs, vI .i64 many] 75] _ from hW.pick [1, 0] (by decide) rfl)).updDone 0 rfl⟩

end Go.Proofs.YtoakhhilmnfpkaaGreatDoor.L
