/- Contracts, walked by program over the engine's laws. -/
import Derived.Test.YtfkbjfbbigbacaaGreatDoorProg
import Derived.Test.YtfkbjfbbigbacaaGreatDoorT7
namespace Go.Proofs.YtfkbjfbbigbacaaGreatDoor.L
open Go.RowKit
open Go.Value renaming int → vI, slice → vS, bool → vB, pointer → vP, func → vF, agg → vA, map → vM, tuple → vT

def nilSV : SV := ⟨[], none, 0⟩
/-- All that an order's slices list: of events, of goroutines, of things. -/
def NV (C : List SV) (G : List (Int × SV)) (T : List (Thing × SV)) : List SV := nilSV :: (C ++ (G.map (·.2) ++ T.map (·.2)))
theorem nv_nil {C : List SV} {G : List (Int × SV)} {T : List (Thing × SV)} : nilSV ∈ NV C G T := .head _
theorem nv_c {C : List SV} {G : List (Int × SV)} {T : List (Thing × SV)} {x : SV} (h : x ∈ C) : x ∈ NV C G T := .tail _ (List.mem_append_left _ h)
theorem nv_g {C : List SV} {G : List (Int × SV)} {T : List (Thing × SV)} (g : Int) : (look G g).getD nilSV ∈ NV C G T := by
  cases h : look G g with
  | none => exact nv_nil
  | some y => exact .tail _ (List.mem_append_right _ (List.mem_append_left _ (List.mem_map.2 ⟨_, look_mem h, rfl⟩)))
theorem nv_t {C : List SV} {G : List (Int × SV)} {T : List (Thing × SV)} (t : Thing) : (look T t).getD nilSV ∈ NV C G T := by
  cases h : look T t with
  | none => exact nv_nil
  | some y => exact .tail _ (List.mem_append_right _ (List.mem_append_right _ (List.mem_map.2 ⟨_, look_mem h, rfl⟩)))
theorem put_vals {κ ν : Type} [DecidableEq κ] {m : List (κ × ν)} {k : κ} {v x : ν} (h : x ∈ (put m k v).map (·.2)) : x = v ∨ x ∈ m.map (·.2) := by
  induction m with
  | nil => simp [put] at h; exact .inl h
  | cons p r ih =>
    obtain ⟨a, u⟩ := p
    unfold put at h
    split at h
    · simp only [List.map_cons, List.mem_cons] at h ⊢; rcases h with h | h
      · exact .inl h
      · exact .inr (.inr h)
    · simp only [List.map_cons, List.mem_cons] at h ⊢; rcases h with h | h
      · exact .inr (.inl h)
      · rcases ih h with h | h
        · exact .inl h
        · exact .inr (.inr h)
/-! ### the plain law: clocks of events, of goroutines, of things -/
def join2 (a b : List Int) : List Int := trimC (joinC (joinC [] a) b)
structure OSt where
  ck : List (List Int)
  g : Int → List Int
  t : Int → Int → List Int
def accS (s : OSt) (x : Event) : List Int := (fromL x.kind).foldl (fun c k => join2 c (s.t k x.obj)) (s.g x.g)
def tick1 (c : List Int) (id : Int) : List Int := trimC ((padC c id).set id.toNat (getC c id + 1))
def addS (s : OSt) (x : Event) : OSt :=
  let c := tick1 (accS s x) x.g
  let g := fun i => if i = x.g then c else s.g i
  ⟨s.ck ++ [c], if x.kind = 4 then fun i => if i = x.child then join2 (g x.child) c else g i else g, if x.kind ≠ 4 ∧ EvRel x then fun k o => if k = x.kind ∧ o = x.obj then join2 (s.t k o) c else s.t k o else s.t⟩
def stOf (E : List Event) : OSt := E.foldl addS ⟨[], fun _ => [], fun _ _ => []⟩
theorem stOf_snoc (E : List Event) (x : Event) : stOf (E ++ [x]) = addS (stOf E) x := by simp [stOf]
/-- An order's memory is what its events make. -/
structure OrdOk (E : List Event) (C : List SV) (G : List (Int × SV)) (T : List (Thing × SV)) : Prop where
  len : E.length ≤ 4096
  ev : ∀ e ∈ E, EvOk e
  ck : C.map SV.l = (stOf E).ck
  g : ∀ g, ((look G g).getD nilSV).l = (stOf E).g g
  t : ∀ k o, ((look T ⟨k, o⟩).getD nilSV).l = (stOf E).t k o
  cap : ∀ x ∈ NV C G T, capSV x
  bd : ∀ x ∈ NV C G T, x.l.length ≤ 65536 ∧ ∀ n ∈ x.l, 0 ≤ n ∧ n ≤ (E.length : Int)
theorem stOf_len (E : List Event) : (stOf E).ck.length = E.length := by
  rw [← List.reverse_reverse E]
  generalize E.reverse = R
  induction R with
  | nil => rfl
  | cons x R ih => rw [List.reverse_cons, stOf_snoc]; simp [addS, ih]
theorem OrdOk.clen {E C G T} (h : OrdOk E C G T) : C.length = E.length := by rw [← stOf_len E, ← h.ck, List.length_map]
/-- An event's clock. -/
def clk (E : List Event) (j : Nat) : List Int := ((stOf E).ck[j]?).getD []
theorem OrdOk.at {E C G T} (h : OrdOk E C G T) {j : Nat} {l : List Int} {A : Option Addr} {c : Nat} (hj : C[j]? = some (⟨l, A, c⟩ : SV)) : l = clk E j := by
  unfold clk; rw [← h.ck, List.getElem?_map, hj]; rfl
def thereE (E : List Event) (i : Int) : Prop := 0 ≤ i ∧ i < (E.length : Int)
def upToE (E : List Event) (i j : Int) : Bool := match E[i.toNat]? with
  | some e => decide (getC (clk E i.toNat) e.g ≤ getC (clk E j.toNat) e.g)
  | none => false
def befE (E : List Event) (i j : Int) : Bool := decide (0 ≤ i ∧ i < j ∧ j < (E.length : Int)) && upToE E i j
def apartE (E : List Event) (i j : Int) : Bool := decide (0 ≤ i ∧ i < (E.length : Int) ∧ 0 ≤ j ∧ j < (E.length : Int) ∧ i ≠ j) && !befE E i j && !befE E j i
def OrdR (m : Nat) (Ae : Option Addr) (ce : Nat) (E : List Event) (Ak : Option Addr) (ck : Nat) (C : List SV) (bg : Nat) (G : List (Int × SV)) (bt : Nat) (T : List (Thing × SV)) : Res := allR [Cel m #[vS Ae E.length ce, vS Ak C.length ck, vM (some bg), vM (some bt)] 64, rowR 51 9 enEvent (vS Ae E.length ce) E, rowR 105 1 enSV (vS Ak C.length ck) C, mapR bg (fun a : Int => vI .i64 a) SV.v G, mapR bt Thing.v SV.v T, nestR innerSV (NV C G T)]
theorem upTo_eq {E C G T} (hok : OrdOk E C G T) {i j : Int} {e : Event} {l1 l2 : List Int} {A1 A2 : Option Addr} {c1 c2 : Nat} (he : E[i.toNat]? = some e) (h1 : C[i.toNat]? = some (⟨l1, A1, c1⟩ : SV)) (h2 : C[j.toNat]? = some (⟨l2, A2, c2⟩ : SV)) : decide (getC l1 e.g ≤ getC l2 e.g) = upToE E i j := by
  unfold upToE; rw [he, hok.at h1, hok.at h2]
def evAt (E : List Event) (i : Int) : Event := if 0 ≤ i ∧ i < (E.length : Int) then (E[i.toNat]?).getD ⟨0, 0, ⟨0, 0⟩, 0, 0, 0, 0, 0⟩ else ⟨0, 0, ⟨0, 0⟩, 0, 0, 0, 0, 0⟩
theorem evAt_yes {E : List Event} {i : Int} {y : Event} (h : 0 ≤ i ∧ i < (E.length : Int)) (hy : E[i.toNat]? = some y) : evAt E i = y := by unfold evAt; rw [if_pos h, hy]; rfl
theorem evAt_no {E : List Event} {i : Int} (h : ¬ (0 ≤ i ∧ i < (E.length : Int))) : evAt E i = ⟨0, 0, ⟨0, 0⟩, 0, 0, 0, 0, 0⟩ := by unfold evAt; rw [if_neg h]
def clkE (E : List Event) (j : Int) : List Int := if 0 ≤ j ∧ j < (E.length : Int) then clk E j.toNat else []
set_option maxRecDepth 100000 in
theorem e_onone (o : Nat) (v1 : Value) (v2 : Value) (gm : Nat) (tm : Nat) (w : World) (ho_o : w.heap[o]? = some (.cells #[v1, v2, vM (some gm), vM (some tm)] 64 (0, 0))) : Calls Tryz.prog 39 #[pA o 0] w (fun e w' => e = .returned (vB false) ∧ Fr No w w') := by
 have _hu := ho_o; clear _hu
 refine enter_E 12 Tryz.func39 rfl rfl (by kernel_rfl) (L := [(0, pA o 0)]) (by kernel_rfl) ?_
 intro ac hA
 have hW := Ws.start w No
 have hW := hW.celG ho_o
 refine wr <| st_p (vB false) hA ?_; clear hA ac; intro ac hA
 refine wn <| wr <| st_p (pA o 0) hA fun ac hA => st_p (vB false) hA fun ac hA => st_p (vB false) hA fun ac hA => st_p (pA o 0) hA fun ac hA => st_p (pA o 0) hA fun ac hA => st_p (pA o 3) hA fun ac hA => st_q (vM (some tm)) hA hW.cls (Rd.load (b := o) (i := 3) (by kernel_rfl) (fun _ hw => show _ = _ from (hw.1).getG 0 rfl) (by kernel_rfl)) fun ac hA => st_p (vB false) hA fun ac hA => st_p (vB false) hA fun ac hA => st_p (vB false) hA fun ac hA => wn <| wp_ret <| r1 (vB false) hA ?_
 clear hA
 exact ⟨retv (by rfl), hW.fr⟩

set_option maxRecDepth 100000 in
theorem e_othere (m : Nat) (Ae : Option Addr) (ce : Nat) (E : List Event) (Ak : Option Addr) (ck : Nat) (C : List SV) (bg : Nat) (G : List (Int × SV)) (bt : Nat) (T : List (Thing × SV)) (i : Int) (w : World) (ho_t : (OrdR m Ae ce E Ak ck C bg G bt T).p w) (hl_t : ∀ x_ ∈ (OrdR m Ae ce E Ak ck C bg G bt T).fp, x_ < w.heap.size) (hl : E.length ≤ 4096) : Calls Tryz.prog 40 #[pA m 0, vI .i64 i] w (fun e w' => e = .returned (vB (decide (0 ≤ i ∧ i < (E.length : Int)))) ∧ Fr No w w') := by
 have _hu := ho_t; have _hv := hl_t; clear _hu _hv
 have _hu := hl; clear _hu
 refine enter_E 16 Tryz.func40 rfl rfl (by kernel_rfl) (L := [(0, pA m 0), (1, vI .i64 i)]) (by kernel_rfl) ?_
 intro ac hA
 have hW := Ws.start w No
 have hW := hW.objG (L := [Cel m #[vS Ae E.length ce, vS Ak C.length ck, vM (some bg), vM (some bt)] 64, rowR 51 9 enEvent (vS Ae E.length ce) E, rowR 105 1 enSV (vS Ak C.length ck) C, mapR bg (fun a : Int => vI .i64 a) SV.v G, mapR bt Thing.v SV.v T, nestR innerSV (NV C G T)]) ho_t hl_t
 clear ho_t hl_t
 refine wr <| st_p (vB false) hA ?_; clear hA ac; intro ac hA
 refine wn <| wr <| st_p (vI .i64 i) hA fun ac hA => st_p (vB (decide ((i : Int) ≥ (0 : Int)))) hA fun ac hA => st_p (vB (decide ((i : Int) ≥ (0 : Int)))) hA fun ac hA => ?_
 rcases Bool.eq_false_or_eq_true (decide ((i : Int) ≥ (0 : Int))) with h1 | h1
 ·
  rw [h1] at hA
  have h1 := of_decide_eq_true h1
  refine st_p (vI .i64 i) hA fun ac hA => st_p (pA m 0) hA fun ac hA => st_p (pA m 0) hA fun ac hA => st_p (pA m 0) hA fun ac hA => st_q (vS Ae E.length ce) hA hW.cls (Rd.load (b := m) (i := 0) (by kernel_rfl) (fun _ hw => show _ = _ from (hw.1).getG 0 rfl) (by kernel_rfl)) fun ac hA => st_p (vI .i64 (E.length : Int)) hA fun ac hA => st_p (vB (decide ((i : Int) < (E.length : Int)))) hA fun ac hA => st_p (vB (decide ((i : Int) < (E.length : Int)))) hA fun ac hA => st_p (vB (decide ((i : Int) < (E.length : Int)))) hA fun ac hA => wn <| wp_ret <| r1 (vB (decide ((i : Int) < (E.length : Int)))) hA ?_
  clear hA
  refine ⟨retv (congrArg vB ?_), hW.fr⟩
  rcases Bool.eq_false_or_eq_true (decide ((i : Int) < (E.length : Int))) with q_ | q_
  · rw [q_]
    have q_ := of_decide_eq_true q_
    exact (decide_eq_true (by omega)).symm
  · rw [q_]
    have q_ := of_decide_eq_false q_
    exact (decide_eq_false (by omega)).symm
 rw [h1] at hA
 have h1 := of_decide_eq_false h1
 refine st_k hA fun ac hA => st_k hA fun ac hA => st_k hA fun ac hA => st_k hA fun ac hA => st_k hA fun ac hA => st_k hA fun ac hA => st_k hA fun ac hA => st_p (vB false) hA fun ac hA => st_p (vB false) hA fun ac hA => wn <| wp_ret <| r1 (vB false) hA ?_
 clear hA
 exact ⟨retv (congrArg vB (decide_eq_false (by omega)).symm), hW.fr⟩

set_option maxRecDepth 100000 in
theorem e_oupto (m : Nat) (Ae : Option Addr) (ce : Nat) (E : List Event) (Ak : Option Addr) (ck : Nat) (C : List SV) (bg : Nat) (G : List (Int × SV)) (bt : Nat) (T : List (Thing × SV)) (i : Int) (j : Int) (w : World) (ho_t : (OrdR m Ae ce E Ak ck C bg G bt T).p w) (hl_t : ∀ x_ ∈ (OrdR m Ae ce E Ak ck C bg G bt T).fp, x_ < w.heap.size) (hok : OrdOk E C G T) (hi : 0 ≤ i ∧ i < (E.length : Int)) (hj : 0 ≤ j ∧ j < (E.length : Int)) : Calls Tryz.prog 41 #[pA m 0, vI .i64 i, vI .i64 j] w (fun e w' => e = .returned (vB (upToE E i j)) ∧ Fr No w w') := by
 have _hu := ho_t; have _hv := hl_t; clear _hu _hv
 have _hu := hok; clear _hu
 have _hu := hi; clear _hu
 have _hu := hj; clear _hu
 have hlc_ := hok.clen; have hll_ := hok.len
 refine enter_E 35 Tryz.func41 rfl rfl (by kernel_rfl) (L := [(0, pA m 0), (1, vI .i64 i), (2, vI .i64 j)]) (by kernel_rfl) ?_
 intro ac hA
 have hW := Ws.start w No
 have hW := hW.objG (L := [Cel m #[vS Ae E.length ce, vS Ak C.length ck, vM (some bg), vM (some bt)] 64, rowR 51 9 enEvent (vS Ae E.length ce) E, rowR 105 1 enSV (vS Ak C.length ck) C, mapR bg (fun a : Int => vI .i64 a) SV.v G, mapR bt Thing.v SV.v T, nestR innerSV (NV C G T)]) ho_t hl_t
 clear ho_t hl_t
 refine wr <| st_p (vB false) hA ?_; clear hA ac; intro ac hA
 refine wn <| wr <| st_p (pA m 0) hA fun ac hA => st_p (pA m 0) hA fun ac hA => st_p (pA m 0) hA fun ac hA => st_q (vS Ae E.length ce) hA hW.cls (Rd.load (b := m) (i := 0) (by kernel_rfl) (fun _ hw => show _ = _ from (hw.1).getG 0 rfl) (by kernel_rfl)) fun ac hA => st_p (vI .i64 i) hA fun ac hA => ?_
 obtain ⟨y1, hy1⟩ : ∃ y, E[Int.toNat (i)]? = some y := ⟨_, List.getElem?_eq_getElem (by first | omega | (simp; done) | (simp; omega))⟩
 obtain ⟨b2, o3, rfl, hbb2⟩ := row_some (rowR_at (E := 51) ((hW).getG 1 rfl) elt_Event.len) hy1
 refine st_q (vP (some ⟨b2, o3 + (Int.toNat (i)) * 9, none⟩)) hA hW.cls (Rd.indexAddrI (e := 51) (sz := 9) (b := b2) (off := o3) (n := E.length) (c := ce) (k := i) (by kernel_rfl) (by kernel_rfl) (by omega) (by first | omega | (simp; done) | (simp; omega)) (fun _ => by kernel_rfl) (fun _ => by kernel_rfl)) fun ac hA => st_p (vP (some ⟨b2, o3 + (Int.toNat (i)) * 9, none⟩)) hA fun ac hA => st_q (vI .i64 y1.g) hA hW.cls (Rd.loadRow (b := b2) (i := o3 + (Int.toNat (i)) * 9) (xs := [vI .i64 y1.g]) (by kernel_rfl) (fun _ hw => row_ld (rowR_at (E := 51) ((hw.1).getG 1 rfl) elt_Event.len) hy1 (Fr.refl No _) (fun h => h) 0 1 (by kernel_rfl)) (by kernel_rfl)) fun ac hA => st_p (vI .i64 y1.g) hA fun ac hA => wn <| wp_seq ?_
 have hW := Ws.nestSub (inner := innerSV) (m := C) hW 5 rfl (fun x_ h_ => nv_c h_)
 have hknq4 : ∀ x_ ∈ C, capSV x_ := (fun x_ h_ => hok.cap x_ (nv_c h_))
 refine q_region (by kernel_rfl) (by kernel_rfl) hW <| sq_p (pA m 0) hA fun ac hA => sq_p (pA m 0) hA fun ac hA => sq_p (pA m 1) hA fun ac hA => sq_q (vS Ak C.length ck) hA (Rd.load (b := m) (i := 1) (by kernel_rfl) (fun _ hw => show _ = _ from (hw.1).getG 1 rfl) (by kernel_rfl)) fun ac hA => sq_p (vI .i64 i) hA fun ac hA => ?_
 obtain ⟨y5, hy5⟩ : ∃ y, C[Int.toNat (i)]? = some y := ⟨_, List.getElem?_eq_getElem (by first | omega | (simp; done) | (simp; omega))⟩
 rcases y5 with ⟨y5_l, y5_l_A, y5_l_c⟩
 obtain ⟨b6, o7, rfl, hbb6⟩ := row_some (rowR_at (E := 105) ((hW).getG 3 rfl) elt_SV.len) hy5
 refine sq_q (vP (some ⟨b6, o7 + (Int.toNat (i)) * 1, none⟩)) hA (Rd.indexAddrI (e := 105) (sz := 1) (b := b6) (off := o7) (n := C.length) (c := ck) (k := i) (by kernel_rfl) (by kernel_rfl) (by omega) (by first | omega | (simp; done) | (simp; omega)) (fun _ => by kernel_rfl) (fun _ => by kernel_rfl)) fun ac hA => sq_q (vS y5_l_A y5_l.length y5_l_c) hA (Rd.loadRow (b := b6) (i := o7 + (Int.toNat (i)) * 1) (xs := [vS y5_l_A y5_l.length y5_l_c]) (by kernel_rfl) (fun _ hw => row_ld (rowR_at (E := 105) ((hw.1).getG 3 rfl) elt_SV.len) hy5 (Fr.refl No _) (fun h => h) 0 1 (by kernel_rfl)) (by kernel_rfl)) fun ac hA => sq_p (vI .i64 y1.g) hA fun ac hA => sq_call (v := vI .u64 (getC y5_l (y1.g))) hA (by kernel_rfl) (by kernel_rfl) (by kernel_rfl) (fun _ => by kernel_rfl) (Cls.callNC fun wx hwx => e_vget y5_l_A y5_l_c y5_l (y1.g) wx (nest_at (inner := innerSV) (x := (⟨y5_l, y5_l_A, y5_l_c⟩ : SV)) ((hwx.1).getG 0 rfl) (List.mem_of_getElem? hy5)) (hknq4 _ (List.mem_of_getElem? hy5)) (by first | omega | assumption | exact Nat.le_trans (hok.bd _ (nv_c (List.mem_of_getElem? (by assumption)))).1 (by omega))) ?_; clear hA ac; intro ac hA
 refine sq_p (pA m 0) hA fun ac hA => sq_p (pA m 0) hA fun ac hA => sq_p (pA m 1) hA fun ac hA => sq_q (vS (some ⟨b6, o7, none⟩) C.length ck) hA (Rd.load (b := m) (i := 1) (by kernel_rfl) (fun _ hw => show _ = _ from (hw.1).getG 1 rfl) (by kernel_rfl)) fun ac hA => sq_p (vI .i64 j) hA fun ac hA => ?_
 obtain ⟨y8, hy8⟩ : ∃ y, C[Int.toNat (j)]? = some y := ⟨_, List.getElem?_eq_getElem (by first | omega | (simp; done) | (simp; omega))⟩
 rcases y8 with ⟨y8_l, y8_l_A, y8_l_c⟩
 refine sq_q (vP (some ⟨b6, o7 + (Int.toNat (j)) * 1, none⟩)) hA (Rd.indexAddrI (e := 105) (sz := 1) (b := b6) (off := o7) (n := C.length) (c := ck) (k := j) (by kernel_rfl) (by kernel_rfl) (by omega) (by first | omega | (simp; done) | (simp; omega)) (fun _ => by kernel_rfl) (fun _ => by kernel_rfl)) fun ac hA => sq_q (vS y8_l_A y8_l.length y8_l_c) hA (Rd.loadRow (b := b6) (i := o7 + (Int.toNat (j)) * 1) (xs := [vS y8_l_A y8_l.length y8_l_c]) (by kernel_rfl) (fun _ hw => row_ld (rowR_at (E := 105) ((hw.1).getG 3 rfl) elt_SV.len) hy8 (Fr.refl No _) (fun h => h) 0 1 (by kernel_rfl)) (by kernel_rfl)) fun ac hA => sq_p (vI .i64 y1.g) hA fun ac hA => sq_call (v := vI .u64 (getC y8_l (y1.g))) hA (by kernel_rfl) (by kernel_rfl) (by kernel_rfl) (fun _ => by kernel_rfl) (Cls.callNC fun wx hwx => e_vget y8_l_A y8_l_c y8_l (y1.g) wx (nest_at (inner := innerSV) (x := (⟨y8_l, y8_l_A, y8_l_c⟩ : SV)) ((hwx.1).getG 0 rfl) (List.mem_of_getElem? hy8)) (hknq4 _ (List.mem_of_getElem? hy8)) (by first | omega | assumption | exact Nat.le_trans (hok.bd _ (nv_c (List.mem_of_getElem? (by assumption)))).1 (by omega))) ?_; clear hA ac; intro ac hA
 refine sq_p (vB (decide ((getC y5_l (y1.g) : Int) ≤ (getC y8_l (y1.g) : Int)))) hA fun ac hA => sq_p (vB (decide ((getC y5_l (y1.g) : Int) ≤ (getC y8_l (y1.g) : Int)))) hA fun ac hA => sq_nil ?_; intro w9 hww9; have hW := hww9.1; have hfw9 := hww9.2; clear hww9
 refine thenN <| wp_ret <| r1 (vB (decide ((getC y5_l (y1.g) : Int) ≤ (getC y8_l (y1.g) : Int)))) hA ?_
 clear hA
 exact ⟨retv (congrArg vB (upTo_eq hok hy1 hy5 hy8)), hW.fr⟩

set_option maxRecDepth 100000 in
theorem e_obefore (m : Nat) (Ae : Option Addr) (ce : Nat) (E : List Event) (Ak : Option Addr) (ck : Nat) (C : List SV) (bg : Nat) (G : List (Int × SV)) (bt : Nat) (T : List (Thing × SV)) (i : Int) (j : Int) (w : World) (ho_o : (OrdR m Ae ce E Ak ck C bg G bt T).p w) (hl_o : ∀ x_ ∈ (OrdR m Ae ce E Ak ck C bg G bt T).fp, x_ < w.heap.size) (hok : OrdOk E C G T) (hi : -9223372036854775808 ≤ i ∧ i ≤ 9223372036854775807) (hj : -9223372036854775808 ≤ j ∧ j ≤ 9223372036854775807) : Calls Tryz.prog 17 #[pA m 0, vI .i64 i, vI .i64 j] w (fun e w' => e = .returned (vB (befE E i j)) ∧ Fr No w w') := by
 have _hu := ho_o; have _hv := hl_o; clear _hu _hv
 have _hu := hok; clear _hu
 have _hu := hi; clear _hu
 have _hu := hj; clear _hu
 have hlc_ := hok.clen; have hll_ := hok.len
 refine enter_E 37 Tryz.func17 rfl rfl (by kernel_rfl) (L := [(0, pA m 0), (1, vI .i64 i), (2, vI .i64 j)]) (by kernel_rfl) ?_
 intro ac hA
 have hW := Ws.start w No
 have hW := hW.addG (OrdR m Ae ce E Ak ck C bg G bt T) ho_o hl_o (by simp)
 have hW := hW.objG (L := [Cel m #[vS Ae E.length ce, vS Ak C.length ck, vM (some bg), vM (some bt)] 64, rowR 51 9 enEvent (vS Ae E.length ce) E, rowR 105 1 enSV (vS Ak C.length ck) C, mapR bg (fun a : Int => vI .i64 a) SV.v G, mapR bt Thing.v SV.v T, nestR innerSV (NV C G T)]) ho_o hl_o
 clear ho_o hl_o
 refine wr <| st_p (vB false) hA ?_; clear hA ac; intro ac hA
 refine wn <| wr <| st_p (pA m 0) hA ?_; clear hA ac; intro ac hA
 refine st_s hA (Runs.callN (v := vB false) (fun _ => by kernel_rfl) hW (e_onone m (vS Ae E.length ce) (vS Ak C.length ck) bg bt w (show _ = _ from (hW).getG 0 rfl)) ?_); clear hA ac hW; intro w1 hW hfw1 ac hA
 refine st_p (vB true) hA fun ac hA => st_p (vB true) hA fun ac hA => st_p (pA m 0) hA fun ac hA => st_p (pA m 0) hA fun ac hA => st_p (pA m 0) hA fun ac hA => st_p (vI .i64 i) hA fun ac hA => st_s hA (Runs.callN (v := vB (decide (0 ≤ (i) ∧ (i) < (E.length : Int)))) (fun _ => by kernel_rfl) hW (e_othere m Ae ce E Ak ck C bg G bt T (i) w1 ((hW).getG 6 rfl) ((hW).glt _ (List.mem_of_getElem? (i := 6) rfl)) (by first | omega | assumption | exact ⟨by omega, by omega⟩)) ?_); clear hA ac hW; intro w2 hW hfw2 ac hA
 refine st_p (vB (decide (0 ≤ (i) ∧ (i) < (E.length : Int)))) hA fun ac hA => st_p (vB (decide (0 ≤ (i) ∧ (i) < (E.length : Int)))) hA fun ac hA => ?_
 rcases Bool.eq_false_or_eq_true (decide (0 ≤ (i) ∧ (i) < (E.length : Int))) with h3 | h3
 ·
  rw [h3] at hA
  have h3 := of_decide_eq_true h3
  refine st_p (pA m 0) hA fun ac hA => st_p (pA m 0) hA fun ac hA => st_p (pA m 0) hA fun ac hA => st_p (vI .i64 j) hA fun ac hA => st_s hA (Runs.callN (v := vB (decide (0 ≤ (j) ∧ (j) < (E.length : Int)))) (fun _ => by kernel_rfl) hW (e_othere m Ae ce E Ak ck C bg G bt T (j) w2 ((hW).getG 6 rfl) ((hW).glt _ (List.mem_of_getElem? (i := 6) rfl)) (by first | omega | assumption | exact ⟨by omega, by omega⟩)) ?_); clear hA ac hW; intro w4 hW hfw4 ac hA
  refine st_p (vB (decide (0 ≤ (j) ∧ (j) < (E.length : Int)))) hA fun ac hA => st_p (vB (decide (0 ≤ (j) ∧ (j) < (E.length : Int)))) hA fun ac hA => ?_
  rcases Bool.eq_false_or_eq_true (decide (0 ≤ (j) ∧ (j) < (E.length : Int))) with h5 | h5
  ·
   rw [h5] at hA
   have h5 := of_decide_eq_true h5
   refine st_p (vI .i64 i) hA fun ac hA => st_p (vI .i64 j) hA fun ac hA => st_p (vB (decide ((i : Int) < (j : Int)))) hA fun ac hA => st_p (vB (decide ((i : Int) < (j : Int)))) hA fun ac hA => st_p (vB (decide ((i : Int) < (j : Int)))) hA fun ac hA => ?_
   rcases Bool.eq_false_or_eq_true (decide ((i : Int) < (j : Int))) with h6 | h6
   ·
    rw [h6] at hA
    have h6 := of_decide_eq_true h6
    refine st_p (pA m 0) hA fun ac hA => st_p (pA m 0) hA fun ac hA => st_p (pA m 0) hA fun ac hA => st_p (vI .i64 i) hA fun ac hA => st_p (vI .i64 j) hA fun ac hA => st_s hA (Runs.callN (v := vB (upToE E (i) (j))) (fun _ => by kernel_rfl) hW (e_oupto m Ae ce E Ak ck C bg G bt T (i) (j) w4 ((hW).getG 6 rfl) ((hW).glt _ (List.mem_of_getElem? (i := 6) rfl)) (by first | omega | assumption | exact ⟨by omega, by omega⟩) (by first | omega | assumption | exact ⟨by omega, by omega⟩) (by first | omega | assumption | exact ⟨by omega, by omega⟩)) ?_); clear hA ac hW; intro w7 hW hfw7 ac hA
    refine st_p (vB (upToE E (i) (j))) hA fun ac hA => st_p (vB (upToE E (i) (j))) hA fun ac hA => wn <| wp_ret <| r1 (vB (upToE E (i) (j))) hA ?_
    clear hA
    exact ⟨retv (congrArg vB (by unfold befE; rw [decide_eq_true (by omega)]; rfl)), hW.fr⟩
   rw [h6] at hA
   have h6 := of_decide_eq_false h6
   refine st_k hA fun ac hA => st_k hA fun ac hA => st_k hA fun ac hA => st_k hA fun ac hA => st_k hA fun ac hA => st_k hA fun ac hA => st_p (vB false) hA fun ac hA => st_p (vB false) hA fun ac hA => wn <| wp_ret <| r1 (vB false) hA ?_
   clear hA
   exact ⟨retv (congrArg vB (by unfold befE; rw [decide_eq_false (by omega)]; rfl)), hW.fr⟩
  rw [h5] at hA
  have h5 := of_decide_eq_false h5
  refine st_k hA fun ac hA => st_k hA fun ac hA => st_k hA fun ac hA => st_p (vB false) hA fun ac hA => st_p (vB false) hA fun ac hA => st_k hA fun ac hA => st_k hA fun ac hA => st_k hA fun ac hA => st_k hA fun ac hA => st_k hA fun ac hA => st_k hA fun ac hA => st_p (vB false) hA fun ac hA => st_p (vB false) hA fun ac hA => wn <| wp_ret <| r1 (vB false) hA ?_
  clear hA
  exact ⟨retv (congrArg vB (by unfold befE; rw [decide_eq_false (by omega)]; rfl)), hW.fr⟩
 rw [h3] at hA
 have h3 := of_decide_eq_false h3
 refine st_k hA fun ac hA => st_k hA fun ac hA => st_k hA fun ac hA => st_k hA fun ac hA => st_k hA fun ac hA => st_p (vB false) hA fun ac hA => st_p (vB false) hA fun ac hA => st_k hA fun ac hA => st_k hA fun ac hA => st_k hA fun ac hA => st_p (vB false) hA fun ac hA => st_p (vB false) hA fun ac hA => st_k hA fun ac hA => st_k hA fun ac hA => st_k hA fun ac hA => st_k hA fun ac hA => st_k hA fun ac hA => st_k hA fun ac hA => st_p (vB false) hA fun ac hA => st_p (vB false) hA fun ac hA => wn <| wp_ret <| r1 (vB false) hA ?_
 clear hA
 exact ⟨retv (congrArg vB (by unfold befE; rw [decide_eq_false (by omega)]; rfl)), hW.fr⟩

set_option maxRecDepth 100000 in
theorem e_oapart (m : Nat) (Ae : Option Addr) (ce : Nat) (E : List Event) (Ak : Option Addr) (ck : Nat) (C : List SV) (bg : Nat) (G : List (Int × SV)) (bt : Nat) (T : List (Thing × SV)) (i : Int) (j : Int) (w : World) (ho_o : (OrdR m Ae ce E Ak ck C bg G bt T).p w) (hl_o : ∀ x_ ∈ (OrdR m Ae ce E Ak ck C bg G bt T).fp, x_ < w.heap.size) (hok : OrdOk E C G T) (hi : -9223372036854775808 ≤ i ∧ i ≤ 9223372036854775807) (hj : -9223372036854775808 ≤ j ∧ j ≤ 9223372036854775807) : Calls Tryz.prog 72 #[pA m 0, vI .i64 i, vI .i64 j] w (fun e w' => e = .returned (vB (apartE E i j)) ∧ Fr No w w') := by
 have _hu := ho_o; have _hv := hl_o; clear _hu _hv
 have _hu := hok; clear _hu
 have _hu := hi; clear _hu
 have _hu := hj; clear _hu
 have hlc_ := hok.clen; have hll_ := hok.len
 refine enter_E 43 Tryz.func72 rfl rfl (by kernel_rfl) (L := [(0, pA m 0), (1, vI .i64 i), (2, vI .i64 j)]) (by kernel_rfl) ?_
 intro ac hA
 have hW := Ws.start w No
 have hW := hW.addG (OrdR m Ae ce E Ak ck C bg G bt T) ho_o hl_o (by simp)
 have hW := hW.objG (L := [Cel m #[vS Ae E.length ce, vS Ak C.length ck, vM (some bg), vM (some bt)] 64, rowR 51 9 enEvent (vS Ae E.length ce) E, rowR 105 1 enSV (vS Ak C.length ck) C, mapR bg (fun a : Int => vI .i64 a) SV.v G, mapR bt Thing.v SV.v T, nestR innerSV (NV C G T)]) ho_o hl_o
 clear ho_o hl_o
 refine wr <| st_p (vB false) hA ?_; clear hA ac; intro ac hA
 refine wn <| wr <| st_p (pA m 0) hA ?_; clear hA ac; intro ac hA
 refine st_s hA (Runs.callN (v := vB false) (fun _ => by kernel_rfl) hW (e_onone m (vS Ae E.length ce) (vS Ak C.length ck) bg bt w (show _ = _ from (hW).getG 0 rfl)) ?_); clear hA ac hW; intro w1 hW hfw1 ac hA
 refine st_p (vB true) hA fun ac hA => st_p (vB true) hA fun ac hA => st_p (pA m 0) hA fun ac hA => st_p (pA m 0) hA fun ac hA => st_p (pA m 0) hA fun ac hA => st_p (vI .i64 i) hA fun ac hA => st_s hA (Runs.callN (v := vB (decide (0 ≤ (i) ∧ (i) < (E.length : Int)))) (fun _ => by kernel_rfl) hW (e_othere m Ae ce E Ak ck C bg G bt T (i) w1 ((hW).getG 6 rfl) ((hW).glt _ (List.mem_of_getElem? (i := 6) rfl)) (by first | omega | assumption | exact ⟨by omega, by omega⟩)) ?_); clear hA ac hW; intro w2 hW hfw2 ac hA
 refine st_p (vB (decide (0 ≤ (i) ∧ (i) < (E.length : Int)))) hA fun ac hA => st_p (vB (decide (0 ≤ (i) ∧ (i) < (E.length : Int)))) hA fun ac hA => ?_
 rcases Bool.eq_false_or_eq_true (decide (0 ≤ (i) ∧ (i) < (E.length : Int))) with h3 | h3
 ·
  rw [h3] at hA
  have h3 := of_decide_eq_true h3
  refine st_p (pA m 0) hA fun ac hA => st_p (pA m 0) hA fun ac hA => st_p (pA m 0) hA fun ac hA => st_p (vI .i64 j) hA fun ac hA => st_s hA (Runs.callN (v := vB (decide (0 ≤ (j) ∧ (j) < (E.length : Int)))) (fun _ => by kernel_rfl) hW (e_othere m Ae ce E Ak ck C bg G bt T (j) w2 ((hW).getG 6 rfl) ((hW).glt _ (List.mem_of_getElem? (i := 6) rfl)) (by first | omega | assumption | exact ⟨by omega, by omega⟩)) ?_); clear hA ac hW; intro w4 hW hfw4 ac hA
  refine st_p (vB (decide (0 ≤ (j) ∧ (j) < (E.length : Int)))) hA fun ac hA => st_p (vB (decide (0 ≤ (j) ∧ (j) < (E.length : Int)))) hA fun ac hA => ?_
  rcases Bool.eq_false_or_eq_true (decide (0 ≤ (j) ∧ (j) < (E.length : Int))) with h5 | h5
  ·
   rw [h5] at hA
   have h5 := of_decide_eq_true h5
   refine st_p (vI .i64 i) hA fun ac hA => st_p (vI .i64 j) hA fun ac hA => st_p (vB ((i : Int) != (j : Int))) hA fun ac hA => st_p (vB ((i : Int) != (j : Int))) hA fun ac hA => st_p (vB ((i : Int) != (j : Int))) hA fun ac hA => ?_
   rcases Bool.eq_false_or_eq_true ((i : Int) != (j : Int)) with h6 | h6
   ·
    rw [h6] at hA
    have h6 := bne_iff_ne.1 h6
    refine st_p (pA m 0) hA fun ac hA => st_p (vI .i64 i) hA fun ac hA => st_p (vI .i64 j) hA fun ac hA => st_s hA (Runs.callN (v := vB (befE E (i) (j))) (fun _ => by kernel_rfl) hW (e_obefore m Ae ce E Ak ck C bg G bt T (i) (j) w4 ((hW).getG 6 rfl) ((hW).glt _ (List.mem_of_getElem? (i := 6) rfl)) (by first | omega | assumption | exact ⟨by omega, by omega⟩) (by first | omega | assumption | exact ⟨by omega, by omega⟩) (by first | omega | assumption | exact ⟨by omega, by omega⟩)) ?_); clear hA ac hW; intro w7 hW hfw7 ac hA
    refine st_p (vB (!(befE E (i) (j)))) hA fun ac hA => st_p (vB (!(befE E (i) (j)))) hA fun ac hA => st_p (vB (!(befE E (i) (j)))) hA fun ac hA => ?_
    rcases Bool.eq_false_or_eq_true (!(befE E (i) (j))) with h8 | h8
    ·
     rw [h8] at hA
     have h8 := not_t h8
     refine st_p (pA m 0) hA fun ac hA => st_p (vI .i64 j) hA fun ac hA => st_p (vI .i64 i) hA fun ac hA => st_s hA (Runs.callN (v := vB (befE E (j) (i))) (fun _ => by kernel_rfl) hW (e_obefore m Ae ce E Ak ck C bg G bt T (j) (i) w7 ((hW).getG 6 rfl) ((hW).glt _ (List.mem_of_getElem? (i := 6) rfl)) (by first | omega | assumption | exact ⟨by omega, by omega⟩) (by first | omega | assumption | exact ⟨by omega, by omega⟩) (by first | omega | assumption | exact ⟨by omega, by omega⟩)) ?_); clear hA ac hW; intro w9 hW hfw9 ac hA
     refine st_p (vB (!(befE E (j) (i)))) hA fun ac hA => st_p (vB (!(befE E (j) (i)))) hA fun ac hA => st_p (vB (!(befE E (j) (i)))) hA fun ac hA => wn <| wp_ret <| r1 (vB (!(befE E (j) (i)))) hA ?_
     clear hA
     exact ⟨retv (congrArg vB (by unfold apartE; rw [decide_eq_true (by omega)]; rw [h8]; rfl)), hW.fr⟩
    rw [h8] at hA
    have h8 := not_f h8
    refine st_k hA fun ac hA => st_k hA fun ac hA => st_k hA fun ac hA => st_k hA fun ac hA => st_k hA fun ac hA => st_p (vB false) hA fun ac hA => st_p (vB false) hA fun ac hA => wn <| wp_ret <| r1 (vB false) hA ?_
    clear hA
    exact ⟨retv (congrArg vB (by unfold apartE; rw [h8]; simp)), hW.fr⟩
   rw [h6] at hA
   have h6 := of_bne_f h6
   refine st_k hA fun ac hA => st_k hA fun ac hA => st_k hA fun ac hA => st_k hA fun ac hA => st_k hA fun ac hA => st_p (vB false) hA fun ac hA => st_p (vB false) hA fun ac hA => st_k hA fun ac hA => st_k hA fun ac hA => st_k hA fun ac hA => st_k hA fun ac hA => st_k hA fun ac hA => st_p (vB false) hA fun ac hA => st_p (vB false) hA fun ac hA => wn <| wp_ret <| r1 (vB false) hA ?_
   clear hA
   exact ⟨retv (congrArg vB (by unfold apartE; rw [decide_eq_false (by omega)]; rfl)), hW.fr⟩
  rw [h5] at hA
  have h5 := of_decide_eq_false h5
  refine st_k hA fun ac hA => st_k hA fun ac hA => st_k hA fun ac hA => st_p (vB false) hA fun ac hA => st_p (vB false) hA fun ac hA => st_k hA fun ac hA => st_k hA fun ac hA => st_k hA fun ac hA => st_k hA fun ac hA => st_k hA fun ac hA => st_p (vB false) hA fun ac hA => st_p (vB false) hA fun ac hA => st_k hA fun ac hA => st_k hA fun ac hA => st_k hA fun ac hA => st_k hA fun ac hA => st_k hA fun ac hA => st_p (vB false) hA fun ac hA => st_p (vB false) hA fun ac hA => wn <| wp_ret <| r1 (vB false) hA ?_
  clear hA
  exact ⟨retv (congrArg vB (by unfold apartE; rw [decide_eq_false (by omega)]; rfl)), hW.fr⟩
 rw [h3] at hA
 have h3 := of_decide_eq_false h3
 refine st_k hA fun ac hA => st_k hA fun ac hA => st_k hA fun ac hA => st_k hA fun ac hA => st_k hA fun ac hA => st_p (vB false) hA fun ac hA => st_p (vB false) hA fun ac hA => st_k hA fun ac hA => st_k hA fun ac hA => st_k hA fun ac hA => st_p (vB false) hA fun ac hA => st_p (vB false) hA fun ac hA => st_k hA fun ac hA => st_k hA fun ac hA => st_k hA fun ac hA => st_k hA fun ac hA => st_k hA fun ac hA => st_p (vB false) hA fun ac hA => st_p (vB false) hA fun ac hA => st_k hA fun ac hA => st_k hA fun ac hA => st_k hA fun ac hA => st_k hA fun ac hA => st_k hA fun ac hA => st_p (vB false) hA fun ac hA => st_p (vB false) hA fun ac hA => wn <| wp_ret <| r1 (vB false) hA ?_
 clear hA
 exact ⟨retv (congrArg vB (by unfold apartE; rw [decide_eq_false (by omega)]; rfl)), hW.fr⟩

set_option maxRecDepth 100000 in
theorem e_olen (m : Nat) (Ae : Option Addr) (ce : Nat) (E : List Event) (Ak : Option Addr) (ck : Nat) (C : List SV) (bg : Nat) (G : List (Int × SV)) (bt : Nat) (T : List (Thing × SV)) (w : World) (ho_o : (OrdR m Ae ce E Ak ck C bg G bt T).p w) (hl_o : ∀ x_ ∈ (OrdR m Ae ce E Ak ck C bg G bt T).fp, x_ < w.heap.size) (hl : E.length ≤ 4096) : Calls Tryz.prog 24 #[pA m 0] w (fun e w' => e = .returned (vI .i64 (E.length : Int)) ∧ Fr No w w') := by
 have _hu := ho_o; have _hv := hl_o; clear _hu _hv
 have _hu := hl; clear _hu
 refine enter_E 11 Tryz.func24 rfl rfl (by kernel_rfl) (L := [(0, pA m 0)]) (by kernel_rfl) ?_
 intro ac hA
 have hW := Ws.start w No
 have hW := hW.addG (OrdR m Ae ce E Ak ck C bg G bt T) ho_o hl_o (by simp)
 have hW := hW.objG (L := [Cel m #[vS Ae E.length ce, vS Ak C.length ck, vM (some bg), vM (some bt)] 64, rowR 51 9 enEvent (vS Ae E.length ce) E, rowR 105 1 enSV (vS Ak C.length ck) C, mapR bg (fun a : Int => vI .i64 a) SV.v G, mapR bt Thing.v SV.v T, nestR innerSV (NV C G T)]) ho_o hl_o
 clear ho_o hl_o
 refine wr <| st_p (vI .i64 0) hA ?_; clear hA ac; intro ac hA
 refine wn <| wp_seq <| wr <| st_p (pA m 0) hA ?_; clear hA ac; intro ac hA
 refine st_s hA (Runs.callN (v := vB false) (fun _ => by kernel_rfl) hW (e_onone m (vS Ae E.length ce) (vS Ak C.length ck) bg bt w (show _ = _ from (hW).getG 0 rfl)) ?_); clear hA ac hW; intro w1 hW hfw1 ac hA
 refine wn <| wp_cond_false (hA.eval (by kernel_rfl)) <| wp_skip <| thenN <| wr <| st_p (pA m 0) hA fun ac hA => st_p (pA m 0) hA fun ac hA => st_p (pA m 0) hA fun ac hA => st_p (pA m 0) hA fun ac hA => st_q (vS Ae E.length ce) hA hW.cls (Rd.load (b := m) (i := 0) (by kernel_rfl) (fun _ hw => show _ = _ from (hw.1).getG 0 rfl) (by kernel_rfl)) fun ac hA => st_p (vI .i64 (E.length : Int)) hA fun ac hA => st_p (vI .i64 (E.length : Int)) hA fun ac hA => wn <| wp_ret <| r1 (vI .i64 (E.length : Int)) hA ?_
 clear hA
 exact ⟨retv (by rfl), hW.fr⟩

set_option maxRecDepth 100000 in
theorem e_oevent (m : Nat) (Ae : Option Addr) (ce : Nat) (E : List Event) (Ak : Option Addr) (ck : Nat) (C : List SV) (bg : Nat) (G : List (Int × SV)) (bt : Nat) (T : List (Thing × SV)) (i : Int) (w : World) (ho_o : (OrdR m Ae ce E Ak ck C bg G bt T).p w) (hl_o : ∀ x_ ∈ (OrdR m Ae ce E Ak ck C bg G bt T).fp, x_ < w.heap.size) (hl : E.length ≤ 4096) (hi : -9223372036854775808 ≤ i ∧ i ≤ 9223372036854775807) : Calls Tryz.prog 68 #[pA m 0, vI .i64 i] w (fun e w' => e = .returned (vT #[(evAt E i).v, vB (decide (0 ≤ i ∧ i < (E.length : Int)))]) ∧ Fr No w w') := by
 have _hu := ho_o; have _hv := hl_o; clear _hu _hv
 have _hu := hl; clear _hu
 have _hu := hi; clear _hu
 refine enter_E 25 Tryz.func68 rfl rfl (by kernel_rfl) (L := [(0, pA m 0), (1, vI .i64 i)]) (by kernel_rfl) ?_
 intro ac hA
 have hW := Ws.start w No
 have hW := hW.addG (OrdR m Ae ce E Ak ck C bg G bt T) ho_o hl_o (by simp)
 have hW := hW.objG (L := [Cel m #[vS Ae E.length ce, vS Ak C.length ck, vM (some bg), vM (some bt)] 64, rowR 51 9 enEvent (vS Ae E.length ce) E, rowR 105 1 enSV (vS Ak C.length ck) C, mapR bg (fun a : Int => vI .i64 a) SV.v G, mapR bt Thing.v SV.v T, nestR innerSV (NV C G T)]) ho_o hl_o
 clear ho_o hl_o
 refine wr <| st_s hA (Runs.cells (fun b => pA b 0) #[vI .i64 0, vI .i64 0, vI .i64 0, vI .i64 0, vI .u32 0, vI .i64 0, vI .i64 0, vI .i64 0, vI .i64 0] 51 (fun _ => by kernel_rfl) hW ?_); clear hA ac hW; intro b1 w2 hW hb1 hfw2 ac hA
 refine st_p (vB false) hA ?_; clear hA ac; intro ac hA
 refine wn <| wp_seq <| wr <| st_p (pA m 0) hA ?_; clear hA ac; intro ac hA
 refine st_s hA (Runs.callN (v := vB false) (fun _ => by kernel_rfl) hW (e_onone m (vS Ae E.length ce) (vS Ak C.length ck) bg bt w2 (show _ = _ from (hW).getG 0 rfl)) ?_); clear hA ac hW; intro w3 hW hfw3 ac hA
 refine st_p (vB false) hA fun ac hA => st_p (pA m 0) hA fun ac hA => st_p (pA m 0) hA fun ac hA => st_p (pA m 0) hA fun ac hA => st_p (vI .i64 i) hA fun ac hA => st_s hA (Runs.callN (v := vB (decide (0 ≤ (i) ∧ (i) < (E.length : Int)))) (fun _ => by kernel_rfl) hW (e_othere m Ae ce E Ak ck C bg G bt T (i) w3 ((hW).getG 6 rfl) ((hW).glt _ (List.mem_of_getElem? (i := 6) rfl)) (by first | omega | assumption | exact ⟨by omega, by omega⟩)) ?_); clear hA ac hW; intro w4 hW hfw4 ac hA
 refine st_p (vB (!(decide (0 ≤ (i) ∧ (i) < (E.length : Int))))) hA fun ac hA => st_p (vB (!(decide (0 ≤ (i) ∧ (i) < (E.length : Int))))) hA fun ac hA => wn <| wp_cond_split (t := !(decide (0 ≤ (i) ∧ (i) < (E.length : Int)))) (hA.eval (by kernel_rfl)) (fun h5 => ?_) (fun h5 => ?_)
 ·
  have h5 := not_t h5
  have h5 := of_decide_eq_false h5
  refine wr <| st_p (vA #[vI .i64 0, vI .i64 0, vI .i64 0, vI .i64 0, vI .u32 0, vI .i64 0, vI .i64 0, vI .i64 0, vI .i64 0]) hA ?_; clear hA ac; intro ac hA
  refine st_s hA (Runs.store (v := vA #[vI .i64 0, vI .i64 0, vI .i64 0, vI .i64 0, vI .u32 0, vI .i64 0, vI .i64 0, vI .i64 0, vI .i64 0]) (b := b1) (j := 0) (n := 9) (cs' := #[vI .i64 0, vI .i64 0, vI .i64 0, vI .i64 0, vI .u32 0, vI .i64 0, vI .i64 0, vI .i64 0, vI .i64 0]) (H' := [Cel b1 #[vI .i64 0, vI .i64 0, vI .i64 0, vI .i64 0, vI .u32 0, vI .i64 0, vI .i64 0, vI .i64 0, vI .i64 0] 51]) (by kernel_rfl) (by kernel_rfl) (by kernel_rfl) (by kernel_rfl) (by kernel_rfl) hW 0 (by rfl) (Nat.le_of_ble_eq_true (by kernel_rfl)) (by kernel_rfl) (by rfl) ?_); clear hA ac hW; intro w6 hW ac hA
  refine st_p (vB false) hA ?_; clear hA ac; intro ac hA
  refine wn <| wp_ret <| thenR <| ret2 (v1 := vA #[vI .i64 0, vI .i64 0, vI .i64 0, vI .i64 0, vI .u32 0, vI .i64 0, vI .i64 0, vI .i64 0, vI .i64 0]) (v2 := vB false) (by rfl) hA (Got.cell (b := b1) (i := 0) hA (by kernel_rfl) (by kernel_rfl) (hW.cel 0 rfl) (by kernel_rfl)) (Got.tmp hA (by kernel_rfl) (by kernel_rfl)) ?_
  clear hA
  exact ⟨retv (by rw [evAt_no (by omega), decide_eq_false (show ¬ (0 ≤ i ∧ i < (E.length : Int)) from by omega)]; rfl), hW.fr⟩
 have h5 := not_f h5
 have h5 := of_decide_eq_true h5
 refine wp_skip <| thenN <| wr <| st_p (pA m 0) hA fun ac hA => st_p (pA m 0) hA fun ac hA => st_p (pA m 0) hA fun ac hA => st_p (pA m 0) hA fun ac hA => st_q (vS Ae E.length ce) hA hW.cls (Rd.load (b := m) (i := 0) (by kernel_rfl) (fun _ hw => show _ = _ from (hw.1).getG 0 rfl) (by kernel_rfl)) fun ac hA => st_p (vI .i64 i) hA fun ac hA => ?_
 obtain ⟨y7, hy7⟩ : ∃ y, E[Int.toNat (i)]? = some y := ⟨_, List.getElem?_eq_getElem (by first | omega | (simp; done) | (simp; omega))⟩
 obtain ⟨b8, o9, rfl, hbb8⟩ := row_some (rowR_at (E := 51) ((hW).getG 1 rfl) elt_Event.len) hy7
 refine st_q (vP (some ⟨b8, o9 + (Int.toNat (i)) * 9, none⟩)) hA hW.cls (Rd.indexAddrI (e := 51) (sz := 9) (b := b8) (off := o9) (n := E.length) (c := ce) (k := i) (by kernel_rfl) (by kernel_rfl) (by omega) (by first | omega | (simp; done) | (simp; omega)) (fun _ => by kernel_rfl) (fun _ => by kernel_rfl)) fun ac hA => st_q (vA #[vI .i64 y7.g, vI .i64 y7.kind, vI .i64 y7.site.f, vI .i64 y7.site.pc, vI .u32 y7.addr, vI .i64 y7.child, vI .i64 y7.obj, vI .i64 y7.n, vI .i64 y7.trap]) hA hW.cls (Rd.loadRow (b := b8) (i := o9 + (Int.toNat (i)) * 9) (xs := [vI .i64 y7.g, vI .i64 y7.kind, vI .i64 y7.site.f, vI .i64 y7.site.pc, vI .u32 y7.addr, vI .i64 y7.child, vI .i64 y7.obj, vI .i64 y7.n, vI .i64 y7.trap]) (by kernel_rfl) (fun _ hw => row_ld (rowR_at (E := 51) ((hw.1).getG 1 rfl) elt_Event.len) hy7 (Fr.refl No _) (fun h => h) 0 9 (by kernel_rfl)) (by kernel_rfl)) fun ac hA => st_s hA (Runs.store (v := vA #[vI .i64 y7.g, vI .i64 y7.kind, vI .i64 y7.site.f, vI .i64 y7.site.pc, vI .u32 y7.addr, vI .i64 y7.child, vI .i64 y7.obj, vI .i64 y7.n, vI .i64 y7.trap]) (b := b1) (j := 0) (n := 9) (cs' := #[vI .i64 y7.g, vI .i64 y7.kind, vI .i64 y7.site.f, vI .i64 y7.site.pc, vI .u32 y7.addr, vI .i64 y7.child, vI .i64 y7.obj, vI .i64 y7.n, vI .i64 y7.trap]) (H' := [Cel b1 #[vI .i64 y7.g, vI .i64 y7.kind, vI .i64 y7.site.f, vI .i64 y7.site.pc, vI .u32 y7.addr, vI .i64 y7.child, vI .i64 y7.obj, vI .i64 y7.n, vI .i64 y7.trap] 51]) (by kernel_rfl) (by kernel_rfl) (by kernel_rfl) (by kernel_rfl) (by kernel_rfl) hW 0 (by rfl) (Nat.le_of_ble_eq_true (by kernel_rfl)) (by kernel_rfl) (by rfl) ?_); clear hA ac hW; intro w10 hW ac hA
 refine st_p (vB true) hA ?_; clear hA ac; intro ac hA
 refine wn <| wp_ret <| ret2 (v1 := vA #[vI .i64 y7.g, vI .i64 y7.kind, vI .i64 y7.site.f, vI .i64 y7.site.pc, vI .u32 y7.addr, vI .i64 y7.child, vI .i64 y7.obj, vI .i64 y7.n, vI .i64 y7.trap]) (v2 := vB true) (by rfl) hA (Got.cell (b := b1) (i := 0) hA (by kernel_rfl) (by kernel_rfl) (hW.cel 0 rfl) (by kernel_rfl)) (Got.tmp hA (by kernel_rfl) (by kernel_rfl)) ?_
 clear hA
 exact ⟨retv (by rw [evAt_yes (by omega) hy7, decide_eq_true (show 0 ≤ i ∧ i < (E.length : Int) from by omega)]; rfl), hW.fr⟩


end Go.Proofs.YtfkbjfbbigbacaaGreatDoor.L
