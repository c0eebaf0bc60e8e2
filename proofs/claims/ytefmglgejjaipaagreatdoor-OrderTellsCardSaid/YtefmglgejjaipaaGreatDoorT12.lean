/- Contracts, walked by program over the engine's laws. -/
import Derived.Test.YtefmglgejjaipaaGreatDoorProg
import Derived.Test.YtefmglgejjaipaaGreatDoorT11
namespace Go.Proofs.YtefmglgejjaipaaGreatDoor.L
open Go.RowKit
open Go.Value renaming int → vI, slice → vS, bool → vB, pointer → vP, func → vF, agg → vA, map → vM, tuple → vT

theorem clear0 {P : Program} {t E : TypeId} (hu : P.underlying t = some (.slice E)) (A : Option Addr) (cc : Nat) (ty : TypeId) (w : World) : (Builtin.clear_ #[t] ty #[.slice A 0 cc]).run P w = .ok (.tuple #[]) w := by
  cases A <;> simp [Builtin.clear_, run_underlying hu]
theorem zero_cells {z : Value} (hz : z.cells = #[z]) (n : Nat) : (Builtin.zeroCells z.cells n).toList = List.replicate n z := by
  rw [hz]
  simp [Builtin.zeroCells]
  apply List.ext_getElem
  · simp
  · intro i h1 h2
    simp [Nat.mod_one]
theorem Runs.clearTail {α : Type} {P : Program} {ρ : Operand → Value} {w w0 : World} {S : Nat → Prop} {H G : List Res} {Φ : Value → World → Prop} {d : Option Tmp} {ty : TypeId} {pos : String} {aft : Array Edge} {g : Option (Nat × Bool)} {E : TypeId} {en : α → List Value} {t : TypeId} {x : Operand} {b off c n k i cc : Nat} {l : List α} {z : Value} (hlen : ∀ x, (en x).length = 1)
    (hx : ρ x = .slice (if c = k then some ⟨b, off, none⟩ else Option.map (fun a_ => Addr.add a_ (k * 1)) (some ⟨b, off, none⟩)) (l.drop k).length cc) (hu : P.underlying t = some (.slice E)) (hz : ∀ w, (zeroValue E).run P w = .ok z w) (h1 : z.cells = #[z] ∧ z.oneCell' = true)
    (hW : Ws w0 S H G w) (hi : H[i]? = some (rowR E 1 en (.slice (some ⟨b, off, none⟩) n c) l)) (hn : n = l.length) (hk : k ≤ l.length)
    (next : ∀ w', Ws w0 S (H.set i (rowR E 1 en (.slice (some ⟨b, off, none⟩) (l.take k).length c) (l.take k))) G w' → Φ (.tuple #[]) w') : Runs P ρ ⟨d, .call ⟨.builtin .clear, #[x], #[t]⟩, ty, pos, aft, g⟩ w Φ := by
  subst hn
  have hown : w.ownsRow 0 E 1 (.slice (some ⟨b, off, none⟩) l.length c) l.length (flat en l) := hW.get i hi
  have hcut := rowR_take (k := k) hlen rfl hown
  obtain ⟨w', hcl, hfr, hp⟩ : ∃ w', (Builtin.clear_ #[t] ty #[ρ x]).run P w = .ok (.tuple #[]) w' ∧ Fr (· = b) w w' ∧ (rowR E 1 en (.slice (some ⟨b, off, none⟩) (l.take k).length c) (l.take k)).p w' := by
    by_cases hkl : k = l.length
    · refine ⟨w, ?_, Fr.refl _ w, hcut⟩
      have hl0 : (l.drop k).length = 0 := by rw [List.length_drop]; omega
      rw [hx, hl0]; exact clear0 hu _ _ _ _
    · rcases hown.2 with ⟨h', _⟩ | ⟨g', cap, cur, h', hb, hg, hnc, hcm, hcs, htake⟩
      · cases h'
      · cases h'
        have hdl : (l.drop k).length = l.length - k := List.length_drop
        obtain ⟨w', r1, r2, r3⟩ := run_storeCells (P := P) (List.replicate (l.length - k) z) (0 + k * 1) 0 cur w hg (by simp; omega) (fun u hu' => by rw [List.eq_of_mem_replicate hu']; exact h1.2)
        refine ⟨w', ?_, r3, ?_⟩
        · rw [hx, hdl, if_neg (by omega), Option.map_some, add_mk]
          obtain ⟨m, hm⟩ : ∃ m, l.length - k = m + 1 := ⟨l.length - k - 1, by omega⟩
          rw [hm] at r1 ⊢
          have hzc := zero_cells h1.1 (m + 1)
          simp only [Nat.zero_add, Nat.mul_one] at r1
          simp [Builtin.clear_, run_underlying hu, hz, hzc, r1]
        · refine ⟨flat_len hlen _, .inr ⟨b, c, putC cur (0 + k * 1 + 0) (List.replicate (l.length - k) z), rfl, Nat.zero_le _, by simpa using r2, by rw [List.length_take]; omega, hcm, by rw [putC_size, hcs], ?_⟩⟩
          have hcut2 : cur.toList.take ((l.take k).length * 1) = flat en (l.take k) := by
            have e : flat en l = flat en (l.take k) ++ flat en (l.drop k) := by rw [← flat_app, List.take_append_drop]
            have hk' : (flat en (l.take k)).length = (l.take k).length * 1 := flat_len hlen _
            have h7 := congrArg (List.take ((l.take k).length * 1)) htake
            rw [List.take_take, Nat.min_eq_left (Nat.mul_le_mul_right _ (by rw [List.length_take]; omega)), e, List.take_left' hk'] at h7
            exact h7
          rw [← hcut2]
          refine List.ext_getElem? fun q => ?_
          rw [List.getElem?_take, List.getElem?_take, Array.getElem?_toList, Array.getElem?_toList, putC_get _ _ _ _ (by simp; omega)]
          by_cases hq : q < (l.take k).length * 1
          · rw [if_pos hq, if_pos hq, if_neg (by rw [List.length_take] at hq; omega)]
          · rw [if_neg hq, if_neg hq]
  have hrun : (execOp ρ ⟨d, .call ⟨.builtin .clear, #[x], #[t]⟩, ty, pos, aft, g⟩).run P w = .ok (.value (.tuple #[])) w' := by
    show (do let d ← resolve ρ ⟨.builtin .clear, #[x], #[t]⟩ ty; invoke d.target d.args : Sem Next).run P w = _
    simp only [resolve, invoke, builtin, Sem.run_bind, Sem.run_pure, Result.andThen_ok, List.map_toArray, List.map_cons, List.map_nil, hcl]
  unfold Runs; rw [hrun]
  exact next w' (hW.turn (r' := rowR E 1 en (.slice (some ⟨b, off, none⟩) (l.take k).length c) (l.take k)) i hi (hfr.mono fun j _ e => by subst e; simp [rowR, Value.ownBlock]) hp (fun x' hx' => ⟨.inl hx', by
    have := hW.lt _ (List.mem_of_getElem? hi) x' hx'; exact Nat.lt_of_lt_of_le this hfr.size⟩) rfl)
/-- Which are close to one. -/
def closeL (E : List Event) (j : Int) : List Int := (siftL E j.toNat j).filter fun i => !(siftL E j.toNat j).any fun k => befE E i k
theorem filt_snoc {p : Int → Bool} {l : List Int} {k : Nat} {y : Int} (h : l[k]? = some y) : (l.take (k + 1)).filter p = (l.take k).filter p ++ if p y = true then [y] else [] := by
  rw [tk_snoc h, List.filter_append]; congr 1
  by_cases q : p y = true
  · rw [if_pos q]; simp [q]
  · rw [if_neg q]; simp [q]
theorem filt_all {p q : Int → Bool} {l : List Int} {k : Nat} (hn : ∀ x ∈ l.take k, q x = false) (hp : ∀ x, p x = !q x) : (l.take k).filter p = l.take k := List.filter_eq_self.2 (fun x hx => by rw [hp, hn x hx]; rfl)
theorem set_app {d f : List Int} {y : Int} (ht : d.take f.length = f) (hl : f.length < d.length) : (d.set f.length y).take (f.length + 1) = f ++ [y] := by
  rw [List.take_add_one, List.take_set_of_le (Nat.le_refl _), ht, List.getElem?_set_self hl]; rfl
theorem set_at {d l : List Int} {i n : Nat} {y : Int} (hd : ∀ q, n ≤ q → d[q]? = l[q]?) (hi : i < n) : ∀ q, n ≤ q → (d.set i y)[q]? = l[q]? := fun q hq => by rw [List.getElem?_set_ne (by omega)]; exact hd q hq
theorem filt_le {p : Int → Bool} (l : List Int) (n : Nat) : ((l.take n).filter p).length ≤ n := Nat.le_trans (List.length_filter_le _ _) (by rw [List.length_take]; omega)
def ownI (A : Option Addr) (c : Nat) (l : List Int) : Res := rowR 3 1 enI64 (.slice A l.length c) l
theorem idx_of {p : Int → Bool} {l : List Int} (h : ¬ idxP p l = -1) : ∃ i : Nat, idxP p l = (i : Int) ∧ i < l.length ∧ (∀ x ∈ l.take i, p x = false) ∧ ∃ y, l[i]? = some y ∧ p y = true := by
  unfold idxP at h ⊢
  cases e : l.findIdx? p with
  | none => rw [e] at h; exact absurd rfl h
  | some i =>
    rw [List.findIdx?_eq_some_iff_getElem] at e
    obtain ⟨hlt, hp, hn⟩ := e
    refine ⟨i, rfl, hlt, fun x hx => ?_, _, List.getElem?_eq_getElem hlt, hp⟩
    obtain ⟨j, hj, rfl⟩ := List.mem_iff_getElem.1 hx
    rw [List.length_take] at hj
    simpa using hn j (by omega)
theorem idx_neg {p : Int → Bool} {l : List Int} (h : idxP p l = -1) : ∀ x ∈ l, p x = false := by
  unfold idxP at h
  cases e : l.findIdx? p with
  | none => exact List.findIdx?_eq_none_iff.1 e
  | some i => rw [e] at h; have h : (i : Int) = -1 := h; omega
set_option maxRecDepth 100000 in
theorem e_ob1 (k : Int) (m : Nat) (Ae : Option Addr) (ce : Nat) (E : List Event) (Ak : Option Addr) (ck : Nat) (C : List SV) (bg : Nat) (G : List (Int × SV)) (bt : Nat) (T : List (Thing × SV)) (bo : Nat) (bi : Nat) (i : Int) (w : World) (ho_boo : (OrdR m Ae ce E Ak ck C bg G bt T).p w) (hl_boo : ∀ x_ ∈ (OrdR m Ae ce E Ak ck C bg G bt T).fp, x_ < w.heap.size) (ho_bo : w.heap[bo]? = some (.cells #[pA m 0] 25 (0, 0))) (ho_bi : w.heap[bi]? = some (.cells #[vI .i64 i] 3 (0, 0))) (hok : OrdOk E C G T) (hi : -9223372036854775808 ≤ i ∧ i ≤ 9223372036854775807) (hk : -9223372036854775808 ≤ k ∧ k ≤ 9223372036854775807) : Calls Tryz.prog 54 #[vI .i64 k, pA bo 0, pA bi 0] w (fun e w' => e = .returned (vB (befE E i k)) ∧ Fr No w w') := by
 have _hu := ho_bo; clear _hu
 have _hu := ho_bi; clear _hu
 have _hu := ho_boo; have _hv := hl_boo; clear _hu _hv
 have _hu := hok; clear _hu
 have _hu := hi; clear _hu
 have _hu := hk; clear _hu
 refine enter_E 9 Tryz.func54 rfl rfl (by kernel_rfl) (L := [(0, vI .i64 k), (1, pA bo 0), (2, pA bi 0)]) (by kernel_rfl) ?_
 intro ac hA
 have hW := Ws.start w No
 have hW := hW.celG ho_bo
 have hW := hW.celG ho_bi
 have hW := hW.addG (OrdR m Ae ce E Ak ck C bg G bt T) ho_boo hl_boo (by simp)
 clear ho_boo hl_boo
 refine wr <| st_p (vB false) hA ?_; clear hA ac; intro ac hA
 refine wn <| wr <| st_q (pA m 0) hA hW.cls (Rd.load (b := bo) (i := 0) (by kernel_rfl) (fun _ hw => show _ = _ from (hw.1).getG 2 rfl) (by kernel_rfl)) fun ac hA => st_q (vI .i64 i) hA hW.cls (Rd.load (b := bi) (i := 0) (by kernel_rfl) (fun _ hw => show _ = _ from (hw.1).getG 1 rfl) (by kernel_rfl)) fun ac hA => st_p (vI .i64 k) hA fun ac hA => st_s hA (Runs.callN (v := vB (befE E (i) (k))) (fun _ => by kernel_rfl) hW (e_obefore m Ae ce E Ak ck C bg G bt T (i) (k) w ((hW).getG 0 rfl) ((hW).glt _ (List.mem_of_getElem? (i := 0) rfl)) (by first | omega | assumption | exact ⟨by omega, by omega⟩) (by first | omega | assumption | exact ⟨by omega, by omega⟩) (by first | omega | assumption | exact ⟨by omega, by omega⟩)) ?_); clear hA ac hW; intro w1 hW hfw1 ac hA
 refine st_p (vB (befE E (i) (k))) hA ?_; clear hA ac; intro ac hA
 refine wn <| wp_ret <| r1 (vB (befE E (i) (k))) hA ?_
 clear hA
 exact ⟨retv (by rfl), hW.fr⟩

set_option maxRecDepth 100000 in
theorem e_iclone (A_l : Option Addr) (c_l : Nat) (l : List Int) (w : World) (hr_l : RowAt w A_l 1 enI64 l) (hc_l : l.length ≤ c_l) (hl : l.length ≤ 500000) : Calls Tryz.prog 51 #[vS A_l l.length c_l] w (Fresh 3 1 enI64 l w) := by
 have _hu := hc_l; have _hv := hr_l; clear _hu _hv
 have _hu := hl; clear _hu
 refine enter_E 8 Tryz.func51 rfl rfl (by kernel_rfl) (L := [(0, vS A_l l.length c_l)]) (by kernel_rfl) ?_
 intro ac hA
 have hW := Ws.start w No
 have hW := hW.arg hr_l
 refine wr <| st_p (vS none 0 0) hA ?_; clear hA ac; intro ac hA
 refine wn <| wp_seq <| wr <| st_p (vS A_l l.length c_l) hA fun ac hA => st_q (vB (Option.isNone A_l)) hA hW.cls (Rd.pure fun _ => by cases A_l <;> kernel_rfl) fun ac hA => wn <| wp_cond_split (t := Option.isNone A_l) (hA.eval (by kernel_rfl)) (fun h1 => ?_) (fun h1 => ?_)
 ·
  obtain rfl : A_l = none := Option.isNone_iff_eq_none.1 h1
  have hnil := row_nil ((hW).getG 0 rfl)
  first
  | (exfalso; clear hA hW; omega)
  | (
   refine wr <| st_p (vS none 0 0) hA ?_; clear hA ac; intro ac hA
   refine wn <| wp_ret <| thenR <| r1 (vS none 0 0) hA ?_
   clear hA
   refine ⟨_, rfl, ?_, hW.fr⟩
   rw [hnil]; exact World.ownsRow_nil _ _ _ _)
 first
 | (exfalso; clear hA hW; omega)
 | (
  refine wp_skip <| thenN <| wr <| st_s hA (Runs.cells (fun b => vS (some ⟨b, 0, none⟩) 0 0) #[] 3 (fun _ => by kernel_rfl) hW ?_); clear hA ac hW; intro b2 w3 hW hb2 hfw3 ac hA
  refine st_p (vS A_l l.length c_l) hA ?_; clear hA ac; intro ac hA
  have hW := hW.celRow (en := enI64) (H' := [rowR 3 1 enI64 (vS (some ⟨b2, 0, none⟩) ([] : List Int).length ([] : List Int).length) ([] : List Int)]) 0 rfl ([] : List Int) (by rfl) elt_I64.len (by decide) rfl
  refine st_s hA (Runs.appOwn (B := A_l) (k := c_l) (E := 3) (sz := 1) (en := enI64) (l := ([] : List Int)) (m := l) (i := 0) (by kernel_rfl) (by kernel_rfl) elt_I64 (by kernel_rfl) hW rfl ((hW).getG 0 rfl) (by first | omega | (simp; done) | (simp; omega)) (by first | omega | (simp; done) | (simp; omega)) ?_); clear hA ac hW; intro A5 c6 w7 hW hcc6 ac hA
  refine st_p (vS A5 (([] : List Int) ++ l).length c6) hA ?_; clear hA ac; intro ac hA
  refine wn <| wp_ret <| r1 (vS A5 (([] : List Int) ++ l).length c6) hA ?_
  clear hA
  refine ⟨_, rfl, ?_, hW.fr⟩
  exact hW.fresh 0 rfl (fun _ h => h))

set_option maxRecDepth 100000 in
theorem e_idxOI (A_l : Option Addr) (c_l : Nat) (l : List Int) (m : Nat) (Ae : Option Addr) (ce : Nat) (E : List Event) (Ak : Option Addr) (ck : Nat) (C : List SV) (bg : Nat) (G : List (Int × SV)) (bt : Nat) (T : List (Thing × SV)) (bo : Nat) (bi : Nat) (i : Int) (w : World) (hr_l : RowAt w A_l 1 enI64 l) (hc_l : l.length ≤ c_l) (ho_boo : (OrdR m Ae ce E Ak ck C bg G bt T).p w) (hl_boo : ∀ x_ ∈ (OrdR m Ae ce E Ak ck C bg G bt T).fp, x_ < w.heap.size) (ho_bo : w.heap[bo]? = some (.cells #[pA m 0] 25 (0, 0))) (ho_bi : w.heap[bi]? = some (.cells #[vI .i64 i] 3 (0, 0))) (hl : l.length ≤ 500000) (hbd : ∀ x ∈ l, 0 ≤ x ∧ x ≤ 100000) (hok : OrdOk E C G T) (hi : -9223372036854775808 ≤ i ∧ i ≤ 9223372036854775807) : Calls Tryz.prog 65 #[vS A_l l.length c_l, vF (.func 54) #[] #[pA bo 0, pA bi 0]] w (fun e w' => e = .returned (vI .i64 (idxP (fun k => befE E i k) l)) ∧ Fr No w w') := by
 have _hu := hc_l; have _hv := hr_l; clear _hu _hv
 have _hu := ho_bo; clear _hu
 have _hu := ho_bi; clear _hu
 have _hu := ho_boo; have _hv := hl_boo; clear _hu _hv
 have _hu := hl; clear _hu
 have _hu := hbd; clear _hu
 have _hu := hok; clear _hu
 have _hu := hi; clear _hu
 refine enter_E 19 Tryz.func65 rfl rfl (by kernel_rfl) (L := [(0, vS A_l l.length c_l), (1, vF (.func 54) #[] #[pA bo 0, pA bi 0])]) (by kernel_rfl) ?_
 intro ac hA
 have hW := Ws.start w No
 have hW := hW.arg hr_l
 have hW := hW.celG ho_bo
 have hW := hW.celG ho_bi
 have hW := hW.addG (OrdR m Ae ce E Ak ck C bg G bt T) ho_boo hl_boo (by simp)
 clear ho_boo hl_boo
 refine wr <| st_p (vI .i64 0) hA ?_; clear hA ac; intro ac hA
 refine wn <| wp_seq <| wr <| st_p (vS A_l l.length c_l) hA fun ac hA => st_p (vI .i64 (l.length : Int)) hA fun ac hA => st_p (vI .i64 0) hA fun ac hA => wn <| wp_block <| wp_loop_m (fun m_ ac_ wl_ => ∃ q : Nat, m_ = l.length - q ∧ (q ≤ l.length) ∧ (∀ x ∈ l.take q, (fun k => befE E i k) x = false) ∧ Fm 19 [] [(0, vS A_l l.length c_l), (1, vF (.func 54) #[] #[pA bo 0, pA bi 0]), (7, vI .i64 (l.length : Int)), (8, vI .i64 (q : Int))] ac_ ∧ Ws w No [] [OrdR m Ae ce E Ak ck C bg G bt T, Cel bi #[vI .i64 i] 3, Cel bo #[pA m 0] 25, roR A_l 1 enI64 l] wl_) _ ⟨0, rfl, by omega, by intro x hx; simp at hx, hA.sub (by and_intros <;> first | kernel_rfl | trivial), (hW.pick [] (by decide) rfl).pickG [0, 1, 2, 3] rfl⟩ ?_
 clear hA ac hW; rintro m_ ac w1 ⟨q, rfl, hk, hn, hA, hW⟩
 refine wr <| st_p (vB (decide ((q : Int) < (l.length : Int)))) hA ?_; clear hA ac; intro ac hA
 refine wn <| wp_seq <| wp_cond_split (t := decide ((q : Int) < (l.length : Int))) (hA.eval (by kernel_rfl)) (fun h2 => ?_) (fun h2 => ?_)
 ·
  have h2 := of_decide_eq_true h2
  first
  | (exfalso; clear hA hW; omega)
  | (
   refine wp_skip <| thenN <| wp_seq <| wp_block <| wr <| st_p (vI .i64 (q : Int)) hA fun ac hA => st_p (vI .i64 (q : Int)) hA fun ac hA => wn <| wr <| st_p (vF (.func 54) #[] #[pA bo 0, pA bi 0]) hA fun ac hA => st_p (vS A_l l.length c_l) hA fun ac hA => st_p (vI .i64 (q : Int)) hA fun ac hA => ?_
   obtain ⟨y3, hy3⟩ : ∃ y, l[q]? = some y := ⟨_, List.getElem?_eq_getElem (by first | omega | (simp; done) | (simp; omega))⟩
   obtain ⟨b4, o5, rfl, hbb4⟩ := row_some ((hW).getG 3 rfl) hy3
   refine st_q (vP (some ⟨b4, o5 + q * 1, none⟩)) hA hW.cls (Rd.indexAddr (e := 3) (sz := 1) (b := b4) (off := o5) (n := l.length) (c := c_l) (k := q) (by kernel_rfl) (by kernel_rfl) (by first | omega | (simp; done) | (simp; omega)) (fun _ => by kernel_rfl) (fun _ => by kernel_rfl)) fun ac hA => st_q (vI .i64 y3) hA hW.cls (Rd.loadRow (b := b4) (i := o5 + q * 1) (xs := [vI .i64 y3]) (by kernel_rfl) (fun _ hw => row_ld ((hw.1).getG 3 rfl) hy3 (Fr.refl No _) (fun h => h) 0 1 (by kernel_rfl)) (by kernel_rfl)) fun ac hA => st_s hA (Runs.callN (v := vB (befE E (i : Int) (y3))) (fun _ => by kernel_rfl) hW (e_ob1 (y3) m Ae ce E Ak ck C bg G bt T bo bi (i : Int) w1 ((hW).getG 0 rfl) ((hW).glt _ (List.mem_of_getElem? (i := 0) rfl)) (show _ = _ from (hW).getG 2 rfl) (show _ = _ from (hW).getG 1 rfl) hok (by first | omega | assumption | exact ⟨by omega, by omega⟩ | (have := hbd _ (List.mem_of_getElem? (by assumption)); exact ⟨by omega, by omega⟩)) (by first | omega | assumption | exact ⟨by omega, by omega⟩ | (have := hbd _ (List.mem_of_getElem? (by assumption)); exact ⟨by omega, by omega⟩))) ?_); clear hA ac hW; intro w6 hW hfw6 ac hA
   refine wn <| wp_cond_split (t := befE E (i : Int) (y3)) (hA.eval (by kernel_rfl)) (fun h7 => ?_) (fun h7 => ?_)
   ·
    first
    | (exfalso; clear hA hW; omega)
    | (
     refine wr <| st_p (vI .i64 (q : Int)) hA fun ac hA => st_p (vI .i64 (q : Int)) hA fun ac hA => wn <| wp_ret <| blkR <| thenR <| thenR <| blkR <| thenR <| r1 (vI .i64 (q : Int)) hA ?_
     clear hA
     exact ⟨retv (congrArg (vI .i64) (idx_at hn hy3 h7).symm), hW.fr⟩)
   first
   | (exfalso; clear hA hW; omega)
   | (
    refine wp_skip <| blkN <| thenN <| wp_region_lit <| st_q (vI .i64 ((q + 1 : Nat) : Int)) hA hW.cls (Rd.pureE (v0 := vI .i64 (IntKind.i64.wrap ((q : Int) + 1))) (fun _ => by kernel_rfl) (congrArg (vI .i64) ((w_i64 (x := (q : Int) + 1) (by omega) (by omega)).trans (by omega)))) fun ac hA => st_p (vI .i64 ((q + 1 : Nat) : Int)) hA fun ac hA => wn ?_
    exact ⟨l.length - (q + 1), by omega, q + 1, rfl, by omega, by intro x hx; rw [tk_snoc hy3] at hx; rcases List.mem_append.1 hx with hx | hx; exact hn x hx; (simp only [List.mem_singleton] at hx; subst hx; exact h7), hA.sub (by and_intros <;> first | kernel_rfl | trivial), (hW.pick [] (by decide) rfl).pickG [0, 1, 2, 3] rfl⟩))
 have h2 := of_decide_eq_false h2
 first
 | (exfalso; clear hA hW; omega)
 | (
  refine wp_exit <| thenX <| thenX <| blkX <| thenN <| wr <| st_p (vI .i64 (-1)) hA ?_; clear hA ac; intro ac hA
  refine wn <| wp_ret <| r1 (vI .i64 (-1)) hA ?_
  clear hA
  exact ⟨retv (congrArg (vI .i64) (idx_no hn (by omega)).symm), hW.fr⟩)

set_option maxRecDepth 100000 in
theorem e_contOI (A_l : Option Addr) (c_l : Nat) (l : List Int) (m : Nat) (Ae : Option Addr) (ce : Nat) (E : List Event) (Ak : Option Addr) (ck : Nat) (C : List SV) (bg : Nat) (G : List (Int × SV)) (bt : Nat) (T : List (Thing × SV)) (bo : Nat) (bi : Nat) (i : Int) (w : World) (hr_l : RowAt w A_l 1 enI64 l) (hc_l : l.length ≤ c_l) (ho_boo : (OrdR m Ae ce E Ak ck C bg G bt T).p w) (hl_boo : ∀ x_ ∈ (OrdR m Ae ce E Ak ck C bg G bt T).fp, x_ < w.heap.size) (ho_bo : w.heap[bo]? = some (.cells #[pA m 0] 25 (0, 0))) (ho_bi : w.heap[bi]? = some (.cells #[vI .i64 i] 3 (0, 0))) (hl : l.length ≤ 500000) (hbd : ∀ x ∈ l, 0 ≤ x ∧ x ≤ 100000) (hok : OrdOk E C G T) (hi : -9223372036854775808 ≤ i ∧ i ≤ 9223372036854775807) : Calls Tryz.prog 53 #[vS A_l l.length c_l, vF (.func 54) #[] #[pA bo 0, pA bi 0]] w (fun e w' => e = .returned (vB (List.any l (fun k => befE E i k))) ∧ Fr No w w') := by
 have _hu := hc_l; have _hv := hr_l; clear _hu _hv
 have _hu := ho_bo; clear _hu
 have _hu := ho_bi; clear _hu
 have _hu := ho_boo; have _hv := hl_boo; clear _hu _hv
 have _hu := hl; clear _hu
 have _hu := hbd; clear _hu
 have _hu := hok; clear _hu
 have _hu := hi; clear _hu
 refine enter_E 9 Tryz.func53 rfl rfl (by kernel_rfl) (L := [(0, vS A_l l.length c_l), (1, vF (.func 54) #[] #[pA bo 0, pA bi 0])]) (by kernel_rfl) ?_
 intro ac hA
 have hW := Ws.start w No
 have hW := hW.arg hr_l
 have hW := hW.celG ho_bo
 have hW := hW.celG ho_bi
 have hW := hW.addG (OrdR m Ae ce E Ak ck C bg G bt T) ho_boo hl_boo (by simp)
 clear ho_boo hl_boo
 refine wr <| st_p (vB false) hA ?_; clear hA ac; intro ac hA
 refine wn <| wr <| st_p (vS A_l l.length c_l) hA fun ac hA => st_p (vF (.func 54) #[] #[pA bo 0, pA bi 0]) hA fun ac hA => st_s hA (Runs.callN (v := vI .i64 (idxP (fun k => befE E (i : Int) k) l)) (fun _ => by kernel_rfl) hW (e_idxOI A_l c_l l m Ae ce E Ak ck C bg G bt T bo bi (i : Int) w ((hW).getG 3 rfl) (by first | assumption | omega | (simp; omega) | simp) ((hW).getG 0 rfl) ((hW).glt _ (List.mem_of_getElem? (i := 0) rfl)) (show _ = _ from (hW).getG 2 rfl) (show _ = _ from (hW).getG 1 rfl) (by assumption) hbd hok (by first | omega | assumption | exact ⟨by omega, by omega⟩ | (have := hbd _ (List.mem_of_getElem? (by assumption)); exact ⟨by omega, by omega⟩))) ?_); clear hA ac hW; intro w1 hW hfw1 ac hA
 refine st_p (vB (decide ((idxP (fun k => befE E (i : Int) k) l : Int) ≥ (0 : Int)))) hA fun ac hA => st_p (vB (decide ((idxP (fun k => befE E (i : Int) k) l : Int) ≥ (0 : Int)))) hA fun ac hA => wn <| wp_ret <| r1 (vB (decide ((idxP (fun k => befE E (i : Int) k) l : Int) ≥ (0 : Int)))) hA ?_
 clear hA
 exact ⟨retv (congrArg vB (idx_any _ _)), hW.fr⟩

set_option maxRecDepth 100000 in
theorem e_cl1 (i : Int) (A_r : Option Addr) (c_r : Nat) (r : List Int) (bl : Nat) (m : Nat) (Ae : Option Addr) (ce : Nat) (E : List Event) (Ak : Option Addr) (ck : Nat) (C : List SV) (bg : Nat) (G : List (Int × SV)) (bt : Nat) (T : List (Thing × SV)) (bo : Nat) (w : World) (hr_r : RowAt w A_r 1 enI64 r) (hc_r : r.length ≤ c_r) (ho_bl : w.heap[bl]? = some (.cells #[vS A_r r.length c_r] 59 (0, 0))) (ho_boo : (OrdR m Ae ce E Ak ck C bg G bt T).p w) (hl_boo : ∀ x_ ∈ (OrdR m Ae ce E Ak ck C bg G bt T).fp, x_ < w.heap.size) (ho_bo : w.heap[bo]? = some (.cells #[pA m 0] 25 (0, 0))) (hr : r.length ≤ 500000) (hrb : ∀ x ∈ r, 0 ≤ x ∧ x ≤ 100000) (hok : OrdOk E C G T) (hi : -9223372036854775808 ≤ i ∧ i ≤ 9223372036854775807) : Calls Tryz.prog 52 #[vI .i64 i, pA bl 0, pA bo 0] w (fun e w' => e = .returned (vB (List.any r (fun k => befE E i k))) ∧ Fr No w w') := by
 have _hu := hc_r; have _hv := hr_r; clear _hu _hv
 have _hu := ho_bl; clear _hu
 have _hu := ho_bo; clear _hu
 have _hu := ho_boo; have _hv := hl_boo; clear _hu _hv
 have _hu := hr; clear _hu
 have _hu := hrb; clear _hu
 have _hu := hok; clear _hu
 have _hu := hi; clear _hu
 refine enter_E 8 Tryz.func52 rfl rfl (by kernel_rfl) (L := [(0, vI .i64 i), (1, pA bl 0), (2, pA bo 0)]) (by kernel_rfl) ?_
 intro ac hA
 have hW := Ws.start w No
 have hW := hW.arg hr_r
 have hW := hW.celG ho_bl
 have hW := hW.celG ho_bo
 have hW := hW.addG (OrdR m Ae ce E Ak ck C bg G bt T) ho_boo hl_boo (by simp)
 clear ho_boo hl_boo
 refine wr <| st_s hA (Runs.cells (fun b => pA b 0) #[vI .i64 i] 3 (fun _ => by kernel_rfl) hW ?_); clear hA ac hW; intro b1 w2 hW hb1 hfw2 ac hA
 refine st_p (vB false) hA ?_; clear hA ac; intro ac hA
 refine wn <| wr <| st_q (vS A_r r.length c_r) hA hW.cls (Rd.load (b := bl) (i := 0) (by kernel_rfl) (fun _ hw => show _ = _ from (hw.1).getG 2 rfl) (by kernel_rfl)) fun ac hA => st_p (vF (.func 54) #[] #[pA bo 0, pA b1 0]) hA fun ac hA => st_s hA (Runs.callN (v := vB (List.any r (fun k => befE E (i : Int) k))) (fun _ => by kernel_rfl) hW (e_contOI A_r c_r r m Ae ce E Ak ck C bg G bt T bo b1 (i : Int) w2 ((hW).getG 3 rfl) (by first | assumption | omega | (simp; omega) | simp) ((hW).getG 0 rfl) ((hW).glt _ (List.mem_of_getElem? (i := 0) rfl)) (show _ = _ from (hW).getG 1 rfl) ((hW).cel 0 rfl) (by first | omega | assumption) (by first | omega | assumption) (by first | omega | assumption) (by first | omega | assumption)) ?_); clear hA ac hW; intro w3 hW hfw3 ac hA
 refine st_p (vB (List.any r (fun k => befE E (i : Int) k))) hA ?_; clear hA ac; intro ac hA
 refine wn <| wp_ret <| r1 (vB (List.any r (fun k => befE E (i : Int) k))) hA ?_
 clear hA
 exact ⟨retv (by rfl), hW.fr⟩

set_option maxRecDepth 100000 in
theorem e_idxRI (A_l : Option Addr) (c_l : Nat) (l : List Int) (A_r : Option Addr) (c_r : Nat) (r : List Int) (bl : Nat) (m : Nat) (Ae : Option Addr) (ce : Nat) (E : List Event) (Ak : Option Addr) (ck : Nat) (C : List SV) (bg : Nat) (G : List (Int × SV)) (bt : Nat) (T : List (Thing × SV)) (bo : Nat) (w : World) (hr_l : RowAt w A_l 1 enI64 l) (hc_l : l.length ≤ c_l) (hr_r : RowAt w A_r 1 enI64 r) (hc_r : r.length ≤ c_r) (ho_bl : w.heap[bl]? = some (.cells #[vS A_r r.length c_r] 59 (0, 0))) (ho_boo : (OrdR m Ae ce E Ak ck C bg G bt T).p w) (hl_boo : ∀ x_ ∈ (OrdR m Ae ce E Ak ck C bg G bt T).fp, x_ < w.heap.size) (ho_bo : w.heap[bo]? = some (.cells #[pA m 0] 25 (0, 0))) (hl : l.length ≤ 500000) (hbd : ∀ x ∈ l, 0 ≤ x ∧ x ≤ 100000) (hr : r.length ≤ 500000) (hrb : ∀ x ∈ r, 0 ≤ x ∧ x ≤ 100000) (hok : OrdOk E C G T) : Calls Tryz.prog 65 #[vS A_l l.length c_l, vF (.func 52) #[] #[pA bl 0, pA bo 0]] w (fun e w' => e = .returned (vI .i64 (idxP (fun i => List.any r (fun k => befE E i k)) l)) ∧ Fr No w w') := by
 have _hu := hc_l; have _hv := hr_l; clear _hu _hv
 have _hu := hc_r; have _hv := hr_r; clear _hu _hv
 have _hu := ho_bl; clear _hu
 have _hu := ho_bo; clear _hu
 have _hu := ho_boo; have _hv := hl_boo; clear _hu _hv
 have _hu := hl; clear _hu
 have _hu := hbd; clear _hu
 have _hu := hr; clear _hu
 have _hu := hrb; clear _hu
 have _hu := hok; clear _hu
 refine enter_E 19 Tryz.func65 rfl rfl (by kernel_rfl) (L := [(0, vS A_l l.length c_l), (1, vF (.func 52) #[] #[pA bl 0, pA bo 0])]) (by kernel_rfl) ?_
 intro ac hA
 have hW := Ws.start w No
 have hW := hW.arg hr_l
 have hW := hW.arg hr_r
 have hW := hW.celG ho_bl
 have hW := hW.celG ho_bo
 have hW := hW.addG (OrdR m Ae ce E Ak ck C bg G bt T) ho_boo hl_boo (by simp)
 clear ho_boo hl_boo
 refine wr <| st_p (vI .i64 0) hA ?_; clear hA ac; intro ac hA
 refine wn <| wp_seq <| wr <| st_p (vS A_l l.length c_l) hA fun ac hA => st_p (vI .i64 (l.length : Int)) hA fun ac hA => st_p (vI .i64 0) hA fun ac hA => wn <| wp_block <| wp_loop_m (fun m_ ac_ wl_ => ∃ q : Nat, m_ = l.length - q ∧ (q ≤ l.length) ∧ (∀ x ∈ l.take q, (fun i => List.any r (fun k => befE E i k)) x = false) ∧ Fm 19 [] [(0, vS A_l l.length c_l), (1, vF (.func 52) #[] #[pA bl 0, pA bo 0]), (7, vI .i64 (l.length : Int)), (8, vI .i64 (q : Int))] ac_ ∧ Ws w No [] [OrdR m Ae ce E Ak ck C bg G bt T, Cel bo #[pA m 0] 25, Cel bl #[vS A_r r.length c_r] 59, roR A_r 1 enI64 r, roR A_l 1 enI64 l] wl_) _ ⟨0, rfl, by omega, by intro x hx; simp at hx, hA.sub (by and_intros <;> first | kernel_rfl | trivial), (hW.pick [] (by decide) rfl).pickG [0, 1, 2, 3, 4] rfl⟩ ?_
 clear hA ac hW; rintro m_ ac w1 ⟨q, rfl, hk, hn, hA, hW⟩
 refine wr <| st_p (vB (decide ((q : Int) < (l.length : Int)))) hA ?_; clear hA ac; intro ac hA
 refine wn <| wp_seq <| wp_cond_split (t := decide ((q : Int) < (l.length : Int))) (hA.eval (by kernel_rfl)) (fun h2 => ?_) (fun h2 => ?_)
 ·
  have h2 := of_decide_eq_true h2
  first
  | (exfalso; clear hA hW; omega)
  | (
   refine wp_skip <| thenN <| wp_seq <| wp_block <| wr <| st_p (vI .i64 (q : Int)) hA fun ac hA => st_p (vI .i64 (q : Int)) hA fun ac hA => wn <| wr <| st_p (vF (.func 52) #[] #[pA bl 0, pA bo 0]) hA fun ac hA => st_p (vS A_l l.length c_l) hA fun ac hA => st_p (vI .i64 (q : Int)) hA fun ac hA => ?_
   obtain ⟨y3, hy3⟩ : ∃ y, l[q]? = some y := ⟨_, List.getElem?_eq_getElem (by first | omega | (simp; done) | (simp; omega))⟩
   obtain ⟨b4, o5, rfl, hbb4⟩ := row_some ((hW).getG 4 rfl) hy3
   refine st_q (vP (some ⟨b4, o5 + q * 1, none⟩)) hA hW.cls (Rd.indexAddr (e := 3) (sz := 1) (b := b4) (off := o5) (n := l.length) (c := c_l) (k := q) (by kernel_rfl) (by kernel_rfl) (by first | omega | (simp; done) | (simp; omega)) (fun _ => by kernel_rfl) (fun _ => by kernel_rfl)) fun ac hA => st_q (vI .i64 y3) hA hW.cls (Rd.loadRow (b := b4) (i := o5 + q * 1) (xs := [vI .i64 y3]) (by kernel_rfl) (fun _ hw => row_ld ((hw.1).getG 4 rfl) hy3 (Fr.refl No _) (fun h => h) 0 1 (by kernel_rfl)) (by kernel_rfl)) fun ac hA => st_s hA (Runs.callN (v := vB (List.any r (fun k => befE E (y3) k))) (fun _ => by kernel_rfl) hW (e_cl1 (y3) A_r c_r r bl m Ae ce E Ak ck C bg G bt T bo w1 ((hW).getG 3 rfl) (by first | assumption | omega | (simp; omega) | simp) (show _ = _ from (hW).getG 2 rfl) ((hW).getG 0 rfl) ((hW).glt _ (List.mem_of_getElem? (i := 0) rfl)) (show _ = _ from (hW).getG 1 rfl) (by first | omega | assumption | exact ⟨by omega, by omega⟩ | (have := hbd _ (List.mem_of_getElem? (by assumption)); exact ⟨by omega, by omega⟩)) (by first | omega | assumption | exact ⟨by omega, by omega⟩ | (have := hbd _ (List.mem_of_getElem? (by assumption)); exact ⟨by omega, by omega⟩)) hok (by first | omega | assumption | exact ⟨by omega, by omega⟩ | (have := hbd _ (List.mem_of_getElem? (by assumption)); exact ⟨by omega, by omega⟩))) ?_); clear hA ac hW; intro w6 hW hfw6 ac hA
   refine wn <| wp_cond_split (t := List.any r (fun k => befE E (y3) k)) (hA.eval (by kernel_rfl)) (fun h7 => ?_) (fun h7 => ?_)
   ·
    first
    | (exfalso; clear hA hW; omega)
    | (
     refine wr <| st_p (vI .i64 (q : Int)) hA fun ac hA => st_p (vI .i64 (q : Int)) hA fun ac hA => wn <| wp_ret <| blkR <| thenR <| thenR <| blkR <| thenR <| r1 (vI .i64 (q : Int)) hA ?_
     clear hA
     exact ⟨retv (congrArg (vI .i64) (idx_at hn hy3 h7).symm), hW.fr⟩)
   first
   | (exfalso; clear hA hW; omega)
   | (
    refine wp_skip <| blkN <| thenN <| wp_region_lit <| st_q (vI .i64 ((q + 1 : Nat) : Int)) hA hW.cls (Rd.pureE (v0 := vI .i64 (IntKind.i64.wrap ((q : Int) + 1))) (fun _ => by kernel_rfl) (congrArg (vI .i64) ((w_i64 (x := (q : Int) + 1) (by omega) (by omega)).trans (by omega)))) fun ac hA => st_p (vI .i64 ((q + 1 : Nat) : Int)) hA fun ac hA => wn ?_
    exact ⟨l.length - (q + 1), by omega, q + 1, rfl, by omega, by intro x hx; rw [tk_snoc hy3] at hx; rcases List.mem_append.1 hx with hx | hx; exact hn x hx; (simp only [List.mem_singleton] at hx; subst hx; exact h7), hA.sub (by and_intros <;> first | kernel_rfl | trivial), (hW.pick [] (by decide) rfl).pickG [0, 1, 2, 3, 4] rfl⟩))
 have h2 := of_decide_eq_false h2
 first
 | (exfalso; clear hA hW; omega)
 | (
  refine wp_exit <| thenX <| thenX <| blkX <| thenN <| wr <| st_p (vI .i64 (-1)) hA ?_; clear hA ac; intro ac hA
  refine wn <| wp_ret <| r1 (vI .i64 (-1)) hA ?_
  clear hA
  exact ⟨retv (congrArg (vI .i64) (idx_no hn (by omega)).symm), hW.fr⟩)

set_option maxRecDepth 100000 in
theorem e_delf (A_s : Option Addr) (c_s : Nat) (s : List Int) (A_r : Option Addr) (c_r : Nat) (r : List Int) (bl : Nat) (m : Nat) (Ae : Option Addr) (ce : Nat) (E : List Event) (Ak : Option Addr) (ck : Nat) (C : List SV) (bg : Nat) (G : List (Int × SV)) (bt : Nat) (T : List (Thing × SV)) (bo : Nat) (w : World) (ho_s : (ownI A_s c_s s).p w) (hl_s : ∀ x_ ∈ (ownI A_s c_s s).fp, x_ < w.heap.size) (hr_r : RowAt w A_r 1 enI64 r) (hc_r : r.length ≤ c_r) (hd_r : ∀ x_ ∈ (ownI A_s c_s s).fp, x_ ∉ (roR A_r 1 enI64 r).fp) (ho_bl : w.heap[bl]? = some (.cells #[vS A_r r.length c_r] 59 (0, 0))) (hz_bl : ∀ x_ ∈ (ownI A_s c_s s).fp, x_ ∉ (Cel bl #[vS A_r r.length c_r] 59).fp) (ho_boo : (OrdR m Ae ce E Ak ck C bg G bt T).p w) (hl_boo : ∀ x_ ∈ (OrdR m Ae ce E Ak ck C bg G bt T).fp, x_ < w.heap.size) (hz_boo : ∀ x_ ∈ (ownI A_s c_s s).fp, x_ ∉ (OrdR m Ae ce E Ak ck C bg G bt T).fp) (ho_bo : w.heap[bo]? = some (.cells #[pA m 0] 25 (0, 0))) (hz_bo : ∀ x_ ∈ (ownI A_s c_s s).fp, x_ ∉ (Cel bo #[pA m 0] 25).fp) (hl : s.length ≤ 500000) (hbd : ∀ x ∈ s, 0 ≤ x ∧ x ≤ 100000) (hr : r.length ≤ 500000) (hrb : ∀ x ∈ r, 0 ≤ x ∧ x ≤ 100000) (hok : OrdOk E C G T) : Calls Tryz.prog 50 #[vS A_s s.length c_s, vF (.func 52) #[] #[pA bl 0, pA bo 0]] w (fun e w' => e = .returned (vS A_s (List.filter (fun i => !List.any r (fun k => befE E i k)) s).length c_s) ∧ Upd (ownI A_s c_s s) (ownI A_s c_s (List.filter (fun i => !List.any r (fun k => befE E i k)) s)) w w') := by
 have _hu := hc_r; have _hv := hr_r; clear _hu _hv
 have _hu := ho_bl; clear _hu
 have _hu := ho_bo; clear _hu
 have _hu := ho_s; have _hv := hl_s; clear _hu _hv
 have _hu := ho_boo; have _hv := hl_boo; clear _hu _hv
 have _hu := hl; clear _hu
 have _hu := hbd; clear _hu
 have _hu := hr; clear _hu
 have _hu := hrb; clear _hu
 have _hu := hok; clear _hu
 refine enter_E 42 Tryz.func50 rfl rfl (by kernel_rfl) (L := [(0, vS A_s s.length c_s), (1, vF (.func 52) #[] #[pA bl 0, pA bo 0])]) (by kernel_rfl) ?_
 intro ac hA
 have hW : Ws w (· ∈ (ownI A_s c_s s).fp) [rowR 3 1 enI64 (vS A_s s.length c_s) s] [] w := objW ho_s hl_s
 clear ho_s hl_s
 have hW := hW.addG (OrdR m Ae ce E Ak ck C bg G bt T) ho_boo hl_boo (by intro r_ hr_; simp only [List.mem_singleton] at hr_; subst hr_; exact hz_boo)
 clear ho_boo hl_boo
 have hW := hW.addG (Cel bl #[vS A_r r.length c_r] 59) ho_bl (by intro b_ hb_; simp only [Cel, List.mem_singleton] at hb_; subst hb_; exact lt_of_block ho_bl) (by intro r_ hr_; simp only [List.mem_singleton] at hr_; subst hr_; exact hz_bl)
 have hW := hW.addG (Cel bo #[pA m 0] 25) ho_bo (by intro b_ hb_; simp only [Cel, List.mem_singleton] at hb_; subst hb_; exact lt_of_block ho_bo) (by intro r_ hr_; simp only [List.mem_singleton] at hr_; subst hr_; exact hz_bo)
 have hW := hW.addG (roR A_r 1 enI64 r) hr_r (roR_lt hr_r) (by intro r_ hr_; simp only [List.mem_singleton] at hr_; subst hr_; exact hd_r)
 refine wr <| st_p (vS none 0 0) hA ?_; clear hA ac; intro ac hA
 refine wn <| wr <| st_p (vS A_s s.length c_s) hA fun ac hA => st_p (vF (.func 52) #[] #[pA bl 0, pA bo 0]) hA fun ac hA => st_s hA (Runs.callN (v := vI .i64 (idxP (fun i => List.any r (fun k => befE E i k)) s)) (fun _ => by kernel_rfl) hW (e_idxRI A_s c_s s A_r c_r r bl m Ae ce E Ak ck C bg G bt T bo w (rowR_at ((hW).get 0 rfl) elt_I64.len) (own_cap ((hW).get 0 rfl)) ((hW).getG 0 rfl) (by first | assumption | omega | (simp; omega) | simp) (show _ = _ from (hW).getG 2 rfl) ((hW).getG 3 rfl) ((hW).glt _ (List.mem_of_getElem? (i := 3) rfl)) (show _ = _ from (hW).getG 1 rfl) (by first | omega | assumption | (have := hbd _ (List.mem_of_getElem? (by assumption)); exact ⟨by omega, by omega⟩) | (have := hbd _ (List.mem_of_getElem? (i := n) (by rw [← hdr n (Nat.le_refl n)]; assumption)); exact ⟨by omega, by omega⟩)) (by first | omega | assumption | (have := hbd _ (List.mem_of_getElem? (by assumption)); exact ⟨by omega, by omega⟩) | (have := hbd _ (List.mem_of_getElem? (i := n) (by rw [← hdr n (Nat.le_refl n)]; assumption)); exact ⟨by omega, by omega⟩)) hr hrb hok) ?_); clear hA ac hW; intro w1 hW hfw1 ac hA
 refine st_p (vI .i64 (idxP (fun i => List.any r (fun k => befE E i k)) s)) hA ?_; clear hA ac; intro ac hA
 refine wn <| wp_seq <| wr <| st_p (vI .i64 (idxP (fun i => List.any r (fun k => befE E i k)) s)) hA fun ac hA => st_p (vB ((idxP (fun i => List.any r (fun k => befE E i k)) s : Int) == (-1 : Int))) hA fun ac hA => wn <| wp_cond_split (t := (idxP (fun i => List.any r (fun k => befE E i k)) s : Int) == (-1 : Int)) (hA.eval (by kernel_rfl)) (fun h2 => ?_) (fun h2 => ?_)
 ·
  have h2 := eq_of_beq h2
  first
  | (exfalso; clear hA hW; omega)
  | (
   refine wr <| st_p (vS A_s s.length c_s) hA fun ac hA => st_p (vS A_s s.length c_s) hA fun ac hA => wn <| wp_ret <| thenR <| r1 (vS A_s s.length c_s) hA ?_
   clear hA
   have hfin_ : s.filter (fun i => !List.any r (fun k => befE E i k)) = s := List.filter_eq_self.2 (fun x hx => by rw [idx_neg (p := (fun i => List.any r (fun k => befE E i k))) (by omega) x hx]; rfl)
   rw [hfin_]; exact ⟨rfl, (hW.pick [0] (by decide) rfl).updDone 0 rfl⟩)
 have h2 := ne_of_beq_false h2
 first
 | (exfalso; clear hA hW; omega)
 | (
  refine wp_skip <| thenN <| wp_seq <| wp_seq ?_
  obtain ⟨i0, hi0_, hil_, hin_, y0_, hy0_, hp0_⟩ := idx_of (p := (fun i => List.any r (fun k => befE E i k))) (l := s) (by omega)
  rw [hi0_] at hA
  obtain ⟨y3, hy3⟩ : ∃ y, s[i0]? = some y := ⟨_, List.getElem?_eq_getElem (by omega)⟩
  obtain ⟨b4, o5, rfl, hbb4⟩ := row_some (rowR_at ((hW).get 0 rfl) elt_I64.len) hy3
  have hf0_ : (s.take (i0 + 1)).filter (fun i => !List.any r (fun k => befE E i k)) = s.take i0 := by rw [filt_snoc hy0_, filt_all hin_ (fun _ => rfl), if_neg (by rw [hp0_]; decide), List.append_nil]
  refine wp_region_lit <| st_p (vI .i64 (i0 : Int)) hA fun ac hA => st_q (vI .i64 ((i0 + 1 : Nat) : Int)) hA hW.cls (Rd.pureE (v0 := vI .i64 (IntKind.i64.wrap ((i0 : Int) + 1))) (fun _ => by kernel_rfl) (congrArg (vI .i64) ((w_i64 (x := (i0 : Int) + 1) (by omega) (by omega)).trans (by omega)))) fun ac hA => st_p (vI .i64 ((i0 + 1 : Nat) : Int)) hA fun ac hA => wn <| wp_block <| wp_loop_m (fun m_ ac_ wl_ => ∃ n : Nat, ∃ u : Nat, ∃ d : List Int, m_ = s.length - n ∧ (u = ((s.take n).filter (fun i => !List.any r (fun k => befE E i k))).length) ∧ (d.take u = (s.take n).filter (fun i => !List.any r (fun k => befE E i k))) ∧ (∀ q, n ≤ q → d[q]? = s[q]?) ∧ (d.length = s.length) ∧ (n ≤ s.length) ∧ Fm 42 [] [(0, vS (some ⟨b4, o5, none⟩) s.length c_s), (1, vF (.func 52) #[] #[pA bl 0, pA bo 0]), (5, vI .i64 (u : Int)), (6, vI .i64 (n : Int))] ac_ ∧ Ws w (· ∈ (ownI (some ⟨b4, o5, none⟩) c_s s).fp) [rowR 3 1 enI64 (vS (some ⟨b4, o5, none⟩) s.length c_s) d] [roR A_r 1 enI64 r, Cel bo #[pA m 0] 25, Cel bl #[vS A_r r.length c_r] 59, OrdR m Ae ce E Ak ck C bg G bt T] wl_) _ ⟨i0 + 1, i0, s, rfl, by rw [hf0_, List.length_take]; omega, by exact hf0_.symm, by intro q _; rfl, by rfl, by omega, hA.sub (by and_intros <;> first | kernel_rfl | trivial), (hW.pick [0] (by decide) rfl).pickG [0, 1, 2, 3] rfl⟩ ?_
  clear hA ac hW; rintro m_ ac w6 ⟨n, u, d, rfl, hm_, hdt, hdr, hdl, hnl, hA, hW⟩
  have hml2_ := filt_le (p := (fun i => !List.any r (fun k => befE E i k))) s n; have hel_ : ∀ q, d[q]? = none ∨ q < d.length := fun q => by by_cases q_ : q < d.length; exact .inr q_; exact .inl (List.getElem?_eq_none (by omega))
  refine wp_seq <| wr <| st_p (vI .i64 (n : Int)) hA fun ac hA => st_p (vS (some ⟨b4, o5, none⟩) s.length c_s) hA fun ac hA => st_p (vI .i64 (s.length : Int)) hA fun ac hA => st_p (vB (decide ((n : Int) < (s.length : Int)))) hA fun ac hA => wn <| wp_cond_split (t := decide ((n : Int) < (s.length : Int))) (hA.eval (by kernel_rfl)) (fun h7 => ?_) (fun h7 => ?_)
  ·
   have h7 := of_decide_eq_true h7
   first
   | (exfalso; clear hA hW; omega)
   | (
    refine wp_skip <| thenN <| wp_seq <| wp_block <| wr <| st_p (vS (some ⟨b4, o5, none⟩) s.length c_s) hA fun ac hA => st_p (vI .i64 (n : Int)) hA fun ac hA => ?_
    obtain ⟨y8, hy8⟩ : ∃ y, d[n]? = some y := ⟨_, List.getElem?_eq_getElem (by first | omega | (simp; done) | (simp; omega))⟩
    refine st_q (vP (some ⟨b4, o5 + n * 1, none⟩)) hA hW.cls (Rd.indexAddr (e := 3) (sz := 1) (b := b4) (off := o5) (n := s.length) (c := c_s) (k := n) (by kernel_rfl) (by kernel_rfl) (by first | omega | (simp; done) | (simp; omega)) (fun _ => by kernel_rfl) (fun _ => by kernel_rfl)) fun ac hA => st_q (vI .i64 y8) hA hW.cls (Rd.loadRow (b := b4) (i := o5 + n * 1) (xs := [vI .i64 y8]) (by kernel_rfl) (fun _ hw => row_ld (rowR_at ((hw.1).get 0 rfl) elt_I64.len) hy8 (Fr.refl No _) (fun h => h) 0 1 (by kernel_rfl)) (by kernel_rfl)) fun ac hA => st_p (vI .i64 y8) hA fun ac hA => wn <| wr <| st_p (vF (.func 52) #[] #[pA bl 0, pA bo 0]) hA fun ac hA => st_p (vI .i64 y8) hA fun ac hA => st_s hA (Runs.callN (v := vB (List.any r (fun k => befE E (y8) k))) (fun _ => by kernel_rfl) hW (e_cl1 (y8) A_r c_r r bl m Ae ce E Ak ck C bg G bt T bo w6 ((hW).getG 0 rfl) (by first | assumption | omega | (simp; omega) | simp) (show _ = _ from (hW).getG 2 rfl) ((hW).getG 3 rfl) ((hW).glt _ (List.mem_of_getElem? (i := 3) rfl)) (show _ = _ from (hW).getG 1 rfl) hr hrb hok (by first | omega | assumption | (have := hbd _ (List.mem_of_getElem? (by assumption)); exact ⟨by omega, by omega⟩) | (have := hbd _ (List.mem_of_getElem? (i := n) (by rw [← hdr n (Nat.le_refl n)]; assumption)); exact ⟨by omega, by omega⟩))) ?_); clear hA ac hW; intro w9 hW hfw9 ac hA
    refine st_p (vB (!(List.any r (fun k => befE E (y8) k)))) hA ?_; clear hA ac; intro ac hA
    refine wn <| wp_cond_split (t := !(List.any r (fun k => befE E (y8) k))) (hA.eval (by kernel_rfl)) (fun h10 => ?_) (fun h10 => ?_)
    ·
     have h10 := not_t h10
     first
     | (exfalso; clear hA hW; omega)
     | (
      refine wr <| st_p (vS (some ⟨b4, o5, none⟩) s.length c_s) hA fun ac hA => st_p (vI .i64 (u : Int)) hA fun ac hA => st_p (vI .i64 y8) hA fun ac hA => ?_
      obtain ⟨y11, hy11⟩ : ∃ y, d[u]? = some y := ⟨_, List.getElem?_eq_getElem (by first | omega | (simp; done) | (simp; omega))⟩
      refine st_q (vP (some ⟨b4, o5 + u * 1, none⟩)) hA hW.cls (Rd.indexAddr (e := 3) (sz := 1) (b := b4) (off := o5) (n := s.length) (c := c_s) (k := u) (by kernel_rfl) (by kernel_rfl) (by first | omega | (simp; done) | (simp; omega)) (fun _ => by kernel_rfl) (fun _ => by kernel_rfl)) ?_; clear hA ac; intro ac hA
      refine st_s hA (Runs.storeRow (E := 3) (sz := 1) (en := enI64) (b := b4) (off := o5) (k := u) (n := s.length) (c := c_s) (v := vI .i64 y8) (y8 : Int) elt_I64 (by kernel_rfl) (by kernel_rfl) (by kernel_rfl) (by kernel_rfl) hW (i := 0) rfl (by first | omega | (simp; done) | (simp; omega)) (by first | rfl | omega | (simp; done) | (simp; omega)) ?_); clear hA ac hW; intro w12 hW ac hA
      refine wn <| wp_region_lit <| st_p (vI .i64 (u : Int)) hA fun ac hA => st_q (vI .i64 ((u + 1 : Nat) : Int)) hA hW.cls (Rd.pureE (v0 := vI .i64 (IntKind.i64.wrap ((u : Int) + 1))) (fun _ => by kernel_rfl) (congrArg (vI .i64) ((w_i64 (x := (u : Int) + 1) (by omega) (by omega)).trans (by omega)))) fun ac hA => st_p (vI .i64 ((u + 1 : Nat) : Int)) hA fun ac hA => wpList_nil <| blkN <| thenN <| wp_region_lit <| st_p (vI .i64 (n : Int)) hA fun ac hA => st_q (vI .i64 ((n + 1 : Nat) : Int)) hA hW.cls (Rd.pureE (v0 := vI .i64 (IntKind.i64.wrap ((n : Int) + 1))) (fun _ => by kernel_rfl) (congrArg (vI .i64) ((w_i64 (x := (n : Int) + 1) (by omega) (by omega)).trans (by omega)))) fun ac hA => st_p (vI .i64 ((n + 1 : Nat) : Int)) hA fun ac hA => wn ?_
      have hsy_ : s[n]? = some y8 := by rw [← hdr n (Nat.le_refl n)]; exact hy8
      have hfs_ := filt_snoc (p := (fun i => !List.any r (fun k => befE E i k))) hsy_
      rw [if_pos (by rw [h10]; rfl)] at hfs_
      have hml_ : u < d.length := by have := filt_le (p := (fun i => !List.any r (fun k => befE E i k))) s n; omega
      exact ⟨s.length - (n + 1), by omega, n + 1, u + 1, List.set d u (y8 : Int), rfl, by rw [hfs_, List.length_append, ← hm_]; rfl, by rw [hfs_, ← hdt]; have q_ := set_app (d := d) (f := d.take u) (y := y8) (by rw [List.length_take, Nat.min_eq_left (by omega)]) (by rw [List.length_take]; omega); rw [List.length_take, Nat.min_eq_left (by omega)] at q_; exact q_, by exact set_at (fun q hq => hdr q (by omega)) (by have := filt_le (p := (fun i => !List.any r (fun k => befE E i k))) s n; omega), by rw [List.length_set]; omega, by omega, hA.sub (by and_intros <;> first | kernel_rfl | trivial), (hW.pick [0] (by decide) rfl).pickG [0, 1, 2, 3] rfl⟩)
    have h10 := not_f h10
    first
    | (exfalso; clear hA hW; omega)
    | (
     refine wp_skip <| blkN <| thenN <| wp_region_lit <| st_p (vI .i64 (n : Int)) hA fun ac hA => st_q (vI .i64 ((n + 1 : Nat) : Int)) hA hW.cls (Rd.pureE (v0 := vI .i64 (IntKind.i64.wrap ((n : Int) + 1))) (fun _ => by kernel_rfl) (congrArg (vI .i64) ((w_i64 (x := (n : Int) + 1) (by omega) (by omega)).trans (by omega)))) fun ac hA => st_p (vI .i64 ((n + 1 : Nat) : Int)) hA fun ac hA => wn ?_
     have hsy_ : s[n]? = some y8 := by rw [← hdr n (Nat.le_refl n)]; exact hy8
     have hfs_ := filt_snoc (p := (fun i => !List.any r (fun k => befE E i k))) hsy_
     rw [if_neg (by rw [h10]; decide), List.append_nil] at hfs_
     exact ⟨s.length - (n + 1), by omega, n + 1, u, d, rfl, by rw [hfs_]; exact hm_, by rw [hfs_]; exact hdt, by intro q hq; exact hdr q (by omega), by omega, by omega, hA.sub (by and_intros <;> first | kernel_rfl | trivial), (hW.pick [0] (by decide) rfl).pickG [0, 1, 2, 3] rfl⟩))
  have h7 := of_decide_eq_false h7
  first
  | (exfalso; clear hA hW; omega)
  | (
   refine wp_exit <| thenX <| thenX <| blkX <| thenN <| wp_seq ?_
   have hfin_ : s.filter (fun i => !List.any r (fun k => befE E i k)) = d.take u := by rw [hdt, List.take_of_length_le (by omega)]
   have hcs_ := own_cap (hW.get 0 rfl)
   refine wp_region_lit <| st_p (vS (some ⟨b4, o5, none⟩) s.length c_s) hA fun ac hA => st_p (vI .i64 (u : Int)) hA fun ac hA => st_q (vS (if c_s = u then ((some ⟨b4, o5, none⟩) : Option Addr) else Option.map (fun a_ => Addr.add a_ (u * 1)) ((some ⟨b4, o5, none⟩) : Option Addr)) (d.drop u).length (c_s - u)) hA hW.cls ((Rd.slice (E := 3) (A := (some ⟨b4, o5, none⟩)) (n := s.length) (c := c_s) (l := u) (h := s.length) (m := c_s) (sz := 1) (by kernel_rfl) (fun _ => by kernel_rfl) (fun _ => by kernel_rfl) (fun w => bounds_lo (by omega) w)).cast (slice_eq rfl (by first | omega | (simp; done) | (simp; omega)) rfl)) fun ac hA => st_s hA (Runs.clearTail (E := 3) (en := enI64) (b := b4) (off := o5) (c := c_s) (n := s.length) (k := u) (cc := (c_s - u)) (l := d) (z := vI .i64 0) elt_I64.len (by kernel_rfl) (by kernel_rfl) (fun _ => by kernel_rfl) ⟨rfl, rfl⟩ hW (i := 0) rfl (by first | rfl | omega | (simp; done)) (by omega) ?_); clear hA ac hW; intro w13 hW ac hA
   refine wn <| wr <| st_p (vS (some ⟨b4, o5, none⟩) s.length c_s) hA fun ac hA => st_p (vI .i64 (u : Int)) hA fun ac hA => st_q (vS (some ⟨b4, o5, none⟩) (d.take u).length c_s) hA hW.cls ((Rd.slice (E := 3) (A := (some ⟨b4, o5, none⟩)) (n := s.length) (c := c_s) (l := 0) (h := u) (m := c_s) (sz := 1) (by kernel_rfl) (fun _ => by kernel_rfl) (fun _ => by kernel_rfl) (fun w => bounds_hi (by omega) w)).cast (slice_eq (addr_zero _ _ _) (by first | omega | (simp; done) | (simp; omega)) (by first | omega | (simp; done) | (simp; omega)))) fun ac hA => st_p (vS (some ⟨b4, o5, none⟩) (d.take u).length c_s) hA fun ac hA => wn <| wp_ret <| r1 (vS (some ⟨b4, o5, none⟩) (d.take u).length c_s) hA ?_
   clear hA
   rw [hfin_]; exact ⟨rfl, (hW.pick [0] (by decide) rfl).updDone 0 rfl⟩))

set_option maxRecDepth 100000 in
theorem e_oclose (m : Nat) (Ae : Option Addr) (ce : Nat) (E : List Event) (Ak : Option Addr) (ck : Nat) (C : List SV) (bg : Nat) (G : List (Int × SV)) (bt : Nat) (T : List (Thing × SV)) (j : Int) (w : World) (ho_o : (OrdR m Ae ce E Ak ck C bg G bt T).p w) (hl_o : ∀ x_ ∈ (OrdR m Ae ce E Ak ck C bg G bt T).fp, x_ < w.heap.size) (hok : OrdOk E C G T) (hj : -9223372036854775808 ≤ j ∧ j ≤ 9223372036854775807) : Calls Tryz.prog 30 #[pA m 0, vI .i64 j] w (Fresh 3 1 enI64 (closeL E j) w) := by
 have _hu := ho_o; have _hv := hl_o; clear _hu _hv
 have _hu := hok; clear _hu
 have _hu := hj; clear _hu
 have hlc_ := hok.clen; have hll_ := hok.len
 refine enter_E 13 Tryz.func30 rfl rfl (by kernel_rfl) (L := [(0, pA m 0), (1, vI .i64 j)]) (by kernel_rfl) ?_
 intro ac hA
 have hW := Ws.start w No
 have hW := hW.addG (OrdR m Ae ce E Ak ck C bg G bt T) ho_o hl_o (by simp)
 clear ho_o hl_o
 refine wr <| st_s hA (Runs.cells (fun b => pA b 0) #[pA m 0] 25 (fun _ => by kernel_rfl) hW ?_); clear hA ac hW; intro b1 w2 hW hb1 hfw2 ac hA
 refine st_p (vS none 0 0) hA ?_; clear hA ac; intro ac hA
 refine wn <| wr <| st_q (pA m 0) hA hW.cls (rl b1 0 0) fun ac hA => st_p (vI .i64 j) hA fun ac hA => st_s hA (Runs.callRow (E := 3) (sz := 1) (en := enI64) (l := (siftL E (Int.toNat (j)) (j))) (fun _ => by kernel_rfl) hW (e_oahead m Ae ce E Ak ck C bg G bt T (j) w2 ((hW).getG 0 rfl) ((hW).glt _ (List.mem_of_getElem? (i := 0) rfl)) (by first | omega | assumption | exact ⟨by omega, by omega⟩ | (intro x hx; have := sift_mem hx; omega) | (intro x hx; have q_ := sift_mem hx; have := bef_rng q_.2.2; omega)) (by first | omega | assumption | exact ⟨by omega, by omega⟩ | (intro x hx; have := sift_mem hx; omega) | (intro x hx; have q_ := sift_mem hx; have := bef_rng q_.2.2; omega))) ?_); clear hA ac hW; intro A4 c5 w3 hW hcc5 hfw3 ac hA
 refine st_s hA (Runs.cells (fun b => pA b 0) #[vS none 0 0] 59 (fun _ => by kernel_rfl) hW ?_); clear hA ac hW; intro b7 w8 hW hb7 hfw8 ac hA
 refine st_s hA (Runs.store (v := vS A4 (siftL E (Int.toNat (j)) (j)).length c5) (b := b7) (j := 0) (n := 1) (cs' := #[vS A4 (siftL E (Int.toNat (j)) (j)).length c5]) (H' := [Cel b7 #[vS A4 (siftL E (Int.toNat (j)) (j)).length c5] 59, rowR 3 1 enI64 (vS A4 (siftL E (Int.toNat (j)) (j)).length c5) (siftL E (Int.toNat (j)) (j)), Cel b1 #[pA m 0] 25]) (by kernel_rfl) (by kernel_rfl) (by kernel_rfl) (by kernel_rfl) (by kernel_rfl) hW 0 (by rfl) (Nat.le_of_ble_eq_true (by kernel_rfl)) (by kernel_rfl) (by rfl) ?_); clear hA ac hW; intro w9 hW ac hA
 refine wn <| wp_seq ?_
 have hW := hW.share 1 rfl (H' := [Cel b7 #[vS A4 (siftL E (Int.toNat (j)) (j)).length c5] 59, Cel b1 #[pA m 0] 25]) rfl
 have hW := hW.nestG (roR A4 1 enI64 (siftL E (Int.toNat (j)) (j))) (rowR_at (E := 3) (hW.getG 0 rfl) elt_I64.len) (fun _ hb_ => ⟨_, List.mem_of_getElem? (i := 0) rfl, rowR_fp _ hb_⟩)
 have hW := hW.share 0 rfl (H' := [Cel b1 #[pA m 0] 25]) rfl
 have hW := hW.share 0 rfl (H' := []) rfl
 have hsl_ := sift_len E j j.toNat
 refine wp_region_lit <| st_q (vS A4 (siftL E (Int.toNat (j)) (j)).length c5) hA hW.cls (Rd.load (b := b7) (i := 0) (by kernel_rfl) (fun _ hw => show _ = _ from (hw.1).getG 1 rfl) (by kernel_rfl)) ?_; clear hA ac; intro ac hA
 refine st_s hA (Runs.callRow (E := 3) (sz := 1) (en := enI64) (l := (siftL E (Int.toNat (j)) (j))) (fun _ => by kernel_rfl) hW (e_iclone A4 c5 (siftL E (Int.toNat (j)) (j)) w9 ((hW).getG 2 rfl) (by first | assumption | omega | (simp; omega) | simp) (by first | omega | assumption | exact ⟨by omega, by omega⟩ | (intro x hx; have := sift_mem hx; omega) | (intro x hx; have q_ := sift_mem hx; have := bef_rng q_.2.2; omega))) ?_); clear hA ac hW; intro A11 c12 w10 hW hcc12 hfw10 ac hA
 refine st_p (vF (.func 52) #[] #[pA b7 0, pA b1 0]) hA ?_; clear hA ac; intro ac hA
 refine st_s hA (Runs.call (fun _ => by kernel_rfl) (e_delf A11 c12 (siftL E (Int.toNat (j)) (j)) A4 c5 (siftL E (Int.toNat (j)) (j)) b7 m Ae ce E Ak ck C bg G bt T b1 w10 ((hW).get 0 rfl) ((hW).lt _ (List.mem_of_getElem? (i := 0) rfl)) ((hW).getG 2 rfl) (by first | assumption | omega | (simp; omega) | simp) ((hW).gd _ (List.mem_of_getElem? (i := 2) rfl) _ (List.mem_of_getElem? (i := 0) rfl)) (show _ = _ from (hW).getG 1 rfl) ((hW).gd _ (List.mem_of_getElem? (i := 1) rfl) _ (List.mem_of_getElem? (i := 0) rfl)) ((hW).getG 4 rfl) ((hW).glt _ (List.mem_of_getElem? (i := 4) rfl)) ((hW).gd _ (List.mem_of_getElem? (i := 4) rfl) _ (List.mem_of_getElem? (i := 0) rfl)) (show _ = _ from (hW).getG 0 rfl) ((hW).gd _ (List.mem_of_getElem? (i := 0) rfl) _ (List.mem_of_getElem? (i := 0) rfl)) (by first | omega | assumption | exact ⟨by omega, by omega⟩ | (intro x hx; have := sift_mem hx; omega) | (intro x hx; have q_ := sift_mem hx; have := bef_rng q_.2.2; omega)) (by first | omega | assumption | exact ⟨by omega, by omega⟩ | (intro x hx; have := sift_mem hx; omega) | (intro x hx; have q_ := sift_mem hx; have := bef_rng q_.2.2; omega)) (by first | omega | assumption | exact ⟨by omega, by omega⟩ | (intro x hx; have := sift_mem hx; omega) | (intro x hx; have q_ := sift_mem hx; have := bef_rng q_.2.2; omega)) (by first | omega | assumption | exact ⟨by omega, by omega⟩ | (intro x hx; have := sift_mem hx; omega) | (intro x hx; have q_ := sift_mem hx; have := bef_rng q_.2.2; omega)) (by first | omega | assumption | exact ⟨by omega, by omega⟩ | (intro x hx; have := sift_mem hx; omega) | (intro x hx; have q_ := sift_mem hx; have := bef_rng q_.2.2; omega))) ?_)
 rintro _ w14 ⟨rfl, hu_⟩; refine ⟨_, rfl, ?_⟩; replace hW := hW.upd (H' := [rowR 3 1 enI64 (vS A11 (List.filter (fun i => !List.any (siftL E (Int.toNat (j)) (j)) (fun k => befE E i k)) (siftL E (Int.toNat (j)) (j))).length c12) (List.filter (fun i => !List.any (siftL E (Int.toNat (j)) (j)) (fun k => befE E i k)) (siftL E (Int.toNat (j)) (j)))]) 0 rfl hu_ rfl; clear hA ac; intro ac hA
 refine st_p (vS A11 (List.filter (fun i => !List.any (siftL E (Int.toNat (j)) (j)) (fun k => befE E i k)) (siftL E (Int.toNat (j)) (j))).length c12) hA ?_; clear hA ac; intro ac hA
 refine wn <| wp_ret <| r1 (vS A11 (List.filter (fun i => !List.any (siftL E (Int.toNat (j)) (j)) (fun k => befE E i k)) (siftL E (Int.toNat (j)) (j))).length c12) hA ?_
 clear hA
 show Fresh 3 1 enI64 (closeL E j) w _ _
 exact ⟨_, rfl, hW.fresh 0 rfl (fun _ h => h), hW.fr⟩

end Go.Proofs.YtefmglgejjaipaaGreatDoor.L
