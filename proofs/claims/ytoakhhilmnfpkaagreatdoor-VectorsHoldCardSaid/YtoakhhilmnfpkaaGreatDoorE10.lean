/- The engine: ranges over maps; rows that are written; places told by integers; rows that are made. -/
import Derived.Test.YtoakhhilmnfpkaaGreatDoorE9
import Derived.Laws.OwnMore
namespace Go.Proofs.YtoakhhilmnfpkaaGreatDoor.L
open Go.RowKit Go.MapKept Go.Maps
open Go.ChangeMaps (setBlock)

/-- A map, to its entries. -/
def MapX (b : Nat) (es : Array MapEntry) (clock : Nat) : Res := ⟨[b], fun w => w.heap[b]? = some (.map es clock), fun _ _ h hp => (h b (.head _)).trans hp⟩
section
variable {κ ν : Type} {ek : κ → Value} {ev : ν → Value}
/-- A range over a map that is under way: what is left; the entry at hand. -/
def IterX (r b : Nat) (es : Array MapEntry) (clock : Nat) (ek : κ → Value) (ev : ν → Value) (left : List (κ × ν)) (cur : Option (κ × ν)) : Res where
  fp := [r]
  p w := ∃ since seen c0, w.heap[r]? = some (.mapIter (some b) since seen c0) ∧ (since ≤ c0 ∧ since ≤ clock) ∧ (∀ x ∈ es.toList, x.born < since) ∧ (leftOf es seen).toList.map (fun e => (e.key, e.val)) = left.map (fun x => (ek x.1, ev x.2)) ∧
    ∀ x, cur = some x → c0 = clock ∧ ∃ (seen' : Array Nat) (e : MapEntry), seen = seen'.push e.born ∧ e ∈ es.toList ∧ e.key = ek x.1 ∧ e.val = ev x.2
  loc w w' h hp := by
    obtain ⟨since, seen, c0, h1, h2⟩ := hp
    exact ⟨since, seen, c0, (h r (.head _)).trans h1, h2⟩

variable {P : Program} {ρ : Operand → Value} {Φ : Value → World → Prop} {w w0 : World} {S : Nat → Prop} {H G : List Res} {C : World → Prop}
variable {d : Option Tmp} {ty : TypeId} {pos : String} {aft : Array Edge} {g : Option (Nat × Bool)} {m : List (κ × ν)}
theorem leftOf_none (es : Array MapEntry) : leftOf es #[] = es := by unfold leftOf; simp
theorem Runs.range {T k e : TypeId} {x : Operand} {b : Nat} (hx : ρ x = .map (some b)) (hT : P.underlying T = some (.map k e)) (hW : Ws w0 S H G w) (j : Nat) (hj : G[j]? = some (mapR b ek ev m))
    (next : ∀ r es clock w', (es.toList.map (·.born)).Nodup → Ws w0 S (IterX r b es clock ek ev m none :: H) (MapX b es clock :: G) w' → Fr No w w' → Φ (.pointer (some ⟨r, 0, none⟩)) w') : Runs P ρ ⟨d, .range T x, ty, pos, aft, g⟩ w Φ := by
  obtain ⟨es, clock, hb, hs, hkv⟩ := show mapAt w b ek ev m from hW.getG j hj
  have hm := List.mem_of_getElem? hj
  have hWX : Ws w0 S H (MapX b es clock :: G) w := hW.addG (MapX b es clock) hb (fun y hy => hW.glt _ hm y hy) (fun r hr y hy hy' => hW.gd _ hm r hr y hy hy')
  have he : (execOp ρ ⟨d, .range T x, ty, pos, aft, g⟩).run P w = .ok (.value (.pointer (some ⟨w.heap.size, 0, none⟩))) (w.alloc (.mapIter (some b) clock #[] clock)) := by
    show (do let r ← Instr.range T (ρ x); Pure.pure (Next.value r) : Sem Next).run P w = _
    rw [hx, Sem.run_bind, run_range_map w T k e b es clock hT hb]
    rfl
  unfold Runs
  rw [he]
  refine next w.heap.size es clock _ hs.2.1 (hWX.alloc _ _ (show (IterX w.heap.size b es clock ek ev m none).p _ from ⟨clock, #[], clock, blk_new w _, ⟨Nat.le_refl _, Nat.le_refl _⟩, hs.1, by rw [leftOf_none]; exact hkv, fun _ h => (by cases h)⟩) rfl) ((Fr.refl No w).alloc _)
theorem er_map {α β : Type} (f : α → β) : ∀ (l : List α) (i : Nat), (l.eraseIdx i).map f = (l.map f).eraseIdx i
  | [], _ => rfl
  | _ :: _, 0 => rfl
  | x :: l, i + 1 => congrArg (f x :: ·) (er_map f l i)
theorem Rd.entry {x : Operand} {r b : Nat} {es : Array MapEntry} {clock : Nat} {left : List (κ × ν)} {y : κ × ν} (hx : ρ x = .pointer (some ⟨r, 0, none⟩)) (hn : (es.toList.map (·.born)).Nodup) (hm : ∀ w, C w → w.heap[b]? = some (.map es clock)) (hi : ∀ w, C w → (IterX r b es clock ek ev left (some y)).p w) :
    Rd P ρ ⟨d, .entry x, ty, pos, aft, g⟩ C (.tuple #[ek y.1, ev y.2]) :=
  Rd.of (s := Instr.entry (ρ x)) rfl fun w hw => by
    obtain ⟨since, seen, c0, hr, -, -, -, hcur⟩ := hi w hw
    obtain ⟨rfl, seen', e, rfl, he, e1, e2⟩ := hcur y rfl
    rw [hx, run_entry_at w r b since seen' es c0 e hr (hm w hw) he hn, e1, e2]

/-! ### iterators over a list -/
theorem comes_list {β : Type} {l : List β} {k : Nat} {x : β} (h : Comes (· = l) (l.take k) x) (hk : k ≤ l.length) : l[k]? = some x ∧ k < l.length ∧ l.take k ++ [x] = l.take (k + 1) := by
  obtain ⟨xs, rfl, t, ht⟩ := h
  have hlen : (xs.take k).length = k := by simp; omega
  have h1 : xs[k]? = some x := by rw [← ht, List.append_assoc, List.getElem?_append_right (by omega), hlen]; simp
  exact ⟨h1, (List.getElem?_eq_some_iff.1 h1).1, (tk_snoc h1).symm⟩
theorem comes_atL {β : Type} {l : List β} {k : Nat} {y : β} (h : l[k]? = some y) : Comes (· = l) (l.take k) y := ⟨_, rfl, by rw [← tk_snoc h]; exact List.take_prefix _ _⟩

theorem iter_weak {β : Type} {P : Program} {gf : Nat} {lb : Array Value} {encs : β → Array Value} {l : List β} {Sx : List β → Prop} {Os : List Res} (h : Iter P gf lb encs (· = l) Os) (hl : Sx l) : Iter P gf lb encs Sx Os := fun l' J Jx r0 w1 h1 h2 h3 h4 h5 h6 => by
  refine (h l' J Jx r0 w1 h1 h2 (fun pre x r W hc => h3 pre x r W ?_) h4 h5 h6).mono ?_
  · obtain ⟨xs, rfl, hx⟩ := hc; exact ⟨_, hl, hx⟩
  · rintro e w' ⟨a1, a2, r', a3, a4⟩
    refine ⟨a1, a2, r', ?_, a4⟩
    rcases a3 with ⟨xs, rfl, hj⟩ | hj
    · exact .inl ⟨_, hl, hj⟩
    · exact .inr hj

/-! ### places told by integers -/
theorem natval {x : Operand} {k : Int} (h : ρ x = .int .i64 k) (h0 : 0 ≤ k) : ρ x = .int .i64 ((k.toNat : Nat) : Int) := by rw [h, Int.toNat_of_nonneg h0]
theorem Rd.indexAddrI {t e : TypeId} {x ix : Operand} {b off n c sz : Nat} {k : Int} (hx : ρ x = .slice (some ⟨b, off, none⟩) n c) (hix : ρ ix = .int .i64 k) (h0 : 0 ≤ k) (hlt : k < n)
    (hu : ∀ w, (underlying t).run P w = .ok (.slice e) w) (hs : ∀ w, (sizeOf e).run P w = .ok sz w) :
    Rd P ρ ⟨d, .indexAddr t x ix, ty, pos, aft, g⟩ C (.pointer (some ⟨b, off + k.toNat * sz, none⟩)) :=
  Rd.indexAddr hx (by rw [hix, Int.toNat_of_nonneg h0]) (by omega) hu hs

/-! ### rows that are written, and made -/
section
variable {α : Type} {E sz : Nat} {en : α → List Value}
theorem putC_size : ∀ (vs : List Value) (cs : Array Value) (j : Nat), (putC cs j vs).size = cs.size
  | [], _, _ => rfl
  | v :: vs, cs, j => by rw [putC, putC_size vs, Array.size_setIfInBounds]
theorem putC_get : ∀ (vs : List Value) (cs : Array Value) (j i : Nat), j + vs.length ≤ cs.size → (putC cs j vs)[i]? = if j ≤ i ∧ i < j + vs.length then vs[i - j]? else cs[i]?
  | [], cs, j, i, _ => by rw [putC, if_neg (by simp only [List.length_nil]; omega)]
  | v :: vs, cs, j, i, h => by
    simp only [List.length_cons] at h ⊢
    rw [putC, putC_get vs _ (j + 1) i (by simp; omega)]
    by_cases h1 : i = j
    · subst h1
      rw [if_neg (by omega), if_pos (by omega), Array.getElem?_setIfInBounds_self_of_lt (by omega)]
      simp
    · rw [Array.getElem?_setIfInBounds_ne (by omega)]
      by_cases h2 : j + 1 ≤ i ∧ i < j + 1 + vs.length
      · rw [if_pos h2, if_pos (by omega), show i - j = i - (j + 1) + 1 from by omega]; simp
      · rw [if_neg h2, if_neg (by omega)]
theorem flat_set (h : ∀ x, (en x).length = sz) (hs : 0 < sz) (l : List α) (k : Nat) (u : α) (hk : k < l.length) (i : Nat) : (flat en (l.set k u))[i]? = if k * sz ≤ i ∧ i < k * sz + sz then (en u)[i - k * sz]? else (flat en l)[i]? := by
  obtain ⟨q, r, rfl, hr⟩ : ∃ q r, i = q * sz + r ∧ r < sz := ⟨i / sz, i % sz, by rw [Nat.mul_comm, Nat.div_add_mod], Nat.mod_lt _ hs⟩
  rw [flat_get h _ _ _ hr, flat_get h _ _ _ hr]
  by_cases hq : q = k
  · subst hq
    rw [if_pos (by omega), List.getElem?_set_self hk, Nat.add_sub_cancel_left]; rfl
  · rw [List.getElem?_set_ne (Ne.symm hq), if_neg]
    rintro ⟨h1, h2⟩
    rcases Nat.lt_or_gt_of_ne hq with hlt | hlt
    · have := Nat.mul_le_mul_right sz (show q + 1 ≤ k from hlt); rw [Nat.add_mul] at this; omega
    · have := Nat.mul_le_mul_right sz (show k + 1 ≤ q from hlt); rw [Nat.add_mul] at this; omega
theorem Runs.storeRow {t : TypeId} {x y : Operand} {b off k n c i : Nat} {v : Value} {l : List α} (u : α) (hel : Elt P E sz en) (hx : ρ x = .pointer (some ⟨b, off + k * sz, none⟩)) (hy : ρ y = v) (hsz : (P.info? t).map (·.size) = some sz) (hv : v.cells.toList = en u)
    (hW : Ws w0 S H G w) (hi : H[i]? = some (rowR E sz en (.slice (some ⟨b, off, none⟩) n c) l)) (hk : k < l.length) (hn : n = l.length)
    (next : ∀ w', Ws w0 S (H.set i (rowR E sz en (.slice (some ⟨b, off, none⟩) n c) (l.set k u))) G w' → Φ undef w') : Runs P ρ ⟨d, .store t x y, ty, pos, aft, g⟩ w Φ := by
  subst hn
  have hlen := hel.len
  have hown : w.ownsRow 0 E sz (.slice (some ⟨b, off, none⟩) l.length c) l.length (flat en l) := hW.get i hi
  rcases hown.2 with ⟨h', _⟩ | ⟨g', cap, cur, h', hb, hg, hnc, hcm, hcs, htake⟩
  · cases h'
  · cases h'
    have hvl : v.cells.toList.length = sz := by rw [hv]; exact hlen u
    have hspos : 0 < sz := hel.pos
    have hle : 0 + k * sz + v.cells.toList.length ≤ cur.size := by
      rw [hvl, hcs, Nat.zero_add]
      have := Nat.mul_le_mul_right sz (show k + 1 ≤ c from by omega)
      rw [Nat.add_mul] at this; omega
    obtain ⟨w', r1, r2, r3⟩ := run_storeCells (P := P) v.cells.toList (0 + k * sz) 0 cur w hg (by omega) (fun u' hu' => by rw [hv] at hu'; exact hel.one u u' hu')
    have hinfo : (sizeOf t).run P w = .ok sz w := by
      cases hq : P.info? t with
      | none => rw [hq] at hsz; cases hsz
      | some f => rw [hq] at hsz; cases hsz; simp [sizeOf, typeInfo, Sem.run_bind, hq, Result.andThen]
    unfold Runs
    have : (execOp ρ ⟨d, .store t x y, ty, pos, aft, g⟩).run P w = .ok .skip w' := by
      show (do Instr.storeAt t (ρ x) (ρ y); Pure.pure Next.skip : Sem Next).run P w = _
      rw [hx, hy]
      simp only [Instr.storeAt, Instr.sureAddr, storeVar, Sem.run_bind, Sem.run_pure, Result.andThen_ok, hinfo]
      rw [if_neg (by rw [← Array.length_toList, hvl]; simp)]
      simp only [Result.andThen_ok, r1]
    rw [this]
    refine next w' (hW.turn (r' := rowR E sz en (.slice (some ⟨b, 0, none⟩) l.length c) (l.set k u)) i hi (r3.mono fun j _ e => by subst e; simp [rowR, Value.ownBlock]) ?_ (fun x' hx' => ⟨.inl hx', ?_⟩) rfl)
    · refine ⟨by rw [flat_len hlen], .inr ⟨b, c, putC cur (k * sz) v.cells.toList, by simp, Nat.zero_le _, by simpa using r2, by simpa using hnc, hcm, by rw [putC_size, hcs], ?_⟩⟩
      refine List.ext_getElem? fun q => ?_
      rw [flat_set hlen hspos l k u hk, List.getElem?_take, Array.getElem?_toList, putC_get _ _ _ _ (by omega), hvl, hv]
      have hf : ∀ q, (flat en l)[q]? = if q < l.length * sz then cur[q]? else none := fun q => by rw [← htake, List.getElem?_take, Array.getElem?_toList]
      rw [hf q]
      simp only [List.length_set]
      have := Nat.mul_le_mul_right sz (show k + 1 ≤ l.length from hk)
      rw [Nat.add_mul] at this
      by_cases h1 : k * sz ≤ q ∧ q < k * sz + sz
      · rw [if_pos h1, if_pos h1, if_pos (by omega)]
      · rw [if_neg h1, if_neg h1]
    · simp [rowR, Value.ownBlock] at hx'; subst hx'
      exact Nat.lt_of_lt_of_le (lt_of_block hg) r3.size
theorem made_flat (h : ∀ x, (en x).length = sz) (hs : 0 < sz) {z0 : Value} {z : α} (hz : z0.cells.toList = en z) (n : Nat) : (madeCells z0.cells (n * sz)).toList = flat en (List.replicate n z) := by
  have hzs : z0.cells.size = sz := by rw [← Array.length_toList, hz]; exact h z
  refine List.ext_getElem? fun i => ?_
  obtain ⟨q, r, rfl, hr⟩ : ∃ q r, i = q * sz + r ∧ r < sz := ⟨i / sz, i % sz, by rw [Nat.mul_comm, Nat.div_add_mod], Nat.mod_lt _ hs⟩
  rw [flat_get h _ _ _ hr, List.getElem?_replicate]
  by_cases hq : q < n
  · rw [if_pos hq]
    have hlt : q * sz + r < n * sz := by
      have := Nat.mul_le_mul_right sz (show q + 1 ≤ n from hq); rw [Nat.add_mul] at this; omega
    have hm : (q * sz + r) % z0.cells.size = r := by rw [hzs, Nat.mul_comm, Nat.mul_add_mod, Nat.mod_eq_of_lt hr]
    simp only [madeCells, Array.toList_map, Array.toList_range, List.getElem?_map, List.getElem?_range hlt, Option.map_some, hm, Option.bind_some]
    rw [← hz, Array.getElem?_toList, getElem!_pos z0.cells r (by omega), Array.getElem?_eq_getElem (by omega)]
  · rw [if_neg hq]
    have hge : n * sz ≤ q * sz + r := by
      have := Nat.mul_le_mul_right sz (show n ≤ q by omega); omega
    simp only [madeCells, Array.toList_map, Array.toList_range, List.getElem?_map, Option.bind_none]
    rw [List.getElem?_eq_none (by simpa using hge)]; rfl
theorem Runs.makeSlice {T : TypeId} {x y : Operand} {n bytes : Nat} {z0 : Value} (z : α) (hx : ρ x = .int .i64 (n : Int)) (hy : ρ y = .int .i64 (n : Int)) (hT : P.underlying T = some (.slice E)) (hel : Elt P E sz en)
    (hinfo : (P.info? E).map (fun i => (i.zero, i.size, i.bytes)) = some (some z0, sz, bytes)) (hz : z0.cells.toList = en z) (hb : bytes * n ≤ 281474976710656) (hc : n * sz ≤ 16777216) (hn : n ≤ maxLen) (hW : Ws w0 S H G w)
    (next : ∀ b w', Ws w0 S (rowR E sz en (.slice (some ⟨b, 0, none⟩) n n) (List.replicate n z) :: H) G w' → Fr No w w' → Φ (.slice (some ⟨b, 0, none⟩) n n) w') : Runs P ρ ⟨d, .makeSlice T x y, ty, pos, aft, g⟩ w Φ := by
  obtain ⟨i0, hi, hz0, hz1, hz2⟩ := info_parts hinfo
  obtain ⟨w', h1, h2, h3⟩ := run_makeSlice_full (P := P) (w := w) w.heap.size T E i0 z0 sz hT hi hz0 hz1 .i64 .i64 n hc (by rw [hz2]; exact hb) hn (Nat.le_refl _)
  have he : (execOp ρ ⟨d, .makeSlice T x y, ty, pos, aft, g⟩).run P w = .ok (.value (.slice (some ⟨w.heap.size, 0, none⟩) n n)) w' := by
    show (do let r ← Instr.makeSlice T (ρ x) (ρ y); Pure.pure (Next.value r) : Sem Next).run P w = _
    rw [hx, hy, Sem.run_bind, h1]
    rfl
  unfold Runs
  rw [he]
  have hf : Fr No w w' := (Fr.refl No w).of_grown h3 (fun k e => by cases e)
  refine next _ w' (hW.addRow hf ?_) hf
  rw [made_flat hel.len hel.pos hz] at h2
  simpa using h2
end
end
end Go.Proofs.YtoakhhilmnfpkaaGreatDoor.L
