/- Contracts, walked by program over the engine's laws. -/
import Derived.Test.YtoakhhilmnfpkaaGreatDoorProg
import Derived.Test.YtoakhhilmnfpkaaGreatDoorE21
import Derived.Test.YtoakhhilmnfpkaaGreatDoorSite
namespace Go.Proofs.YtoakhhilmnfpkaaGreatDoor.L
open Go.RowKit
open Go.Value renaming int → vI, slice → vS, bool → vB, pointer → vP, func → vF, agg → vA, map → vM, tuple → vT

structure Bnd where
  n : Int
  least : Int
  most : Int
deriving DecidableEq
def Bnd.v (x : Bnd) : Value := .agg #[.int .u64 x.n, .int .u64 x.least, .int .u64 x.most]
def enBnd (x : Bnd) : List Value := [.int .u64 x.n, .int .u64 x.least, .int .u64 x.most]
theorem elt_Bnd : Elt Tryz.prog 244 3 enBnd := ⟨⟨vA #[vI .u64 0, vI .u64 0, vI .u64 0], 24, by kernel_rfl, rfl, by decide⟩, by decide, fun _ => rfl, fun x u hu => List.all_eq_true.1 (show (enBnd x).all (·.oneCell') = true from rfl) u hu⟩
def enU8 (x : Int) : List Value := [.int .u64 x]
theorem elt_U8 : Elt Tryz.prog 29 1 enU8 := ⟨⟨vI .u64 0, 8, by kernel_rfl, rfl, by decide⟩, by decide, fun _ => rfl, fun x u hu => List.all_eq_true.1 (show (enU8 x).all (·.oneCell') = true from rfl) u hu⟩
/-- A clock of a vector. -/
def getC (c : List Int) (id : Int) : Int := if id < 0 then 0 else (c[id.toNat]?).getD 0
theorem getC_at {c : List Int} {i : Int} {y : Int} (h0 : 0 ≤ i) (h : c[i.toNat]? = some y) : y = getC c i := by unfold getC; rw [if_neg (by omega), h]; rfl
theorem getC_no {c : List Int} {i : Int} (h : i < 0 ∨ (c.length : Int) ≤ i) : getC c i = 0 := by
  unfold getC
  split
  · rfl
  · rw [List.getElem?_eq_none (by omega)]; rfl
/-- Where the first stands of which something is so, or -1. -/
def idxP {α : Type} (p : α → Bool) (l : List α) : Int := match l.findIdx? p with
  | some i => (i : Int)
  | none => -1
theorem idx_at {α : Type} {p : α → Bool} {l : List α} {k : Nat} {y : α} (hn : ∀ x ∈ l.take k, p x = false) (hy : l[k]? = some y) (hp : p y = true) : idxP p l = (k : Int) := by
  have h : l.findIdx? p = some k := by
    rw [List.findIdx?_eq_some_iff_getElem]
    obtain ⟨hlt, rfl⟩ := List.getElem?_eq_some_iff.1 hy
    refine ⟨hlt, hp, fun j hj => ?_⟩
    have := hn l[j] (List.mem_iff_getElem.2 ⟨j, by simp; omega, by simp⟩)
    simp [this]
  unfold idxP; rw [h]
theorem idx_no {α : Type} {p : α → Bool} {l : List α} {k : Nat} (hn : ∀ x ∈ l.take k, p x = false) (hk : l.length ≤ k) : idxP p l = -1 := by
  rw [List.take_of_length_le hk] at hn
  unfold idxP; rw [List.findIdx?_eq_none_iff.2 hn]
theorem idx_any {α : Type} (p : α → Bool) (l : List α) : decide (idxP p l ≥ 0) = l.any p := by
  unfold idxP
  cases h : l.findIdx? p with
  | none => rw [List.findIdx?_eq_none_iff] at h; rw [eq_comm]; simpa using h
  | some i =>
    rw [List.findIdx?_eq_some_iff_getElem] at h
    obtain ⟨hlt, hp, -⟩ := h
    rw [List.any_eq_true.2 ⟨_, List.getElem_mem hlt, hp⟩]; simp
def big48 (n : Int) : Bool := decide (n > 281474976710655)
def Bnd.ok (b : Bnd) : Bool := decide (b.least ≤ b.n) && decide (b.n ≤ b.most)
/-- A vector may be. -/
def vecOk (c : List Int) : Bool := decide (c.length ≤ 65536) && c.all fun n => !big48 n
structure Ep where
  ep : Int
deriving DecidableEq
def Ep.v (x : Ep) : Value := .agg #[.int .u64 x.ep]
def enEp (x : Ep) : List Value := [.int .u64 x.ep]
theorem and_le {X Y : Nat} (h : Y < 18446744073709551616) (hX : X < 18446744073709551616) : bits .and .u64 (X : Int) (Y : Int) = ((X &&& Y : Nat) : Int) ∧ X &&& Y ≤ Y := by
  refine ⟨?_, Nat.and_le_right⟩
  have ha : (BitVec.ofInt 64 (X : Int)).toNat = X := by rw [BitVec.ofInt_natCast, BitVec.toNat_ofNat]; exact Nat.mod_eq_of_lt (by omega)
  have hb : (BitVec.ofInt 64 (Y : Int)).toNat = Y := by rw [BitVec.ofInt_natCast, BitVec.toNat_ofNat]; exact Nat.mod_eq_of_lt (by omega)
  show IntKind.u64.wrap ((BitVec.ofInt 64 (X : Int) &&& BitVec.ofInt 64 (Y : Int)).toNat : Int) = _
  have hle : X &&& Y ≤ Y := Nat.and_le_right
  rw [BitVec.toNat_and, ha, hb, IntKind.wrap_u64]
  omega
theorem mask48 {a : Int} (h0 : 0 ≤ a) (h1 : a ≤ 18446744073709551615) : bits .and .u64 a 281474976710655 = a % 281474976710656 := by
  obtain ⟨n, rfl⟩ : ∃ n : Nat, a = (n : Int) := ⟨a.toNat, by omega⟩
  have h := (and_le (X := n) (Y := 281474976710655) (by omega) (by omega)).1
  rw [show ((281474976710655 : Nat) : Int) = (281474976710655 : Int) from rfl] at h
  rw [h, show (281474976710655 : Nat) = 2 ^ 48 - 1 from by decide, Nat.and_two_pow_sub_one_eq_mod]
  omega
theorem toNat64 {Z : Nat} (h : Z < 18446744073709551616) : (BitVec.ofInt 64 (Z : Int)).toNat = Z := by rw [BitVec.ofInt_natCast, BitVec.toNat_ofNat]; exact Nat.mod_eq_of_lt (by omega)
theorem or_nat {A B : Nat} (hA : A < 18446744073709551616) (hB : B < 18446744073709551616) (h : A ||| B < 18446744073709551616) : bits .or .u64 (A : Int) (B : Int) = ((A ||| B : Nat) : Int) := by
  show IntKind.u64.wrap ((BitVec.ofInt 64 (A : Int) ||| BitVec.ofInt 64 (B : Int)).toNat : Int) = _
  rw [BitVec.toNat_or, toNat64 hA, toNat64 hB, IntKind.wrap_u64]; omega
theorem or_sum (X : Nat) {Y : Nat} (hY : Y < 281474976710656) : X * 281474976710656 ||| Y = X * 281474976710656 + Y := by
  have := Nat.two_pow_add_eq_or_of_lt (i := 48) (b := Y) hY X
  rw [Nat.mul_comm]; exact this.symm
theorem pack_or {i c : Int} (h0 : 0 ≤ i) (h1 : i ≤ 65535) (h2 : 0 ≤ c) (h3 : c ≤ 281474976710655) : bits .or .u64 (IntKind.u64.wrap (i * 281474976710656)) c = i * 281474976710656 + c := by
  obtain ⟨X, rfl⟩ := Int.eq_ofNat_of_zero_le h0
  obtain ⟨Y, rfl⟩ := Int.eq_ofNat_of_zero_le h2
  have e : IntKind.u64.wrap ((X : Int) * 281474976710656) = ((X * 281474976710656 : Nat) : Int) := by rw [IntKind.wrap_u64]; omega
  rw [e, or_nat (by omega) (by omega) (by rw [or_sum X (by omega)]; omega), or_sum X (by omega)]; omega
def packOk (id c : Int) : Bool := decide (0 ≤ id ∧ id ≤ 65535 ∧ c ≤ 281474976710655)
def packV (id c : Int) : Int := if packOk id c = true then id * 281474976710656 + c else 0
def nextErr (ep end_ : Int) : Int := if end_ < 1 ∨ 281474976710655 < end_ then 2 else if ep % 281474976710656 ≥ end_ then 130 else 0
def notOk (b : Bnd) : Bool := !Bnd.ok b
theorem all_any (l : List Bnd) : (!l.any notOk) = l.all Bnd.ok := by
  induction l with
  | nil => rfl
  | cons x l ih => simp [notOk, ← ih]
theorem pack_no {id c : Int} (h : packOk id c = false) : packV id c = 0 ∧ argErr (packOk id c) = 2 := by unfold packV; rw [h]; exact ⟨rfl, rfl⟩
theorem pack_yes {id c : Int} (h : packOk id c = true) : packV id c = id * 281474976710656 + c ∧ argErr (packOk id c) = 0 := by unfold packV; rw [h]; exact ⟨rfl, rfl⟩
theorem getC_rng {c : List Int} {i : Int} (h : ∀ n ∈ c, 0 ≤ n ∧ n ≤ 18446744073709551615) : 0 ≤ getC c i ∧ getC c i ≤ 18446744073709551615 := by
  unfold getC
  split
  · omega
  · cases q : c[i.toNat]? with
    | none => simp
    | some y => exact h y (List.mem_of_getElem? q)
/-- A vector's epoch; its error. -/
def epochE (c : List Int) (id : Int) : Int := if vecOk c = true then argErr (packOk id (getC c id)) else 2
def epochV (c : List Int) (id : Int) : Int := if vecOk c = true then packV id (getC c id) else 0
theorem epoch_no {c : List Int} {id : Int} (h : argErr (vecOk c) ≠ 0) : epochV c id = 0 ∧ epochE c id = argErr (vecOk c) := by
  unfold epochV epochE; cases q : vecOk c
  · exact ⟨rfl, rfl⟩
  · rw [q] at h; exact absurd rfl h
theorem epoch_yes {c : List Int} {id : Int} (h : argErr (vecOk c) = 0) : epochV c id = packV id (getC c id) ∧ epochE c id = argErr (packOk id (getC c id)) := by
  unfold epochV epochE; cases q : vecOk c
  · rw [q] at h; cases h
  · exact ⟨rfl, rfl⟩
set_option maxRecDepth 100000 in
theorem e_vof (A_c : Option Addr) (c_c : Nat) (c : List Int) (w : World) (hr_c : RowAt w A_c 1 enU8 c) (hc_c : c.length ≤ c_c) : Calls Tryz.prog 78 #[vS A_c c.length c_c] w (fun e w' => e = .returned (vA #[vS A_c c.length c_c]) ∧ Fr No w w') := by
 have _hu := hc_c; have _hv := hr_c; clear _hu _hv
 refine enter_E 5 Tryz.func78 rfl rfl (by kernel_rfl) (L := [(0, vS A_c c.length c_c)]) (by kernel_rfl) ?_
 intro ac hA
 have hW := Ws.start w No
 have hW := hW.arg hr_c
 refine wr <| st_s hA (Runs.cells (fun b => pA b 0) #[vS none 0 0] 175 (fun _ => by kernel_rfl) hW ?_); clear hA ac hW; intro b1 w2 hW hb1 hfw2 ac hA
 refine wn <| wr <| st_p (vS A_c c.length c_c) hA fun ac hA => st_p (vA #[vS A_c c.length c_c]) hA fun ac hA => st_s hA (Runs.store (v := vA #[vS A_c c.length c_c]) (b := b1) (j := 0) (n := 1) (cs' := #[vS A_c c.length c_c]) (H' := [Cel b1 #[vS A_c c.length c_c] 175]) (by kernel_rfl) (by kernel_rfl) (by kernel_rfl) (by kernel_rfl) (by kernel_rfl) hW 0 (by rfl) (Nat.le_of_ble_eq_true (by kernel_rfl)) (by kernel_rfl) (by rfl) ?_); clear hA ac hW; intro w3 hW ac hA
 refine wn <| wp_ret <| ret1 (v := vA #[vS A_c c.length c_c]) (by rfl) hA (Got.cell (b := b1) (i := 0) hA (by kernel_rfl) (by kernel_rfl) (hW.cel 0 rfl) (by kernel_rfl)) ?_
 clear hA
 exact ⟨retv (by rfl), hW.fr⟩

set_option maxRecDepth 100000 in
theorem e_vat (A_c : Option Addr) (c_c : Nat) (c : List Int) (id : Int) (w : World) (hr_c : RowAt w A_c 1 enU8 c) (hc_c : c.length ≤ c_c) (hl : c.length ≤ 100000) : Calls Tryz.prog 79 #[vS A_c c.length c_c, vI .i64 id] w (fun e w' => e = .returned (vI .u64 (getC c id)) ∧ Fr No w w') := by
 have _hu := hc_c; have _hv := hr_c; clear _hu _hv
 have _hu := hl; clear _hu
 refine enter_E 17 Tryz.func79 rfl rfl (by kernel_rfl) (L := [(0, vS A_c c.length c_c), (1, vI .i64 id)]) (by kernel_rfl) ?_
 intro ac hA
 have hW := Ws.start w No
 have hW := hW.arg hr_c
 refine wr <| st_p (vI .u64 0) hA ?_; clear hA ac; intro ac hA
 refine wn <| wp_seq <| wr <| st_p (vI .i64 id) hA fun ac hA => st_p (vB (decide ((id : Int) < (0 : Int)))) hA fun ac hA => st_p (vB (decide ((id : Int) < (0 : Int)))) hA fun ac hA => ?_
 rcases Bool.eq_false_or_eq_true (decide ((id : Int) < (0 : Int))) with h1 | h1
 ·
  rw [h1] at hA
  have h1 := of_decide_eq_true h1
  refine st_k hA fun ac hA => st_k hA fun ac hA => st_k hA fun ac hA => st_k hA fun ac hA => st_p (vB true) hA fun ac hA => wn <| wp_cond_true (hA.eval (by kernel_rfl)) <| wr <| st_p (vI .u64 0) hA ?_; clear hA ac; intro ac hA
  refine wn <| wp_ret <| thenR <| r1 (vI .u64 0) hA ?_
  clear hA
  exact ⟨retv (congrArg (vI .u64) (getC_no (by omega)).symm), hW.fr⟩
 rw [h1] at hA
 have h1 := of_decide_eq_false h1
 refine st_p (vI .i64 id) hA fun ac hA => st_p (vS A_c c.length c_c) hA fun ac hA => st_p (vI .i64 (c.length : Int)) hA fun ac hA => st_p (vB (decide ((id : Int) ≥ (c.length : Int)))) hA fun ac hA => st_p (vB (decide ((id : Int) ≥ (c.length : Int)))) hA fun ac hA => wn <| wp_cond_split (t := decide ((id : Int) ≥ (c.length : Int))) (hA.eval (by kernel_rfl)) (fun h2 => ?_) (fun h2 => ?_)
 ·
  have h2 := of_decide_eq_true h2
  refine wr <| st_p (vI .u64 0) hA ?_; clear hA ac; intro ac hA
  refine wn <| wp_ret <| thenR <| r1 (vI .u64 0) hA ?_
  clear hA
  exact ⟨retv (congrArg (vI .u64) (getC_no (by omega)).symm), hW.fr⟩
 have h2 := of_decide_eq_false h2
 refine wp_skip <| thenN <| wr <| st_p (vS A_c c.length c_c) hA fun ac hA => st_p (vI .i64 id) hA fun ac hA => ?_
 obtain ⟨y3, hy3⟩ : ∃ y, c[Int.toNat (id)]? = some y := ⟨_, List.getElem?_eq_getElem (by first | omega | (simp; done) | (simp; omega))⟩
 obtain ⟨b4, o5, rfl, hbb4⟩ := row_some ((hW).getG 0 rfl) hy3
 refine st_q (vP (some ⟨b4, o5 + (Int.toNat (id)) * 1, none⟩)) hA hW.cls (Rd.indexAddrI (e := 29) (sz := 1) (b := b4) (off := o5) (n := c.length) (c := c_c) (k := id) (by kernel_rfl) (by kernel_rfl) (by omega) (by first | omega | (simp; done) | (simp; omega)) (fun _ => by kernel_rfl) (fun _ => by kernel_rfl)) fun ac hA => st_q (vI .u64 y3) hA hW.cls (Rd.loadRow (b := b4) (i := o5 + (Int.toNat (id)) * 1) (xs := [vI .u64 y3]) (by kernel_rfl) (fun _ hw => row_ld ((hw.1).getG 0 rfl) hy3 (Fr.refl No _) (fun h => h) 0 1 (by kernel_rfl)) (by kernel_rfl)) fun ac hA => st_p (vI .u64 y3) hA fun ac hA => wn <| wp_ret <| r1 (vI .u64 y3) hA ?_
 clear hA
 exact ⟨retv (congrArg (vI .u64) (getC_at (by omega) hy3)), hW.fr⟩

set_option maxRecDepth 100000 in
theorem e_vget (A_c : Option Addr) (c_c : Nat) (c : List Int) (id : Int) (w : World) (hr_c : RowAt w A_c 1 enU8 c) (hc_c : c.length ≤ c_c) (hl : c.length ≤ 100000) : Calls Tryz.prog 40 #[vS A_c c.length c_c, vI .i64 id] w (fun e w' => e = .returned (vI .u64 (getC c id)) ∧ Fr No w w') := by
 have _hu := hc_c; have _hv := hr_c; clear _hu _hv
 have _hu := hl; clear _hu
 refine enter_E 10 Tryz.func40 rfl rfl (by kernel_rfl) (L := [(0, vS A_c c.length c_c), (1, vI .i64 id)]) (by kernel_rfl) ?_
 intro ac hA
 have hW := Ws.start w No
 have hW := hW.arg hr_c
 refine wr <| st_p (vI .u64 0) hA ?_; clear hA ac; intro ac hA
 refine wn <| wr <| st_p (vS A_c c.length c_c) hA ?_; clear hA ac; intro ac hA
 refine st_s hA (Runs.callN (v := vA #[vS A_c c.length c_c]) (fun _ => by kernel_rfl) hW (e_vof A_c c_c c w ((hW).getG 0 rfl) (by first | assumption | omega | (simp; omega) | simp)) ?_); clear hA ac hW; intro w1 hW hfw1 ac hA
 refine st_p (vS A_c c.length c_c) hA fun ac hA => st_p (vI .i64 id) hA fun ac hA => st_s hA (Runs.callN (v := vI .u64 (getC c (id))) (fun _ => by kernel_rfl) hW (e_vat A_c c_c c (id) w1 ((hW).getG 0 rfl) (by first | assumption | omega | (simp; omega) | simp) (by first | omega | (simp; done))) ?_); clear hA ac hW; intro w2 hW hfw2 ac hA
 refine st_p (vI .u64 (getC c (id))) hA ?_; clear hA ac; intro ac hA
 refine wn <| wp_ret <| r1 (vI .u64 (getC c (id))) hA ?_
 clear hA
 exact ⟨retv (by rfl), hW.fr⟩

set_option maxRecDepth 100000 in
theorem e_vclone (A_l : Option Addr) (c_l : Nat) (l : List Int) (w : World) (hr_l : RowAt w A_l 1 enU8 l) (hc_l : l.length ≤ c_l) (hl : l.length ≤ 500000) : Calls Tryz.prog 112 #[vS A_l l.length c_l] w (Fresh 29 1 enU8 l w) := by
 have _hu := hc_l; have _hv := hr_l; clear _hu _hv
 have _hu := hl; clear _hu
 refine enter_E 8 Tryz.func112 rfl rfl (by kernel_rfl) (L := [(0, vS A_l l.length c_l)]) (by kernel_rfl) ?_
 intro ac hA
 have hW := Ws.start w No
 have hW := hW.arg hr_l
 refine wr <| st_p (vS none 0 0) hA ?_; clear hA ac; intro ac hA
 refine wn <| wp_seq <| wr <| st_p (vS A_l l.length c_l) hA fun ac hA => st_q (vB (Option.isNone A_l)) hA hW.cls (Rd.pure fun _ => by cases A_l <;> kernel_rfl) fun ac hA => wn <| wp_cond_split (t := Option.isNone A_l) (hA.eval (by kernel_rfl)) (fun h1 => ?_) (fun h1 => ?_)
 ·
  obtain rfl : A_l = none := Option.isNone_iff_eq_none.1 h1
  have hnil := row_nil ((hW).getG 0 rfl)
  refine wr <| st_p (vS none 0 0) hA ?_; clear hA ac; intro ac hA
  refine wn <| wp_ret <| thenR <| r1 (vS none 0 0) hA ?_
  clear hA
  refine ⟨_, rfl, ?_, hW.fr⟩
  rw [hnil]; exact World.ownsRow_nil _ _ _ _
 refine wp_skip <| thenN <| wr <| st_s hA (Runs.cells (fun b => vS (some ⟨b, 0, none⟩) 0 0) #[] 29 (fun _ => by kernel_rfl) hW ?_); clear hA ac hW; intro b2 w3 hW hb2 hfw3 ac hA
 refine st_p (vS A_l l.length c_l) hA ?_; clear hA ac; intro ac hA
 have hW := hW.celRow (en := enU8) (H' := [rowR 29 1 enU8 (vS (some ⟨b2, 0, none⟩) ([] : List Int).length ([] : List Int).length) ([] : List Int)]) 0 rfl ([] : List Int) (by rfl) elt_U8.len (by decide) rfl
 refine st_s hA (Runs.appOwn (B := A_l) (k := c_l) (E := 29) (sz := 1) (en := enU8) (l := ([] : List Int)) (m := l) (i := 0) (by kernel_rfl) (by kernel_rfl) elt_U8 (by kernel_rfl) hW rfl ((hW).getG 0 rfl) (by first | omega | (simp; done) | (simp; omega)) (by first | omega | (simp; done) | (simp; omega)) ?_); clear hA ac hW; intro A5 c6 w7 hW hcc6 ac hA
 refine st_p (vS A5 (([] : List Int) ++ l).length c6) hA ?_; clear hA ac; intro ac hA
 refine wn <| wp_ret <| r1 (vS A5 (([] : List Int) ++ l).length c6) hA ?_
 clear hA
 refine ⟨_, rfl, ?_, hW.fr⟩
 exact hW.fresh 0 rfl (fun _ h => h)

set_option maxRecDepth 100000 in
theorem e_small1 (n : Int) (w : World)  : Calls Tryz.prog 145 #[vI .u64 n] w (fun e w' => e = .returned (vB (big48 n)) ∧ Fr No w w') := by
 refine enter_E 5 Tryz.func145 rfl rfl (by kernel_rfl) (L := [(0, vI .u64 n)]) (by kernel_rfl) ?_
 intro ac hA
 have hW := Ws.start w No
 refine wr <| st_p (vB false) hA ?_; clear hA ac; intro ac hA
 refine wn <| wr <| st_p (vI .u64 n) hA fun ac hA => st_p (vB (decide ((n : Int) > (281474976710655 : Int)))) hA fun ac hA => st_p (vB (decide ((n : Int) > (281474976710655 : Int)))) hA fun ac hA => wn <| wp_ret <| r1 (vB (decide ((n : Int) > (281474976710655 : Int)))) hA ?_
 clear hA
 exact ⟨retv (by rfl), hW.fr⟩

set_option maxRecDepth 100000 in
theorem e_idxB (A_l : Option Addr) (c_l : Nat) (l : List Int) (w : World) (hr_l : RowAt w A_l 1 enU8 l) (hc_l : l.length ≤ c_l) (hl : l.length ≤ 500000) : Calls Tryz.prog 159 #[vS A_l l.length c_l, vF (.func 145) #[] #[]] w (fun e w' => e = .returned (vI .i64 (idxP big48 l)) ∧ Fr No w w') := by
 have _hu := hc_l; have _hv := hr_l; clear _hu _hv
 have _hu := hl; clear _hu
 refine enter_E 19 Tryz.func159 rfl rfl (by kernel_rfl) (L := [(0, vS A_l l.length c_l), (1, vF (.func 145) #[] #[])]) (by kernel_rfl) ?_
 intro ac hA
 have hW := Ws.start w No
 have hW := hW.arg hr_l
 refine wr <| st_p (vI .i64 0) hA ?_; clear hA ac; intro ac hA
 refine wn <| wp_seq <| wr <| st_p (vS A_l l.length c_l) hA fun ac hA => st_p (vI .i64 (l.length : Int)) hA fun ac hA => st_p (vI .i64 0) hA fun ac hA => wn <| wp_block <| wp_loop_m (fun m_ ac_ wl_ => ∃ k : Nat, m_ = l.length - k ∧ (k ≤ l.length) ∧ (∀ x ∈ l.take k, big48 x = false) ∧ Fm 19 [] [(0, vS A_l l.length c_l), (1, vF (.func 145) #[] #[]), (7, vI .i64 (l.length : Int)), (8, vI .i64 (k : Int))] ac_ ∧ Ws w No [] [roR A_l 1 enU8 l] wl_) _ ⟨0, rfl, by omega, by intro x hx; simp at hx, hA.sub (by and_intros <;> first | kernel_rfl | trivial), (hW.pick [] (by decide) rfl).pickG [0] rfl⟩ ?_
 clear hA ac hW; rintro m_ ac w1 ⟨k, rfl, hk, hn, hA, hW⟩
 refine wr <| st_p (vB (decide ((k : Int) < (l.length : Int)))) hA ?_; clear hA ac; intro ac hA
 refine wn <| wp_seq <| wp_cond_split (t := decide ((k : Int) < (l.length : Int))) (hA.eval (by kernel_rfl)) (fun h2 => ?_) (fun h2 => ?_)
 ·
  have h2 := of_decide_eq_true h2
  refine wp_skip <| thenN <| wp_seq <| wp_block <| wr <| st_p (vI .i64 (k : Int)) hA fun ac hA => st_p (vI .i64 (k : Int)) hA fun ac hA => wn <| wr <| st_p (vF (.func 145) #[] #[]) hA fun ac hA => st_p (vS A_l l.length c_l) hA fun ac hA => st_p (vI .i64 (k : Int)) hA fun ac hA => ?_
  obtain ⟨y3, hy3⟩ : ∃ y, l[k]? = some y := ⟨_, List.getElem?_eq_getElem (by first | omega | (simp; done) | (simp; omega))⟩
  obtain ⟨b4, o5, rfl, hbb4⟩ := row_some ((hW).getG 0 rfl) hy3
  refine st_q (vP (some ⟨b4, o5 + k * 1, none⟩)) hA hW.cls (Rd.indexAddr (e := 29) (sz := 1) (b := b4) (off := o5) (n := l.length) (c := c_l) (k := k) (by kernel_rfl) (by kernel_rfl) (by first | omega | (simp; done) | (simp; omega)) (fun _ => by kernel_rfl) (fun _ => by kernel_rfl)) fun ac hA => st_q (vI .u64 y3) hA hW.cls (Rd.loadRow (b := b4) (i := o5 + k * 1) (xs := [vI .u64 y3]) (by kernel_rfl) (fun _ hw => row_ld ((hw.1).getG 0 rfl) hy3 (Fr.refl No _) (fun h => h) 0 1 (by kernel_rfl)) (by kernel_rfl)) fun ac hA => st_s hA (Runs.callN (v := vB (big48 (y3))) (fun _ => by kernel_rfl) hW (e_small1 (y3) w1) ?_); clear hA ac hW; intro w6 hW hfw6 ac hA
  refine wn <| wp_cond_split (t := big48 (y3)) (hA.eval (by kernel_rfl)) (fun h7 => ?_) (fun h7 => ?_)
  ·
   refine wr <| st_p (vI .i64 (k : Int)) hA fun ac hA => st_p (vI .i64 (k : Int)) hA fun ac hA => wn <| wp_ret <| blkR <| thenR <| thenR <| blkR <| thenR <| r1 (vI .i64 (k : Int)) hA ?_
   clear hA
   exact ⟨retv (congrArg (vI .i64) (idx_at hn hy3 h7).symm), hW.fr⟩
  refine wp_skip <| blkN <| thenN <| wp_region_lit <| st_q (vI .i64 ((k + 1 : Nat) : Int)) hA hW.cls (Rd.pureE (v0 := vI .i64 (IntKind.i64.wrap ((k : Int) + 1))) (fun _ => by kernel_rfl) (congrArg (vI .i64) ((w_i64 (x := (k : Int) + 1) (by omega) (by omega)).trans (by omega)))) fun ac hA => st_p (vI .i64 ((k + 1 : Nat) : Int)) hA fun ac hA => wn ?_
  exact ⟨l.length - (k + 1), by omega, k + 1, rfl, by omega, by intro x hx; rw [tk_snoc hy3] at hx; rcases List.mem_append.1 hx with hx | hx; exact hn x hx; (simp only [List.mem_singleton] at hx; subst hx; exact h7), hA.sub (by and_intros <;> first | kernel_rfl | trivial), (hW.pick [] (by decide) rfl).pickG [0] rfl⟩
 have h2 := of_decide_eq_false h2
 refine wp_exit <| thenX <| thenX <| blkX <| thenN <| wr <| st_p (vI .i64 (-1)) hA ?_; clear hA ac; intro ac hA
 refine wn <| wp_ret <| r1 (vI .i64 (-1)) hA ?_
 clear hA
 exact ⟨retv (congrArg (vI .i64) (idx_no hn (by omega)).symm), hW.fr⟩

set_option maxRecDepth 100000 in
theorem e_contB (A_l : Option Addr) (c_l : Nat) (l : List Int) (w : World) (hr_l : RowAt w A_l 1 enU8 l) (hc_l : l.length ≤ c_l) (hl : l.length ≤ 500000) : Calls Tryz.prog 144 #[vS A_l l.length c_l, vF (.func 145) #[] #[]] w (fun e w' => e = .returned (vB (List.any l big48)) ∧ Fr No w w') := by
 have _hu := hc_l; have _hv := hr_l; clear _hu _hv
 have _hu := hl; clear _hu
 refine enter_E 9 Tryz.func144 rfl rfl (by kernel_rfl) (L := [(0, vS A_l l.length c_l), (1, vF (.func 145) #[] #[])]) (by kernel_rfl) ?_
 intro ac hA
 have hW := Ws.start w No
 have hW := hW.arg hr_l
 refine wr <| st_p (vB false) hA ?_; clear hA ac; intro ac hA
 refine wn <| wr <| st_p (vS A_l l.length c_l) hA fun ac hA => st_p (vF (.func 145) #[] #[]) hA fun ac hA => st_s hA (Runs.callN (v := vI .i64 (idxP big48 l)) (fun _ => by kernel_rfl) hW (e_idxB A_l c_l l w ((hW).getG 0 rfl) (by first | assumption | omega | (simp; omega) | simp) (by first | omega | (simp; done))) ?_); clear hA ac hW; intro w1 hW hfw1 ac hA
 refine st_p (vB (decide ((idxP big48 l : Int) ≥ (0 : Int)))) hA fun ac hA => st_p (vB (decide ((idxP big48 l : Int) ≥ (0 : Int)))) hA fun ac hA => wn <| wp_ret <| r1 (vB (decide ((idxP big48 l : Int) ≥ (0 : Int)))) hA ?_
 clear hA
 exact ⟨retv (congrArg vB (idx_any _ _)), hW.fr⟩

set_option maxRecDepth 100000 in
theorem e_few (A_c : Option Addr) (c_c : Nat) (c : List Int) (w : World) (hr_c : RowAt w A_c 1 enU8 c) (hc_c : c.length ≤ c_c) : Calls Tryz.prog 129 #[vA #[vS A_c c.length c_c]] w (fun e w' => e = .returned (vB (decide (c.length ≤ 65536))) ∧ Fr No w w') := by
 have _hu := hc_c; have _hv := hr_c; clear _hu _hv
 refine enter_E 7 Tryz.func129 rfl rfl (by kernel_rfl) (L := [(0, vA #[vS A_c c.length c_c])]) (by kernel_rfl) ?_
 intro ac hA
 have hW := Ws.start w No
 have hW := hW.arg hr_c
 refine wr <| st_s hA (Runs.cells (fun b => pA b 0) #[vS A_c c.length c_c] 175 (fun _ => by kernel_rfl) hW ?_); clear hA ac hW; intro b1 w2 hW hb1 hfw2 ac hA
 refine st_p (vB false) hA ?_; clear hA ac; intro ac hA
 refine wn <| wr <| st_p (pA b1 0) hA fun ac hA => st_q (vS A_c c.length c_c) hA hW.cls (rl b1 0 0) fun ac hA => st_p (vI .i64 (c.length : Int)) hA fun ac hA => st_p (vB (decide ((c.length : Int) ≤ (65536 : Int)))) hA fun ac hA => st_p (vB (decide ((c.length : Int) ≤ (65536 : Int)))) hA fun ac hA => wn <| wp_ret <| r1 (vB (decide ((c.length : Int) ≤ (65536 : Int)))) hA ?_
 clear hA
 exact ⟨retv (by exact congrArg vB (decide_eq_decide.2 (by omega))), hW.fr⟩

set_option maxRecDepth 100000 in
theorem e_small (A_c : Option Addr) (c_c : Nat) (c : List Int) (w : World) (hr_c : RowAt w A_c 1 enU8 c) (hc_c : c.length ≤ c_c) (hl : c.length ≤ 100000) : Calls Tryz.prog 130 #[vA #[vS A_c c.length c_c]] w (fun e w' => e = .returned (vB (!(List.any c big48))) ∧ Fr No w w') := by
 have _hu := hc_c; have _hv := hr_c; clear _hu _hv
 have _hu := hl; clear _hu
 refine enter_E 7 Tryz.func130 rfl rfl (by kernel_rfl) (L := [(0, vA #[vS A_c c.length c_c])]) (by kernel_rfl) ?_
 intro ac hA
 have hW := Ws.start w No
 have hW := hW.arg hr_c
 refine wr <| st_s hA (Runs.cells (fun b => pA b 0) #[vS A_c c.length c_c] 175 (fun _ => by kernel_rfl) hW ?_); clear hA ac hW; intro b1 w2 hW hb1 hfw2 ac hA
 refine st_p (vB false) hA ?_; clear hA ac; intro ac hA
 refine wn <| wr <| st_p (pA b1 0) hA fun ac hA => st_q (vS A_c c.length c_c) hA hW.cls (rl b1 0 0) fun ac hA => st_s hA (Runs.callN (v := vB (List.any c big48)) (fun _ => by kernel_rfl) hW (e_contB A_c c_c c w2 ((hW).getG 0 rfl) (by first | assumption | omega | (simp; omega) | simp) (by omega)) ?_); clear hA ac hW; intro w3 hW hfw3 ac hA
 refine st_p (vB (!(List.any c big48))) hA fun ac hA => st_p (vB (!(List.any c big48))) hA fun ac hA => wn <| wp_ret <| r1 (vB (!(List.any c big48))) hA ?_
 clear hA
 exact ⟨retv (by rfl), hW.fr⟩

set_option maxRecDepth 100000 in
theorem e_vcheck (A_c : Option Addr) (c_c : Nat) (c : List Int) (w : World) (hr_c : RowAt w A_c 1 enU8 c) (hc_c : c.length ≤ c_c) (hl : c.length ≤ 100000) : Calls Tryz.prog 109 #[vS A_c c.length c_c] w (fun e w' => e = .returned (vI .i64 (argErr (vecOk c))) ∧ Fr No w w') := by
 have _hu := hc_c; have _hv := hr_c; clear _hu _hv
 have _hu := hl; clear _hu
 refine enter_E 22 Tryz.func109 rfl rfl (by kernel_rfl) (L := [(0, vS A_c c.length c_c)]) (by kernel_rfl) ?_
 intro ac hA
 have hW := Ws.start w No
 have hW := hW.arg hr_c
 refine wr <| st_p (vI .i64 0) hA ?_; clear hA ac; intro ac hA
 refine wn <| wr <| st_p (vS A_c c.length c_c) hA ?_; clear hA ac; intro ac hA
 refine st_s hA (Runs.callN (v := vA #[vS A_c c.length c_c]) (fun _ => by kernel_rfl) hW (e_vof A_c c_c c w ((hW).getG 0 rfl) (by first | assumption | omega | (simp; omega) | simp)) ?_); clear hA ac hW; intro w1 hW hfw1 ac hA
 refine st_s hA (Runs.cells (fun b => pA b 0) #[vS none 0 0] 175 (fun _ => by kernel_rfl) hW ?_); clear hA ac hW; intro b2 w3 hW hb2 hfw3 ac hA
 refine st_s hA (Runs.store (v := vA #[vS A_c c.length c_c]) (b := b2) (j := 0) (n := 1) (cs' := #[vS A_c c.length c_c]) (H' := [Cel b2 #[vS A_c c.length c_c] 175]) (by kernel_rfl) (by kernel_rfl) (by kernel_rfl) (by kernel_rfl) (by kernel_rfl) hW 0 (by rfl) (Nat.le_of_ble_eq_true (by kernel_rfl)) (by kernel_rfl) (by rfl) ?_); clear hA ac hW; intro w4 hW ac hA
 refine wn <| wp_seq <| wr <| st_q (vA #[vS A_c c.length c_c]) hA hW.cls (rl b2 0 0) fun ac hA => st_p (vF (.func 129) #[vA #[vS A_c c.length c_c]] #[]) hA fun ac hA => st_q (vA #[vS A_c c.length c_c]) hA hW.cls (rl b2 0 0) fun ac hA => st_p (vF (.func 130) #[vA #[vS A_c c.length c_c]] #[]) hA fun ac hA => st_s hA (Runs.cells (fun b => vS (some ⟨b, 0, none⟩) 2 2) #[vF (.func 129) #[vA #[vS A_c c.length c_c]] #[], vF (.func 130) #[vA #[vS A_c c.length c_c]] #[]] 24 (fun _ => by kernel_rfl) hW ?_); clear hA ac hW; intro b5 w6 hW hb5 hfw6 ac hA
 refine st_p (vI .i64 2) hA fun ac hA => st_p (vI .i64 0) hA fun ac hA => wn <| wp_block <| wp_loop_rounds 3 ?_
 rw [rounds_succ]
 refine wr <| st_p (vB true) hA ?_; clear hA ac; intro ac hA
 refine wn <| wp_seq <| wp_cond_true (hA.eval (by kernel_rfl)) <| wp_skip <| thenN <| wp_seq <| wp_block <| wr <| st_p (pA b5 0) hA fun ac hA => st_q (vF (.func 129) #[vA #[vS A_c c.length c_c]] #[]) hA hW.cls (rl b5 0 0) fun ac hA => st_p (vF (.func 129) #[vA #[vS A_c c.length c_c]] #[]) hA fun ac hA => wn <| wr <| st_p (vF (.func 129) #[vA #[vS A_c c.length c_c]] #[]) hA ?_; clear hA ac; intro ac hA
 refine st_s hA (Runs.callN (v := vB (decide (c.length ≤ 65536))) (fun _ => by kernel_rfl) hW (e_few A_c c_c c w6 ((hW).getG 0 rfl) (by first | assumption | omega | (simp; omega) | simp)) ?_); clear hA ac hW; intro w7 hW hfw7 ac hA
 refine st_p (vB (!(decide (c.length ≤ 65536)))) hA ?_; clear hA ac; intro ac hA
 refine wn <| wp_cond_split (t := !(decide (c.length ≤ 65536))) (hA.eval (by kernel_rfl)) (fun h8 => ?_) (fun h8 => ?_)
 ·
  have h8 := not_t h8
  refine wr <| st_p (vI .i64 2) hA ?_; clear hA ac; intro ac hA
  refine wn <| wp_ret <| blkR <| thenR <| thenR <| blkR <| thenR <| r1 (vI .i64 2) hA ?_
  clear hA
  exact ⟨retv (by unfold vecOk argErr; first | (simp_all; done) | (simp_all; omega) | (simp_all; intro h_; exfalso; omega)), hW.fr⟩
 have h8 := not_f h8
 refine wp_skip <| blkN <| thenN <| wp_region_lit <| st_q (vI .i64 1) hA hW.cls (Rd.pureE (v0 := vI .i64 (IntKind.i64.wrap ((0 : Int) + 1))) (fun _ => by kernel_rfl) (congrArg (vI .i64) ((w_i64 (x := (0 : Int) + 1) (by omega) (by omega)).trans (by omega)))) fun ac hA => st_p (vI .i64 1) hA fun ac hA => wn ?_
 rw [rounds_succ]
 refine wr <| st_p (vB true) hA ?_; clear hA ac; intro ac hA
 refine wn <| wp_seq <| wp_cond_true (hA.eval (by kernel_rfl)) <| wp_skip <| thenN <| wp_seq <| wp_block <| wr <| st_p (pA b5 1) hA fun ac hA => st_q (vF (.func 130) #[vA #[vS A_c c.length c_c]] #[]) hA hW.cls (rl b5 1 0) fun ac hA => st_p (vF (.func 130) #[vA #[vS A_c c.length c_c]] #[]) hA fun ac hA => wn <| wr <| st_p (vF (.func 130) #[vA #[vS A_c c.length c_c]] #[]) hA ?_; clear hA ac; intro ac hA
 refine st_s hA (Runs.callN (v := vB (!(List.any c big48))) (fun _ => by kernel_rfl) hW (e_small A_c c_c c w7 ((hW).getG 0 rfl) (by first | assumption | omega | (simp; omega) | simp) (by omega)) ?_); clear hA ac hW; intro w9 hW hfw9 ac hA
 refine st_p (vB (!(!(List.any c big48)))) hA ?_; clear hA ac; intro ac hA
 refine wn <| wp_cond_split (t := !(!(List.any c big48))) (hA.eval (by kernel_rfl)) (fun h10 => ?_) (fun h10 => ?_)
 ·
  have h10 := not_t h10
  have h10 := not_f h10
  refine wr <| st_p (vI .i64 2) hA ?_; clear hA ac; intro ac hA
  refine wn <| wp_ret <| blkR <| thenR <| thenR <| blkR <| thenR <| r1 (vI .i64 2) hA ?_
  clear hA
  exact ⟨retv (by unfold vecOk argErr; first | (simp_all; done) | (simp_all; omega) | (simp_all; intro h_; exfalso; omega)), hW.fr⟩
 have h10 := not_f h10
 have h10 := not_t h10
 refine wp_skip <| blkN <| thenN <| wp_region_lit <| st_q (vI .i64 2) hA hW.cls (Rd.pureE (v0 := vI .i64 (IntKind.i64.wrap ((1 : Int) + 1))) (fun _ => by kernel_rfl) (congrArg (vI .i64) ((w_i64 (x := (1 : Int) + 1) (by omega) (by omega)).trans (by omega)))) fun ac hA => st_p (vI .i64 2) hA fun ac hA => wn ?_
 rw [rounds_succ]
 refine wr <| st_p (vB false) hA ?_; clear hA ac; intro ac hA
 refine wn <| wp_seq <| wp_cond_false (hA.eval (by kernel_rfl)) <| wp_exit <| thenX <| thenX <| blkX <| thenN <| wr <| st_p (vI .i64 0) hA ?_; clear hA ac; intro ac hA
 refine wn <| wp_ret <| r1 (vI .i64 0) hA ?_
 clear hA
 exact ⟨retv (by unfold vecOk argErr; first | (simp_all; done) | (simp_all; omega) | (simp_all; intro h_; exfalso; omega)), hW.fr⟩

set_option maxRecDepth 100000 in
theorem e_parts (u : Ep) (w : World) (he : 0 ≤ u.ep ∧ u.ep ≤ 18446744073709551615) : Calls Tryz.prog 148 #[u.v] w (fun e w' => e = .returned (vA #[vI .u64 ((u.ep : Int) / 281474976710656), vI .u64 ((u.ep : Int) % 281474976710656)]) ∧ Fr No w w') := by
 have _hu := he; clear _hu
 refine enter_E 10 Tryz.func148 rfl rfl (by kernel_rfl) (L := [(0, u.v)]) (by kernel_rfl) ?_
 intro ac hA
 have hW := Ws.start w No
 refine wr <| st_s hA (Runs.cells (fun b => pA b 0) #[vI .u64 u.ep] 276 (fun _ => by kernel_rfl) hW ?_); clear hA ac hW; intro b1 w2 hW hb1 hfw2 ac hA
 refine st_s hA (Runs.cells (fun b => pA b 0) #[vI .u64 0, vI .u64 0] 274 (fun _ => by kernel_rfl) hW ?_); clear hA ac hW; intro b3 w4 hW hb3 hfw4 ac hA
 refine wn <| wr <| st_p (pA b1 0) hA fun ac hA => st_q (vI .u64 u.ep) hA hW.cls (rl b1 0 1) fun ac hA => st_q (vI .u64 ((u.ep : Int) / 281474976710656)) hA hW.cls (Rd.pureE (v0 := vI .u64 (Int.fdiv (u.ep : Int) (2 ^ 48))) (fun _ => by kernel_rfl) (congrArg (vI .u64) (by rw [Int.fdiv_eq_ediv_of_nonneg _ (by decide)]; rfl))) fun ac hA => st_p (pA b1 0) hA fun ac hA => st_q (vI .u64 u.ep) hA hW.cls (rl b1 0 1) fun ac hA => st_p (vI .u64 (bits .and .u64 (u.ep : Int) (281474976710655 : Int))) hA fun ac hA => st_p (vA #[vI .u64 ((u.ep : Int) / 281474976710656), vI .u64 (bits .and .u64 (u.ep : Int) (281474976710655 : Int))]) hA fun ac hA => st_s hA (Runs.store (v := vA #[vI .u64 ((u.ep : Int) / 281474976710656), vI .u64 (bits .and .u64 (u.ep : Int) (281474976710655 : Int))]) (b := b3) (j := 0) (n := 2) (cs' := #[vI .u64 ((u.ep : Int) / 281474976710656), vI .u64 (bits .and .u64 (u.ep : Int) (281474976710655 : Int))]) (H' := [Cel b3 #[vI .u64 ((u.ep : Int) / 281474976710656), vI .u64 (bits .and .u64 (u.ep : Int) (281474976710655 : Int))] 274, Cel b1 #[vI .u64 u.ep] 276]) (by kernel_rfl) (by kernel_rfl) (by kernel_rfl) (by kernel_rfl) (by kernel_rfl) hW 0 (by rfl) (Nat.le_of_ble_eq_true (by kernel_rfl)) (by kernel_rfl) (by rfl) ?_); clear hA ac hW; intro w5 hW ac hA
 refine wn <| wp_ret <| ret1 (v := vA #[vI .u64 ((u.ep : Int) / 281474976710656), vI .u64 (bits .and .u64 (u.ep : Int) (281474976710655 : Int))]) (by rfl) hA (Got.cell (b := b3) (i := 0) hA (by kernel_rfl) (by kernel_rfl) (hW.cel 0 rfl) (by kernel_rfl)) ?_
 clear hA
 exact ⟨retv (by rw [mask48 he.1 he.2]), hW.fr⟩

set_option maxRecDepth 100000 in
theorem e_fine1 (b : Bnd) (w : World)  : Calls Tryz.prog 147 #[b.v] w (fun e w' => e = .returned (vB (Bnd.ok b)) ∧ Fr No w w') := by
 refine enter_E 15 Tryz.func147 rfl rfl (by kernel_rfl) (L := [(0, b.v)]) (by kernel_rfl) ?_
 intro ac hA
 have hW := Ws.start w No
 refine wr <| st_s hA (Runs.cells (fun b => pA b 0) #[vI .u64 b.n, vI .u64 b.least, vI .u64 b.most] 244 (fun _ => by kernel_rfl) hW ?_); clear hA ac hW; intro b1 w2 hW hb1 hfw2 ac hA
 refine st_p (vB false) hA ?_; clear hA ac; intro ac hA
 refine wn <| wr <| st_p (pA b1 1) hA fun ac hA => st_q (vI .u64 b.least) hA hW.cls (rl b1 1 0) fun ac hA => st_p (pA b1 0) hA fun ac hA => st_q (vI .u64 b.n) hA hW.cls (rl b1 0 0) fun ac hA => st_p (vB (decide ((b.least : Int) ≤ (b.n : Int)))) hA fun ac hA => st_p (vB (decide ((b.least : Int) ≤ (b.n : Int)))) hA fun ac hA => ?_
 rcases Bool.eq_false_or_eq_true (decide ((b.least : Int) ≤ (b.n : Int))) with h3 | h3
 ·
  rw [h3] at hA
  have h3 := of_decide_eq_true h3
  refine st_p (pA b1 0) hA fun ac hA => st_q (vI .u64 b.n) hA hW.cls (rl b1 0 0) fun ac hA => st_p (pA b1 2) hA fun ac hA => st_q (vI .u64 b.most) hA hW.cls (rl b1 2 0) fun ac hA => st_p (vB (decide ((b.n : Int) ≤ (b.most : Int)))) hA fun ac hA => st_p (vB (decide ((b.n : Int) ≤ (b.most : Int)))) hA fun ac hA => st_p (vB (decide ((b.n : Int) ≤ (b.most : Int)))) hA fun ac hA => wn <| wp_ret <| r1 (vB (decide ((b.n : Int) ≤ (b.most : Int)))) hA ?_
  clear hA
  exact ⟨retv (by (refine congrArg vB ?_; unfold Bnd.ok; first | rfl | (simp_all; done) | (rw [Bool.eq_iff_iff]; simp_all; done) | (simp_all; omega))), hW.fr⟩
 rw [h3] at hA
 have h3 := of_decide_eq_false h3
 refine st_k hA fun ac hA => st_k hA fun ac hA => st_k hA fun ac hA => st_k hA fun ac hA => st_k hA fun ac hA => st_p (vB false) hA fun ac hA => st_p (vB false) hA fun ac hA => wn <| wp_ret <| r1 (vB false) hA ?_
 clear hA
 exact ⟨retv (by (refine congrArg vB ?_; unfold Bnd.ok; first | rfl | (simp_all; done) | (rw [Bool.eq_iff_iff]; simp_all; done) | (simp_all; omega))), hW.fr⟩

set_option maxRecDepth 100000 in
theorem e_all1 (x : Bnd) (t : Nat) (w : World) (ho_t : w.heap[t]? = some (.cells #[vF (.func 147) #[] #[]] 273 (0, 0))) : Calls Tryz.prog 161 #[x.v, pA t 0] w (fun e w' => e = .returned (vB (notOk x)) ∧ Fr No w w') := by
 have _hu := ho_t; clear _hu
 refine enter_E 8 Tryz.func161 rfl rfl (by kernel_rfl) (L := [(0, x.v), (1, pA t 0)]) (by kernel_rfl) ?_
 intro ac hA
 have hW := Ws.start w No
 have hW := hW.celG ho_t
 refine wr <| st_s hA (Runs.cells (fun b => pA b 0) #[vI .u64 x.n, vI .u64 x.least, vI .u64 x.most] 244 (fun _ => by kernel_rfl) hW ?_); clear hA ac hW; intro b1 w2 hW hb1 hfw2 ac hA
 refine st_p (vB false) hA ?_; clear hA ac; intro ac hA
 refine wn <| wr <| st_q (vF (.func 147) #[] #[]) hA hW.cls (Rd.load (b := t) (i := 0) (by kernel_rfl) (fun _ hw => show _ = _ from (hw.1).getG 0 rfl) (by kernel_rfl)) fun ac hA => st_q (vA #[vI .u64 x.n, vI .u64 x.least, vI .u64 x.most]) hA hW.cls (rl b1 0 0) fun ac hA => st_s hA (Runs.callN (v := vB (Bnd.ok x)) (fun _ => by kernel_rfl) hW (e_fine1 x w2) ?_); clear hA ac hW; intro w3 hW hfw3 ac hA
 refine st_p (vB (!(Bnd.ok x))) hA fun ac hA => st_p (vB (!(Bnd.ok x))) hA fun ac hA => wn <| wp_ret <| r1 (vB (!(Bnd.ok x))) hA ?_
 clear hA
 exact ⟨retv (by rfl), hW.fr⟩

set_option maxRecDepth 100000 in
theorem e_idxO (A_l : Option Addr) (c_l : Nat) (l : List Bnd) (f : Nat) (w : World) (hr_l : RowAt w A_l 3 enBnd l) (hc_l : l.length ≤ c_l) (ho_f : w.heap[f]? = some (.cells #[vF (.func 147) #[] #[]] 273 (0, 0))) (hl : l.length ≤ 500000) : Calls Tryz.prog 181 #[vS A_l l.length c_l, vF (.func 161) #[] #[pA f 0]] w (fun e w' => e = .returned (vI .i64 (idxP notOk l)) ∧ Fr No w w') := by
 have _hu := hc_l; have _hv := hr_l; clear _hu _hv
 have _hu := ho_f; clear _hu
 have _hu := hl; clear _hu
 refine enter_E 19 Tryz.func181 rfl rfl (by kernel_rfl) (L := [(0, vS A_l l.length c_l), (1, vF (.func 161) #[] #[pA f 0])]) (by kernel_rfl) ?_
 intro ac hA
 have hW := Ws.start w No
 have hW := hW.arg hr_l
 have hW := hW.celG ho_f
 refine wr <| st_p (vI .i64 0) hA ?_; clear hA ac; intro ac hA
 refine wn <| wp_seq <| wr <| st_p (vS A_l l.length c_l) hA fun ac hA => st_p (vI .i64 (l.length : Int)) hA fun ac hA => st_p (vI .i64 0) hA fun ac hA => wn <| wp_block <| wp_loop_m (fun m_ ac_ wl_ => ∃ k : Nat, m_ = l.length - k ∧ (k ≤ l.length) ∧ (∀ x ∈ l.take k, notOk x = false) ∧ Fm 19 [] [(0, vS A_l l.length c_l), (1, vF (.func 161) #[] #[pA f 0]), (7, vI .i64 (l.length : Int)), (8, vI .i64 (k : Int))] ac_ ∧ Ws w No [] [Cel f #[vF (.func 147) #[] #[]] 273, roR A_l 3 enBnd l] wl_) _ ⟨0, rfl, by omega, by intro x hx; simp at hx, hA.sub (by and_intros <;> first | kernel_rfl | trivial), (hW.pick [] (by decide) rfl).pickG [0, 1] rfl⟩ ?_
 clear hA ac hW; rintro m_ ac w1 ⟨k, rfl, hk, hn, hA, hW⟩
 refine wr <| st_p (vB (decide ((k : Int) < (l.length : Int)))) hA ?_; clear hA ac; intro ac hA
 refine wn <| wp_seq <| wp_cond_split (t := decide ((k : Int) < (l.length : Int))) (hA.eval (by kernel_rfl)) (fun h2 => ?_) (fun h2 => ?_)
 ·
  have h2 := of_decide_eq_true h2
  refine wp_skip <| thenN <| wp_seq <| wp_block <| wr <| st_p (vI .i64 (k : Int)) hA fun ac hA => st_p (vI .i64 (k : Int)) hA fun ac hA => wn <| wr <| st_p (vF (.func 161) #[] #[pA f 0]) hA fun ac hA => st_p (vS A_l l.length c_l) hA fun ac hA => st_p (vI .i64 (k : Int)) hA fun ac hA => ?_
  obtain ⟨y3, hy3⟩ : ∃ y, l[k]? = some y := ⟨_, List.getElem?_eq_getElem (by first | omega | (simp; done) | (simp; omega))⟩
  obtain ⟨b4, o5, rfl, hbb4⟩ := row_some ((hW).getG 1 rfl) hy3
  refine st_q (vP (some ⟨b4, o5 + k * 3, none⟩)) hA hW.cls (Rd.indexAddr (e := 244) (sz := 3) (b := b4) (off := o5) (n := l.length) (c := c_l) (k := k) (by kernel_rfl) (by kernel_rfl) (by first | omega | (simp; done) | (simp; omega)) (fun _ => by kernel_rfl) (fun _ => by kernel_rfl)) fun ac hA => st_q (vA #[vI .u64 y3.n, vI .u64 y3.least, vI .u64 y3.most]) hA hW.cls (Rd.loadRow (b := b4) (i := o5 + k * 3) (xs := [vI .u64 y3.n, vI .u64 y3.least, vI .u64 y3.most]) (by kernel_rfl) (fun _ hw => row_ld ((hw.1).getG 1 rfl) hy3 (Fr.refl No _) (fun h => h) 0 3 (by kernel_rfl)) (by kernel_rfl)) fun ac hA => st_s hA (Runs.callN (v := vB (notOk y3)) (fun _ => by kernel_rfl) hW (e_all1 y3 f w1 (show _ = _ from (hW).getG 0 rfl)) ?_); clear hA ac hW; intro w6 hW hfw6 ac hA
  refine wn <| wp_cond_split (t := notOk y3) (hA.eval (by kernel_rfl)) (fun h7 => ?_) (fun h7 => ?_)
  ·
   refine wr <| st_p (vI .i64 (k : Int)) hA fun ac hA => st_p (vI .i64 (k : Int)) hA fun ac hA => wn <| wp_ret <| blkR <| thenR <| thenR <| blkR <| thenR <| r1 (vI .i64 (k : Int)) hA ?_
   clear hA
   exact ⟨retv (congrArg (vI .i64) (idx_at hn hy3 h7).symm), hW.fr⟩
  refine wp_skip <| blkN <| thenN <| wp_region_lit <| st_q (vI .i64 ((k + 1 : Nat) : Int)) hA hW.cls (Rd.pureE (v0 := vI .i64 (IntKind.i64.wrap ((k : Int) + 1))) (fun _ => by kernel_rfl) (congrArg (vI .i64) ((w_i64 (x := (k : Int) + 1) (by omega) (by omega)).trans (by omega)))) fun ac hA => st_p (vI .i64 ((k + 1 : Nat) : Int)) hA fun ac hA => wn ?_
  exact ⟨l.length - (k + 1), by omega, k + 1, rfl, by omega, by intro x hx; rw [tk_snoc hy3] at hx; rcases List.mem_append.1 hx with hx | hx; exact hn x hx; (simp only [List.mem_singleton] at hx; subst hx; exact h7), hA.sub (by and_intros <;> first | kernel_rfl | trivial), (hW.pick [] (by decide) rfl).pickG [0, 1] rfl⟩
 have h2 := of_decide_eq_false h2
 refine wp_exit <| thenX <| thenX <| blkX <| thenN <| wr <| st_p (vI .i64 (-1)) hA ?_; clear hA ac; intro ac hA
 refine wn <| wp_ret <| r1 (vI .i64 (-1)) hA ?_
 clear hA
 exact ⟨retv (congrArg (vI .i64) (idx_no hn (by omega)).symm), hW.fr⟩

set_option maxRecDepth 100000 in
theorem e_contO (A_l : Option Addr) (c_l : Nat) (l : List Bnd) (f : Nat) (w : World) (hr_l : RowAt w A_l 3 enBnd l) (hc_l : l.length ≤ c_l) (ho_f : w.heap[f]? = some (.cells #[vF (.func 147) #[] #[]] 273 (0, 0))) (hl : l.length ≤ 500000) : Calls Tryz.prog 160 #[vS A_l l.length c_l, vF (.func 161) #[] #[pA f 0]] w (fun e w' => e = .returned (vB (List.any l notOk)) ∧ Fr No w w') := by
 have _hu := hc_l; have _hv := hr_l; clear _hu _hv
 have _hu := ho_f; clear _hu
 have _hu := hl; clear _hu
 refine enter_E 9 Tryz.func160 rfl rfl (by kernel_rfl) (L := [(0, vS A_l l.length c_l), (1, vF (.func 161) #[] #[pA f 0])]) (by kernel_rfl) ?_
 intro ac hA
 have hW := Ws.start w No
 have hW := hW.arg hr_l
 have hW := hW.celG ho_f
 refine wr <| st_p (vB false) hA ?_; clear hA ac; intro ac hA
 refine wn <| wr <| st_p (vS A_l l.length c_l) hA fun ac hA => st_p (vF (.func 161) #[] #[pA f 0]) hA fun ac hA => st_s hA (Runs.callN (v := vI .i64 (idxP notOk l)) (fun _ => by kernel_rfl) hW (e_idxO A_l c_l l f w ((hW).getG 1 rfl) (by first | assumption | omega | (simp; omega) | simp) (show _ = _ from (hW).getG 0 rfl) (by first | omega | (simp; done))) ?_); clear hA ac hW; intro w1 hW hfw1 ac hA
 refine st_p (vB (decide ((idxP notOk l : Int) ≥ (0 : Int)))) hA fun ac hA => st_p (vB (decide ((idxP notOk l : Int) ≥ (0 : Int)))) hA fun ac hA => wn <| wp_ret <| r1 (vB (decide ((idxP notOk l : Int) ≥ (0 : Int)))) hA ?_
 clear hA
 exact ⟨retv (congrArg vB (idx_any _ _)), hW.fr⟩

set_option maxRecDepth 100000 in
theorem e_eall (A_l : Option Addr) (c_l : Nat) (l : List Bnd) (w : World) (hr_l : RowAt w A_l 3 enBnd l) (hc_l : l.length ≤ c_l) (hl : l.length ≤ 1000) : Calls Tryz.prog 146 #[vF (.func 147) #[] #[], vS A_l l.length c_l] w (fun e w' => e = .returned (vB (List.all l Bnd.ok)) ∧ Fr No w w') := by
 have _hu := hc_l; have _hv := hr_l; clear _hu _hv
 have _hu := hl; clear _hu
 refine enter_E 9 Tryz.func146 rfl rfl (by kernel_rfl) (L := [(0, vF (.func 147) #[] #[]), (1, vS A_l l.length c_l)]) (by kernel_rfl) ?_
 intro ac hA
 have hW := Ws.start w No
 have hW := hW.arg hr_l
 refine wr <| st_s hA (Runs.cells (fun b => pA b 0) #[vF (.func 147) #[] #[]] 273 (fun _ => by kernel_rfl) hW ?_); clear hA ac hW; intro b1 w2 hW hb1 hfw2 ac hA
 refine st_p (vB false) hA ?_; clear hA ac; intro ac hA
 refine wn <| wr <| st_p (vS A_l l.length c_l) hA fun ac hA => st_p (vF (.func 161) #[] #[pA b1 0]) hA fun ac hA => st_s hA (Runs.callN (v := vB (List.any l notOk)) (fun _ => by kernel_rfl) hW (e_contO A_l c_l l b1 w2 ((hW).getG 0 rfl) (by first | assumption | omega | (simp; omega) | simp) ((hW).cel 0 rfl) (by omega)) ?_); clear hA ac hW; intro w3 hW hfw3 ac hA
 refine st_p (vB (!(List.any l notOk))) hA fun ac hA => st_p (vB (!(List.any l notOk))) hA fun ac hA => wn <| wp_ret <| r1 (vB (!(List.any l notOk))) hA ?_
 clear hA
 exact ⟨retv (by (exact congrArg vB (all_any l))), hW.fr⟩

set_option maxRecDepth 100000 in
theorem e_efine (A_l : Option Addr) (c_l : Nat) (l : List Bnd) (w : World) (hr_l : RowAt w A_l 3 enBnd l) (hc_l : l.length ≤ c_l) (hl : l.length ≤ 1000) : Calls Tryz.prog 131 #[vS A_l l.length c_l] w (fun e w' => e = .returned (vB (List.all l Bnd.ok)) ∧ Fr No w w') := by
 have _hu := hc_l; have _hv := hr_l; clear _hu _hv
 have _hu := hl; clear _hu
 refine enter_E 5 Tryz.func131 rfl rfl (by kernel_rfl) (L := [(0, vS A_l l.length c_l)]) (by kernel_rfl) ?_
 intro ac hA
 have hW := Ws.start w No
 have hW := hW.arg hr_l
 refine wr <| st_p (vB false) hA ?_; clear hA ac; intro ac hA
 refine wn <| wr <| st_p (vS A_l l.length c_l) hA ?_; clear hA ac; intro ac hA
 refine st_s hA (Runs.callN (v := vB (List.all l Bnd.ok)) (fun _ => by kernel_rfl) hW (e_eall A_l c_l l w ((hW).getG 0 rfl) (by first | assumption | omega | (simp; omega) | simp) (by omega)) ?_); clear hA ac hW; intro w1 hW hfw1 ac hA
 refine st_p (vB (List.all l Bnd.ok)) hA ?_; clear hA ac; intro ac hA
 refine wn <| wp_ret <| r1 (vB (List.all l Bnd.ok)) hA ?_
 clear hA
 exact ⟨retv (by rfl), hW.fr⟩

set_option maxRecDepth 100000 in
theorem e_pack (id : Int) (c : Int) (w : World) (hi : -9223372036854775808 ≤ id ∧ id ≤ 9223372036854775807) (hc : 0 ≤ c ∧ c ≤ 18446744073709551615) : Calls Tryz.prog 110 #[vI .i64 id, vI .u64 c] w (fun e w' => e = .returned (vT #[vI .u64 (packV id c), vI .i64 (argErr (packOk id c))]) ∧ Fr No w w') := by
 have _hu := hi; clear _hu
 have _hu := hc; clear _hu
 refine enter_E 23 Tryz.func110 rfl rfl (by kernel_rfl) (L := [(0, vI .i64 id), (1, vI .u64 c)]) (by kernel_rfl) ?_
 intro ac hA
 have hW := Ws.start w No
 refine wr <| st_p (vI .u64 0) hA fun ac hA => st_p (vI .i64 0) hA fun ac hA => wn <| wp_seq <| wr <| st_p (vI .i64 id) hA fun ac hA => st_p (vB (decide ((id : Int) < (0 : Int)))) hA fun ac hA => st_p (vB (decide ((id : Int) < (0 : Int)))) hA fun ac hA => ?_
 rcases Bool.eq_false_or_eq_true (decide ((id : Int) < (0 : Int))) with h1 | h1
 ·
  rw [h1] at hA
  have h1 := of_decide_eq_true h1
  refine st_k hA fun ac hA => st_k hA fun ac hA => st_k hA fun ac hA => st_k hA fun ac hA => st_k hA fun ac hA => st_k hA fun ac hA => st_k hA fun ac hA => st_k hA fun ac hA => st_p (vB true) hA fun ac hA => wn <| wp_cond_true (hA.eval (by kernel_rfl)) <| wr <| st_p (vI .u64 0) hA fun ac hA => st_p (vI .i64 2) hA fun ac hA => wn <| wp_ret <| thenR <| ret2 (v1 := vI .u64 0) (v2 := vI .i64 2) (by rfl) hA (Got.tmp hA (by kernel_rfl) (by kernel_rfl)) (Got.tmp hA (by kernel_rfl) (by kernel_rfl)) ?_
  clear hA
  have hp_ := pack_no (id := id) (c := c) (decide_eq_false (by first | omega | (rcases h1 with h_ | h_ | h_; omega; omega; cases h_) | (rcases h1 with h_ | h_; omega; cases h_)))
  exact ⟨retv (by rw [hp_.1, hp_.2]), hW.fr⟩
 rw [h1] at hA
 have h1 := of_decide_eq_false h1
 refine st_p (vI .i64 id) hA fun ac hA => st_q (vI .u64 id) hA hW.cls (Rd.pureE (v0 := vI .u64 (IntKind.u64.wrap (id))) (fun _ => by kernel_rfl) (congrArg (vI .u64) (w_u64 (x := id) (by omega) (by omega)))) fun ac hA => st_p (vA #[vI .u64 id, vI .u64 0, vI .u64 65535]) hA fun ac hA => st_p (vI .u64 c) hA fun ac hA => st_p (vA #[vI .u64 c, vI .u64 0, vI .u64 281474976710655]) hA fun ac hA => st_s hA (Runs.cells (fun b => vS (some ⟨b, 0, none⟩) 2 2) #[vI .u64 id, vI .u64 0, vI .u64 65535, vI .u64 c, vI .u64 0, vI .u64 281474976710655] 244 (fun _ => by kernel_rfl) hW ?_); clear hA ac hW; intro b2 w3 hW hb2 hfw3 ac hA
 refine st_s hA (Runs.callN (v := vB ((decide (0 ≤ (id : Int)) && decide ((id : Int) ≤ 65535)) && ((decide (0 ≤ (c : Int)) && decide ((c : Int) ≤ 281474976710655)) && true))) (fun _ => by kernel_rfl) hW (e_efine (some ⟨b2, 0, none⟩) 2 ([(⟨id, 0, 65535⟩ : Bnd), (⟨c, 0, 281474976710655⟩ : Bnd)] : List Bnd) w3 (rowAt_cel ((hW).cel 0 rfl) ([(⟨id, 0, 65535⟩ : Bnd), (⟨c, 0, 281474976710655⟩ : Bnd)] : List Bnd) (by rfl) elt_Bnd.len) (by first | assumption | omega | (simp; omega) | simp) (by first | omega | (simp; done))) ?_); clear hA ac hW; intro w4 hW hfw4 ac hA
 refine st_p (vB (!((decide (0 ≤ (id : Int)) && decide ((id : Int) ≤ 65535)) && ((decide (0 ≤ (c : Int)) && decide ((c : Int) ≤ 281474976710655)) && true)))) hA fun ac hA => st_p (vB (!((decide (0 ≤ (id : Int)) && decide ((id : Int) ≤ 65535)) && ((decide (0 ≤ (c : Int)) && decide ((c : Int) ≤ 281474976710655)) && true)))) hA fun ac hA => wn <| wp_cond_split (t := !((decide (0 ≤ (id : Int)) && decide ((id : Int) ≤ 65535)) && ((decide (0 ≤ (c : Int)) && decide ((c : Int) ≤ 281474976710655)) && true))) (hA.eval (by kernel_rfl)) (fun h5 => ?_) (fun h5 => ?_)
 ·
  have h5 := not_t h5
  simp only [Bool.and_eq_false_iff, decide_eq_false_iff_not] at h5
  refine wr <| st_p (vI .u64 0) hA fun ac hA => st_p (vI .i64 2) hA fun ac hA => wn <| wp_ret <| thenR <| ret2 (v1 := vI .u64 0) (v2 := vI .i64 2) (by rfl) hA (Got.tmp hA (by kernel_rfl) (by kernel_rfl)) (Got.tmp hA (by kernel_rfl) (by kernel_rfl)) ?_
  clear hA
  have hp_ := pack_no (id := id) (c := c) (decide_eq_false (by first | omega | (rcases h5 with h_ | h_ | h_; omega; omega; cases h_) | (rcases h5 with h_ | h_; omega; cases h_)))
  exact ⟨retv (by rw [hp_.1, hp_.2]), hW.fr⟩
 have h5 := not_f h5
 simp only [Bool.and_eq_true, decide_eq_true_eq] at h5
 refine wp_skip <| thenN <| wr <| st_p (vI .i64 id) hA fun ac hA => st_q (vI .u64 id) hA hW.cls (Rd.pureE (v0 := vI .u64 (IntKind.u64.wrap (id))) (fun _ => by kernel_rfl) (congrArg (vI .u64) (w_u64 (x := id) (by omega) (by omega)))) fun ac hA => st_p (vI .u64 (IntKind.u64.wrap ((id : Int) * 281474976710656))) hA fun ac hA => st_p (vI .u64 c) hA fun ac hA => st_p (vI .u64 (bits .or .u64 ((IntKind.u64.wrap ((id : Int) * 281474976710656)) : Int) (c : Int))) hA fun ac hA => st_p (vI .u64 (bits .or .u64 ((IntKind.u64.wrap ((id : Int) * 281474976710656)) : Int) (c : Int))) hA fun ac hA => st_p (vI .i64 0) hA fun ac hA => wn <| wp_ret <| ret2 (v1 := vI .u64 (bits .or .u64 ((IntKind.u64.wrap ((id : Int) * 281474976710656)) : Int) (c : Int))) (v2 := vI .i64 0) (by rfl) hA (Got.tmp hA (by kernel_rfl) (by kernel_rfl)) (Got.tmp hA (by kernel_rfl) (by kernel_rfl)) ?_
 clear hA
 have hp_ := pack_yes (id := id) (c := c) (decide_eq_true (by first | omega | (obtain ⟨h1_, h2_, -⟩ := h5; omega) | (obtain ⟨h1_, -⟩ := h5; omega)))
 have hr_ : 0 ≤ id ∧ id ≤ 65535 ∧ 0 ≤ c ∧ c ≤ 281474976710655 := (by first | omega | (obtain ⟨h1_, h2_, -⟩ := h5; omega) | (obtain ⟨h1_, -⟩ := h5; omega))
 exact ⟨retv (by rw [hp_.1, hp_.2, pack_or (by omega) (by omega) (by omega) (by omega)]), hW.fr⟩

set_option maxRecDepth 100000 in
theorem e_next (ep : Int) (en : Int) (w : World) (he : 0 ≤ ep ∧ ep ≤ 18446744073709551615) (hn : 0 ≤ en ∧ en ≤ 18446744073709551615) : Calls Tryz.prog 132 #[vI .u64 ep, vI .u64 en] w (fun e w' => e = .returned (vT #[vI .u64 (if nextErr ep en = 0 then ep + 1 else 0), vI .i64 (nextErr ep en)]) ∧ Fr No w w') := by
 have _hu := he; clear _hu
 have _hu := hn; clear _hu
 refine enter_E 20 Tryz.func132 rfl rfl (by kernel_rfl) (L := [(0, vI .u64 ep), (1, vI .u64 en)]) (by kernel_rfl) ?_
 intro ac hA
 have hW := Ws.start w No
 refine wr <| st_p (vI .u64 0) hA fun ac hA => st_p (vI .i64 0) hA fun ac hA => wn <| wp_fwd (l := 0) rfl <| wp_seq <| wr <| st_p (vI .i64 2) hA ?_; clear hA ac; intro ac hA
 refine wn <| wr <| st_p (vI .u64 en) hA fun ac hA => st_p (vA #[vI .u64 en, vI .u64 1, vI .u64 281474976710655]) hA fun ac hA => st_s hA (Runs.cells (fun b => vS (some ⟨b, 0, none⟩) 1 1) #[vI .u64 en, vI .u64 1, vI .u64 281474976710655] 244 (fun _ => by kernel_rfl) hW ?_); clear hA ac hW; intro b1 w2 hW hb1 hfw2 ac hA
 refine st_s hA (Runs.callN (v := vB ((decide (1 ≤ (en : Int)) && decide ((en : Int) ≤ 281474976710655)) && true)) (fun _ => by kernel_rfl) hW (e_efine (some ⟨b1, 0, none⟩) 1 ([(⟨en, 1, 281474976710655⟩ : Bnd)] : List Bnd) w2 (rowAt_cel ((hW).cel 0 rfl) ([(⟨en, 1, 281474976710655⟩ : Bnd)] : List Bnd) (by rfl) elt_Bnd.len) (by first | assumption | omega | (simp; omega) | simp) (by first | omega | assumption | (simp; done))) ?_); clear hA ac hW; intro w3 hW hfw3 ac hA
 refine st_p (vB (!((decide (1 ≤ (en : Int)) && decide ((en : Int) ≤ 281474976710655)) && true))) hA ?_; clear hA ac; intro ac hA
 refine wn <| wp_cond_split (t := !((decide (1 ≤ (en : Int)) && decide ((en : Int) ≤ 281474976710655)) && true)) (hA.eval (by kernel_rfl)) (fun h4 => ?_) (fun h4 => ?_)
 ·
  have h4 := not_t h4
  simp only [Bool.and_true, Bool.and_eq_false_iff, decide_eq_false_iff_not] at h4
  refine wp_goto <| thenG <| fwdG <| wp_seq <| wp_skip <| thenN <| wr <| st_p (vI .i64 2) hA fun ac hA => st_p (vI .u64 0) hA fun ac hA => st_p (vI .i64 2) hA fun ac hA => wn <| wp_ret <| nogR <| ret2 (v1 := vI .u64 0) (v2 := vI .i64 2) (by rfl) hA (Got.tmp hA (by kernel_rfl) (by kernel_rfl)) (Got.tmp hA (by kernel_rfl) (by kernel_rfl)) ?_
  clear hA
  have hx_ : nextErr ep en = 2 := by unfold nextErr; rw [if_pos (by first | omega | (rcases h4 with h_ | h_ | h_; omega; omega; cases h_) | (rcases h4 with h_ | h_; omega; cases h_))]
  exact ⟨retv (by rw [hx_]; rfl), hW.fr⟩
 have h4 := not_f h4
 simp only [Bool.and_true, Bool.and_eq_true, decide_eq_true_eq] at h4
 refine wp_skip <| thenN <| wp_seq <| wr <| st_p (vI .i64 130) hA ?_; clear hA ac; intro ac hA
 refine wn <| wr <| st_p (vI .u64 ep) hA fun ac hA => st_p (vA #[vI .u64 ep]) hA fun ac hA => st_s hA (Runs.callN (v := vA #[vI .u64 ((ep : Int) / 281474976710656), vI .u64 ((ep : Int) % 281474976710656)]) (fun _ => by kernel_rfl) hW (e_parts (⟨ep⟩ : Ep) w3 (by first | omega | assumption | (simp; done))) ?_); clear hA ac hW; intro w5 hW hfw5 ac hA
 refine st_p (vI .u64 ((ep : Int) % 281474976710656)) hA fun ac hA => st_p (vI .u64 en) hA fun ac hA => st_p (vB (decide (((ep : Int) % 281474976710656 : Int) ≥ (en : Int)))) hA fun ac hA => wn <| wp_cond_split (t := decide (((ep : Int) % 281474976710656 : Int) ≥ (en : Int))) (hA.eval (by kernel_rfl)) (fun h6 => ?_) (fun h6 => ?_)
 ·
  have h6 := of_decide_eq_true h6
  refine wp_goto <| thenG <| fwdG <| wp_seq <| wp_skip <| thenN <| wr <| st_p (vI .i64 130) hA fun ac hA => st_p (vI .u64 0) hA fun ac hA => st_p (vI .i64 130) hA fun ac hA => wn <| wp_ret <| nogR <| ret2 (v1 := vI .u64 0) (v2 := vI .i64 130) (by rfl) hA (Got.tmp hA (by kernel_rfl) (by kernel_rfl)) (Got.tmp hA (by kernel_rfl) (by kernel_rfl)) ?_
  clear hA
  have hr_ : 1 ≤ en ∧ en ≤ 281474976710655 := (by first | omega | (obtain ⟨h1_, h2_, -⟩ := h4; omega) | (obtain ⟨h1_, -⟩ := h4; omega))
  have hx_ : nextErr ep en = 130 := by unfold nextErr; rw [if_neg (by omega), if_pos (by omega)]
  exact ⟨retv (by rw [hx_]; rfl), hW.fr⟩
 have h6 := of_decide_eq_false h6
 refine wp_skip <| thenN <| wp_seq <| wr <| st_p (vI .u64 ep) hA fun ac hA => st_q (vI .u64 ((ep : Int) + 1)) hA hW.cls (Rd.pureE (v0 := vI .u64 (IntKind.u64.wrap ((ep : Int) + 1))) (fun _ => by kernel_rfl) (congrArg (vI .u64) ((w_u64 (x := (ep : Int) + 1) (by omega) (by omega)).trans (by omega)))) fun ac hA => st_p (vI .u64 ((ep : Int) + 1)) hA fun ac hA => st_p (vI .i64 0) hA fun ac hA => wn <| wp_ret <| thenR <| fwdR <| ret2 (v1 := vI .u64 ((ep : Int) + 1)) (v2 := vI .i64 0) (by rfl) hA (Got.tmp hA (by kernel_rfl) (by kernel_rfl)) (Got.tmp hA (by kernel_rfl) (by kernel_rfl)) ?_
 clear hA
 have hr_ : 1 ≤ en ∧ en ≤ 281474976710655 := (by first | omega | (obtain ⟨h1_, h2_, -⟩ := h4; omega) | (obtain ⟨h1_, -⟩ := h4; omega))
 have hx_ : nextErr ep en = 0 := by unfold nextErr; rw [if_neg (by omega), if_neg (by omega)]
 exact ⟨retv (by rw [hx_]; rfl), hW.fr⟩

set_option maxRecDepth 100000 in
theorem e_eparts (ep : Int) (w : World) (he : 0 ≤ ep ∧ ep ≤ 18446744073709551615) : Calls Tryz.prog 133 #[vI .u64 ep] w (fun e w' => e = .returned (vT #[vI .i64 ((ep : Int) / 281474976710656), vI .u64 ((ep : Int) % 281474976710656)]) ∧ Fr No w w') := by
 have _hu := he; clear _hu
 refine enter_E 13 Tryz.func133 rfl rfl (by kernel_rfl) (L := [(0, vI .u64 ep)]) (by kernel_rfl) ?_
 intro ac hA
 have hW := Ws.start w No
 refine wr <| st_p (vI .i64 0) hA fun ac hA => st_p (vI .u64 0) hA fun ac hA => wn <| wr <| st_p (vI .u64 ep) hA fun ac hA => st_p (vA #[vI .u64 ep]) hA fun ac hA => st_s hA (Runs.callN (v := vA #[vI .u64 ((ep : Int) / 281474976710656), vI .u64 ((ep : Int) % 281474976710656)]) (fun _ => by kernel_rfl) hW (e_parts (⟨ep⟩ : Ep) w (by first | omega | exact he)) ?_); clear hA ac hW; intro w1 hW hfw1 ac hA
 refine st_s hA (Runs.cells (fun b => pA b 0) #[vI .u64 0, vI .u64 0] 274 (fun _ => by kernel_rfl) hW ?_); clear hA ac hW; intro b2 w3 hW hb2 hfw3 ac hA
 refine st_s hA (Runs.store (v := vA #[vI .u64 ((ep : Int) / 281474976710656), vI .u64 ((ep : Int) % 281474976710656)]) (b := b2) (j := 0) (n := 2) (cs' := #[vI .u64 ((ep : Int) / 281474976710656), vI .u64 ((ep : Int) % 281474976710656)]) (H' := [Cel b2 #[vI .u64 ((ep : Int) / 281474976710656), vI .u64 ((ep : Int) % 281474976710656)] 274]) (by kernel_rfl) (by kernel_rfl) (by kernel_rfl) (by kernel_rfl) (by kernel_rfl) hW 0 (by rfl) (Nat.le_of_ble_eq_true (by kernel_rfl)) (by kernel_rfl) (by rfl) ?_); clear hA ac hW; intro w4 hW ac hA
 refine wn <| wp_seq <| q_region (by kernel_rfl) (by kernel_rfl) hW <| sq_p (pA b2 0) hA fun ac hA => sq_q (vI .u64 ((ep : Int) / 281474976710656)) hA (rl b2 0 0) fun ac hA => sq_q (vI .i64 ((ep : Int) / 281474976710656)) hA (Rd.pureE (v0 := vI .i64 (IntKind.i64.wrap ((ep : Int) / 281474976710656))) (fun _ => by kernel_rfl) (congrArg (vI .i64) (w_i64 (x := (ep : Int) / 281474976710656) (by omega) (by omega)))) fun ac hA => sq_p (pA b2 1) hA fun ac hA => sq_q (vI .u64 ((ep : Int) % 281474976710656)) hA (rl b2 1 0) fun ac hA => sq_p (vI .i64 ((ep : Int) / 281474976710656)) hA fun ac hA => sq_p (vI .u64 ((ep : Int) % 281474976710656)) hA fun ac hA => sq_nil ?_; intro w5 hww5; have hW := hww5.1; have hfw5 := hww5.2; clear hww5
 refine thenN <| wp_ret <| ret2 (v1 := vI .i64 ((ep : Int) / 281474976710656)) (v2 := vI .u64 ((ep : Int) % 281474976710656)) (by rfl) hA (Got.tmp hA (by kernel_rfl) (by kernel_rfl)) (Got.tmp hA (by kernel_rfl) (by kernel_rfl)) ?_
 clear hA
 exact ⟨retv (by rfl), hW.fr⟩

set_option maxRecDepth 100000 in
theorem e_vepoch (A_c : Option Addr) (c_c : Nat) (c : List Int) (id : Int) (w : World) (hr_c : RowAt w A_c 1 enU8 c) (hc_c : c.length ≤ c_c) (hl : c.length ≤ 100000) (hid : -9223372036854775808 ≤ id ∧ id ≤ 9223372036854775807) (hcc : ∀ n ∈ c, 0 ≤ n ∧ n ≤ 18446744073709551615) : Calls Tryz.prog 70 #[vS A_c c.length c_c, vI .i64 id] w (fun e w' => e = .returned (vT #[vI .u64 (epochV c id), vI .i64 (epochE c id)]) ∧ Fr No w w') := by
 have _hu := hc_c; have _hv := hr_c; clear _hu _hv
 have _hu := hl; clear _hu
 have _hu := hid; clear _hu
 have _hu := hcc; clear _hu
 refine enter_E 19 Tryz.func70 rfl rfl (by kernel_rfl) (L := [(0, vS A_c c.length c_c), (1, vI .i64 id)]) (by kernel_rfl) ?_
 intro ac hA
 have hW := Ws.start w No
 have hW := hW.arg hr_c
 refine wr <| st_p (vI .u64 0) hA fun ac hA => st_p (vI .i64 0) hA fun ac hA => wn <| wp_seq <| wr <| st_p (vS A_c c.length c_c) hA ?_; clear hA ac; intro ac hA
 refine st_s hA (Runs.callN (v := vI .i64 (argErr (vecOk c))) (fun _ => by kernel_rfl) hW (e_vcheck A_c c_c c w ((hW).getG 0 rfl) (by first | assumption | omega | (simp; omega) | simp) (by first | omega | assumption | exact getC_rng hcc)) ?_); clear hA ac hW; intro w1 hW hfw1 ac hA
 refine st_p (vI .i64 (argErr (vecOk c))) hA ?_; clear hA ac; intro ac hA
 refine wn <| wr <| st_p (vI .i64 (argErr (vecOk c))) hA fun ac hA => st_p (vB ((argErr (vecOk c) : Int) != (0 : Int))) hA fun ac hA => wn <| wp_cond_split (t := (argErr (vecOk c) : Int) != (0 : Int)) (hA.eval (by kernel_rfl)) (fun h2 => ?_) (fun h2 => ?_)
 ·
  have h2 := bne_iff_ne.1 h2
  refine wr <| st_p (vI .i64 (argErr (vecOk c))) hA fun ac hA => st_p (vI .u64 0) hA fun ac hA => st_p (vI .i64 (argErr (vecOk c))) hA fun ac hA => wn <| wp_ret <| thenR <| ret2 (v1 := vI .u64 0) (v2 := vI .i64 (argErr (vecOk c))) (by rfl) hA (Got.tmp hA (by kernel_rfl) (by kernel_rfl)) (Got.tmp hA (by kernel_rfl) (by kernel_rfl)) ?_
  clear hA
  exact ⟨retv (by (first | (rw [(epoch_no (by assumption)).1, (epoch_no (by assumption)).2]; done) | (rw [(epoch_yes (by first | assumption | omega)).1, (epoch_yes (by first | assumption | omega)).2]; done))), hW.fr⟩
 have h2 := of_bne_f h2
 refine wp_skip <| thenN <| wr <| st_p (vI .i64 id) hA fun ac hA => st_p (vS A_c c.length c_c) hA fun ac hA => st_p (vI .i64 id) hA fun ac hA => st_s hA (Runs.callN (v := vI .u64 (getC c (id))) (fun _ => by kernel_rfl) hW (e_vget A_c c_c c (id) w1 ((hW).getG 0 rfl) (by first | assumption | omega | (simp; omega) | simp) (by first | omega | assumption | exact getC_rng hcc)) ?_); clear hA ac hW; intro w3 hW hfw3 ac hA
 refine st_s hA (Runs.callN (v := vT #[vI .u64 (packV (id) (getC c (id))), vI .i64 (argErr (packOk (id) (getC c (id))))]) (fun _ => by kernel_rfl) hW (e_pack (id) (getC c (id)) w3 (by first | omega | assumption | exact getC_rng hcc) (by first | omega | assumption | exact getC_rng hcc)) ?_); clear hA ac hW; intro w4 hW hfw4 ac hA
 refine st_p (vI .u64 (packV (id) (getC c (id)))) hA fun ac hA => st_p (vI .i64 (argErr (packOk (id) (getC c (id))))) hA fun ac hA => st_p (vI .u64 (packV (id) (getC c (id)))) hA fun ac hA => st_p (vI .i64 (argErr (packOk (id) (getC c (id))))) hA fun ac hA => wn <| wp_ret <| ret2 (v1 := vI .u64 (packV (id) (getC c (id)))) (v2 := vI .i64 (argErr (packOk (id) (getC c (id))))) (by rfl) hA (Got.tmp hA (by kernel_rfl) (by kernel_rfl)) (Got.tmp hA (by kernel_rfl) (by kernel_rfl)) ?_
 clear hA
 exact ⟨retv (by (first | (rw [(epoch_no (by assumption)).1, (epoch_no (by assumption)).2]; done) | (rw [(epoch_yes (by first | assumption | omega)).1, (epoch_yes (by first | assumption | omega)).2]; done))), hW.fr⟩

end Go.Proofs.YtoakhhilmnfpkaaGreatDoor.L
