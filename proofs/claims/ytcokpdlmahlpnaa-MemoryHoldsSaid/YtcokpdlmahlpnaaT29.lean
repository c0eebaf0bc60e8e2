/- Contracts, walked by program over the engine's laws. -/
import Derived.Test.YtcokpdlmahlpnaaProg
import Derived.Test.YtcokpdlmahlpnaaT24
namespace Go.Proofs.Ytcokpdlmahlpnaa.L
open Go.RowKit

/-- An address is among words'; the second memory, behind so many; while the neighbour is laid anew. -/
def hasA (l : List Cell6) (a : Int) : Prop := ∃ x ∈ l, x.addr = a
def HoldInv (M s O : List Cell6) : Prop := ∀ a, (hasA s a → loadM O a = loadM M a) ∧ (¬ hasA s a → loadM O a = 0)
def HoldIn (M : List Cell6) (y : Cell6) (a5 : Int) (d s O : List Cell6) : Prop :=
  loadM O y.addr = y.word ∧ (hasA s a5 → loadM O a5 = loadM M a5) ∧ (¬ hasA s a5 → loadM O a5 = 0) ∧ ∀ a, a ≠ y.addr → a ≠ a5 → (hasA d a → loadM O a = loadM M a) ∧ (¬ hasA d a → loadM O a = 0)
theorem ins_all {l : List Cell6} : ∀ {L : List Cell6}, Rise L → Rise (List.foldl (fun L c => insM L c.addr c.word) L l) ∧ ∀ a, loadM (List.foldl (fun L c => insM L c.addr c.word) L l) a = l.foldl (fun v c => if a = c.addr then c.word else v) (loadM L a) := by
  induction l with
  | nil => exact fun h => ⟨h, fun _ => rfl⟩
  | cons c l ih => exact fun h => ⟨(ih (insM_rise h _ _)).1, fun a => by rw [List.foldl_cons, (ih (insM_rise h _ _)).2, List.foldl_cons, loadM_ins h]⟩
theorem fold_no {l : List Cell6} {a : Int} (h : ¬ hasA l a) : ∀ v : Int, l.foldl (fun v c => if a = c.addr then c.word else v) v = v := by
  induction l with
  | nil => exact fun _ => rfl
  | cons c l ih => intro v; rw [List.foldl_cons, if_neg (fun e => h ⟨c, .head _, e.symm⟩)]; exact ih (fun ⟨x, hx, e⟩ => h ⟨x, .tail _ hx, e⟩) v
theorem ins_last {l : List Cell6} {j : Nat} {y : Cell6} (h : l[j]? = some y) (hn : ¬ hasA (l.drop (j + 1)) y.addr) : loadM (List.foldl (fun L c => insM L c.addr c.word) [] l) y.addr = y.word := by
  rw [(ins_all (L := []) .nil).2]
  have e : l = l.take (j + 1) ++ l.drop (j + 1) := (List.take_append_drop _ _).symm
  rw [e, List.foldl_append, fold_no hn, tk_snoc h, List.foldl_append]
  simp
theorem ins_none {l : List Cell6} {a : Int} (h : ¬ hasA l a) : loadM (List.foldl (fun L c => insM L c.addr c.word) [] l) a = 0 := by
  rw [(ins_all (L := []) .nil).2, fold_no h]; rfl
theorem hasA_snoc {s : List Cell6} {z : Cell6} {a : Int} : hasA (s ++ [z]) a ↔ hasA s a ∨ z.addr = a := by
  constructor
  · rintro ⟨x, hx, e⟩
    rcases List.mem_append.1 hx with hx | hx
    · exact .inl ⟨x, hx, e⟩
    · simp only [List.mem_singleton] at hx; subst hx; exact .inr e
  · rintro (⟨x, hx, e⟩ | e)
    · exact ⟨x, List.mem_append.2 (.inl hx), e⟩
    · exact ⟨z, by simp, e⟩
theorem hasA_cons {s : List Cell6} {z : Cell6} {a : Int} : hasA (z :: s) a ↔ z.addr = a ∨ hasA s a := by
  constructor
  · rintro ⟨x, hx, e⟩
    rcases List.mem_cons.1 hx with rfl | hx
    · exact .inl e
    · exact .inr ⟨x, hx, e⟩
  · rintro (e | ⟨x, hx, e⟩)
    · exact ⟨z, .head _, e⟩
    · exact ⟨x, .tail _ hx, e⟩
theorem not_hasA_nil {a : Int} : ¬ hasA [] a := fun ⟨_, hx, _⟩ => by cases hx
theorem hold_nil {M s : List Cell6} (h : s = []) : HoldInv M s [] := by
  subst h; exact fun a => ⟨fun h => (not_hasA_nil h).elim, fun _ => rfl⟩
theorem hold_start {M d O : List Cell6} {y : Cell6} {a5 : Int} (hO : Rise O) (h : HoldInv M d O) (hne : a5 ≠ y.addr) : HoldIn M y a5 d [] (List.foldl (fun L c => insM L c.addr c.word) O [⟨a5, 0⟩, y, y]) := by
  have e : ∀ a, loadM (List.foldl (fun L c => insM L c.addr c.word) O [⟨a5, 0⟩, y, y]) a = if a = y.addr then y.word else if a = a5 then 0 else loadM O a := fun a => by
    rw [(ins_all hO).2]; simp only [List.foldl_cons, List.foldl_nil]; split <;> rfl
  refine ⟨by rw [e, if_pos rfl], fun h => (not_hasA_nil h).elim, fun _ => by rw [e, if_neg hne, if_pos rfl], fun a h1 h2 => ?_⟩
  rw [e, if_neg h1, if_neg h2]; exact h a
theorem hold_yes {M d s O : List Cell6} {y z : Cell6} {a5 wd : Int} (hO : Rise O) (h : HoldIn M y a5 d s O) (hne : a5 ≠ y.addr) (hz : z.addr = a5) (hw : wd = loadM M z.addr) : HoldIn M y a5 d (s ++ [z]) (List.foldl (fun L c => insM L c.addr c.word) O ([⟨z.addr, wd⟩] : List Cell6)) := by
  subst hz
  have e : ∀ a, loadM (List.foldl (fun L c => insM L c.addr c.word) O ([⟨z.addr, wd⟩] : List Cell6)) a = if a = z.addr then wd else loadM O a := fun a => loadM_ins hO _ _ _
  refine ⟨by rw [e, if_neg (Ne.symm hne)]; exact h.1, fun _ => by rw [e, if_pos rfl, hw], fun hn => (hn (hasA_snoc.2 (.inr rfl))).elim, fun a h1 h2 => ?_⟩
  rw [e, if_neg h2]; exact h.2.2.2 a h1 h2
theorem hold_no {M d s O : List Cell6} {y z : Cell6} {a5 : Int} (h : HoldIn M y a5 d s O) (hz : z.addr ≠ a5) : HoldIn M y a5 d (s ++ [z]) O :=
  ⟨h.1, fun q => h.2.1 ((hasA_snoc.1 q).resolve_right hz), fun q => h.2.2.1 fun r => q (hasA_snoc.2 (.inl r)), h.2.2.2⟩
theorem hold_end {M d O : List Cell6} {y : Cell6} {a5 : Int} (h : HoldIn M y a5 d d O) (hne : a5 ≠ y.addr) (hM : loadM M y.addr = y.word) : HoldInv M (y :: d) O := fun a => by
  by_cases h1 : a = y.addr
  · subst h1; exact ⟨fun _ => h.1.trans hM.symm, fun q => (q (hasA_cons.2 (.inl rfl))).elim⟩
  · have e : hasA (y :: d) a ↔ hasA d a := ⟨fun q => (hasA_cons.1 q).resolve_left (fun r => h1 r.symm), fun q => hasA_cons.2 (.inr q)⟩
    rw [e]
    by_cases h2 : a = a5
    · subst h2; exact ⟨h.2.1, h.2.2.1⟩
    · exact h.2.2.2 a h1 h2
theorem hold_later {M d O : List Cell6} {y : Cell6} (h : HoldInv M d O) (hl : hasA d y.addr) : HoldInv M (y :: d) O := fun a => by
  have e : hasA (y :: d) a ↔ hasA d a := ⟨fun q => (hasA_cons.1 q).elim (fun r => r ▸ hl) id, fun q => hasA_cons.2 (.inr q)⟩
  rw [e]; exact h a
theorem hold_all {k q : Nat} {l O : List Cell6} {V W : VT6} (rM : Rel06 k (List.foldl (fun L c => insM L c.addr c.word) [] l) V) (rO : Rel06 q O W) (h : HoldInv (List.foldl (fun L c => insM L c.addr c.word) [] l) l O) : O = List.foldl (fun L c => insM L c.addr c.word) [] l := by
  refine rO.lists rM fun a => ?_
  rw [rO.wd, rM.wd]
  by_cases q : hasA l a
  · exact (h a).1 q
  · rw [(h a).2 q, ins_none q]
theorem drop_at {l : List Cell6} {j : Nat} {y : Cell6} (h : l[j]? = some y) : l.drop j = y :: l.drop (j + 1) := by
  obtain ⟨hj, e⟩ := List.getElem?_eq_some_iff.1 h
  rw [← e]; exact List.drop_eq_getElem_cons hj
theorem td_snoc {l : List Cell6} {j k : Nat} {z : Cell6} (h : l[k]? = some z) (hj : j ≤ k) : (l.take (k + 1)).drop j = (l.take k).drop j ++ [z] := by
  have hk := (List.getElem?_eq_some_iff.1 h).1
  rw [tk_snoc h, List.drop_append_of_le_length (by rw [List.length_take]; omega)]
def LateInv (l : List Cell6) (j : Nat) (y : Cell6) (k : Nat) (lt : Bool) : Prop := (lt = true → hasA (l.drop (j + 1)) y.addr) ∧ (lt = false → ¬ hasA ((l.take k).drop (j + 1)) y.addr)
theorem late_start {l : List Cell6} {j : Nat} {y : Cell6} : LateInv l j y (j + 1) false := by
  refine ⟨fun h => (by cases h), fun _ => ?_⟩
  rw [List.drop_of_length_le (by rw [List.length_take]; omega)]
  exact not_hasA_nil
theorem late_yes {l : List Cell6} {j k : Nat} {y : Cell6} {lt : Bool} (h : LateInv l j y k lt) (e : lt = true) : LateInv l j y (k + 1) true := ⟨fun _ => h.1 e, fun h => (by cases h)⟩
theorem late_no {l : List Cell6} {j k : Nat} {y z : Cell6} {lt : Bool} (h : LateInv l j y k lt) (e : lt = false) (hz : l[k]? = some z) (hj : j + 1 ≤ k) : LateInv l j y (k + 1) (z.addr == y.addr) := by
  refine ⟨fun q => ⟨z, ?_, eq_of_beq q⟩, fun q => ?_⟩
  · exact List.mem_of_getElem? (i := k - (j + 1)) (by rw [List.getElem?_drop, show j + 1 + (k - (j + 1)) = k from by omega]; exact hz)
  · rw [td_snoc hz hj, hasA_snoc]
    rintro (r | r)
    · exact h.2 e r
    · rw [r] at q; simp at q
theorem xor5 {a : Int} (h : 0 ≤ a ∧ a ≤ 4294967295) : (0 ≤ bits .xor .u32 a 5 ∧ bits .xor .u32 a 5 ≤ 4294967295) ∧ bits .xor .u32 a 5 ≠ a := by
  obtain ⟨n, rfl⟩ : ∃ n : Nat, a = (n : Int) := ⟨a.toNat, by omega⟩
  have h2 : n < 4294967296 := by omega
  have ha : (BitVec.ofInt 32 (n : Int)).toNat = n := by rw [BitVec.ofInt_natCast, BitVec.toNat_ofNat]; exact Nat.mod_eq_of_lt (by omega)
  have hx : n ^^^ 5 < 4294967296 := Nat.xor_lt_two_pow (n := 32) h2 (by decide)
  have e : bits .xor .u32 (n : Int) 5 = ((n ^^^ 5 : Nat) : Int) := by
    show IntKind.u32.wrap ((BitVec.ofInt 32 (n : Int) ^^^ BitVec.ofInt 32 (5 : Int)).toNat : Int) = _
    rw [BitVec.toNat_xor, ha, show (BitVec.ofInt 32 (5 : Int)).toNat = 5 from by decide]
    rw [show IntKind.u32.wrap ((n ^^^ 5 : Nat) : Int) = ((n ^^^ 5 : Nat) : Int) % 4294967296 from by simp [IntKind.wrap, IntKind.bits, IntKind.signed]]
    omega
  rw [e]
  refine ⟨by omega, fun q => ?_⟩
  have q2 : n ^^^ 5 = n := by omega
  have q3 : n ^^^ (n ^^^ 5) = n ^^^ n := by rw [q2]
  rw [← Nat.xor_assoc, Nat.xor_self, Nat.zero_xor] at q3
  cases q3
theorem Rel06.load_rng {k : Nat} {L : List Cell6} {V : VT6} (r : Rel06 k L V) (a : Int) : 0 ≤ loadM L a ∧ loadM L a ≤ 4294967295 := by
  by_cases h : loadM L a = 0
  · rw [h]; omega
  · exact (r.rng _ (mem_loadM h)).2.1
set_option maxRecDepth 100000 in
theorem e_holds06 (A_l : Option Addr) (c_l : Nat) (l : List Cell6) (w : World) (hr_l : RowAt w A_l 2 enCell6 l) (hc_l : l.length ≤ c_l) (hwf : ∀ x ∈ l, (0 ≤ x.addr ∧ x.addr ≤ 4294967295) ∧ (0 ≤ x.word ∧ x.word ≤ 4294967295)) : Calls Try.prog 3 #[Value.slice A_l l.length c_l] w (fun e w' => e = .returned (Value.bool true) ∧ Fr No w w') := by
 have _hu := hc_l; have _hv := hr_l; clear _hu _hv
 have _hu := hwf; clear _hu
 refine enter_E 158 Try.func3 rfl rfl (by kernel_rfl) (L := [(0, Value.slice A_l l.length c_l)]) (by kernel_rfl) ?_
 intro ac hA
 have hW := Ws.start w No
 have hW := hW.arg hr_l
 refine wp_seq ?_
 refine wp_region_lit ?_
 refine st_rd (v := Value.bool false) hA (by kernel_rfl) (by kernel_rfl) (by kernel_rfl) hW.cls (Rd.pure fun _ => by kernel_rfl) ?_; clear hA ac; intro ac hA
 refine wpList_nil ?_
 refine thenN ?_
 refine wp_seq ?_
 refine wp_seq ?_
 refine wp_region_lit ?_
 refine st_rd (v := Value.slice A_l l.length c_l) hA (by kernel_rfl) (by kernel_rfl) (by kernel_rfl) hW.cls (Rd.pure fun _ => by kernel_rfl) ?_; clear hA ac; intro ac hA
 refine st_rd (v := Value.int .i64 ((l.length : Nat) : Int)) hA (by kernel_rfl) (by kernel_rfl) (by kernel_rfl) hW.cls (Rd.pure fun _ => by kernel_rfl) ?_; clear hA ac; intro ac hA
 refine st_rd (v := Value.bool (decide ((((l.length : Nat) : Int) : Int) > (30 : Int)))) hA (by kernel_rfl) (by kernel_rfl) (by kernel_rfl) hW.cls (Rd.pure fun _ => by kernel_rfl) ?_; clear hA ac; intro ac hA
 refine wpList_nil ?_
 refine thenN ?_
 refine wp_cond_split (t := decide ((((l.length : Nat) : Int) : Int) > (30 : Int))) (hA.eval (by kernel_rfl)) (fun h1 => ?_) (fun h1 => ?_)
 · skip
   have h1 := of_decide_eq_true h1
   first
   | (exfalso; clear hA hW; omega)
   | (exfalso; clear hA hW; exact absurd (hlt_t.symm.trans h1) (by decide); done)
   | (
     refine wp_seq ?_
     refine wp_region_lit ?_
     refine st hA (by kernel_rfl) (by kernel_rfl) (by kernel_rfl) (Runs.callN (v := Value.bool true) (fun _ => by kernel_rfl) hW (e_works06 w) ?_); clear hA ac hW; intro w2 hW hfw2 ac hA
     refine st_rd (v := Value.bool true) hA (by kernel_rfl) (by kernel_rfl) (by kernel_rfl) hW.cls (Rd.pure fun _ => by kernel_rfl) ?_; clear hA ac; intro ac hA
     refine wpList_nil ?_
     refine thenN ?_
     refine wp_ret ?_
     refine thenR ?_
     refine ret1 (v := Value.bool true) (by rfl) hA (Got.tmp hA (by kernel_rfl) (by kernel_rfl)) ?_
     clear hA
     exact ⟨retv (by rfl), hW.fr⟩)
 · skip
   have h1 := of_decide_eq_false h1
   first
   | (exfalso; clear hA hW; omega)
   | (exfalso; clear hA hW; exact absurd (hlt_t.symm.trans h1) (by decide); done)
   | (
     refine wp_skip ?_
     refine thenN ?_
     refine wp_seq ?_
     refine wp_region_lit ?_
     refine st hA (by kernel_rfl) (by kernel_rfl) (by kernel_rfl) (Runs.call (fun _ => by kernel_rfl) (e_mnew w) ?_)
     rintro _ w3 ⟨n4, n5, rfl, hu_⟩; refine ⟨_, rfl, ?_⟩; replace hW := hW.made hu_; clear hA ac; intro ac hA
     have hq6 : Rel06 0 ([] : List Cell6) ([] : List (Int × Nat × (Nat → Int))) := Rel06.start
     refine st hA (by kernel_rfl) (by kernel_rfl) (by kernel_rfl) (Runs.call (fun _ => by kernel_rfl) (e_mnew w3) ?_)
     rintro _ w7 ⟨n8, n9, rfl, hu_⟩; refine ⟨_, rfl, ?_⟩; replace hW := hW.made hu_; clear hA ac; intro ac hA
     have hq10 : Rel06 0 ([] : List Cell6) ([] : List (Int × Nat × (Nat → Int))) := Rel06.start
     refine st_rd (v := Value.pointer (some ⟨n4, 0, none⟩)) hA (by kernel_rfl) (by kernel_rfl) (by kernel_rfl) hW.cls (Rd.pure fun _ => by kernel_rfl) ?_; clear hA ac; intro ac hA
     refine st_rd (v := Value.pointer (some ⟨n8, 0, none⟩)) hA (by kernel_rfl) (by kernel_rfl) (by kernel_rfl) hW.cls (Rd.pure fun _ => by kernel_rfl) ?_; clear hA ac; intro ac hA
     refine wpList_nil ?_
     refine thenN ?_
     refine wp_seq ?_
     refine wp_seq ?_
     refine wp_region_lit ?_
     refine st_rd (v := Value.int .i64 0) hA (by kernel_rfl) (by kernel_rfl) (by kernel_rfl) hW.cls (Rd.pure fun _ => by kernel_rfl) ?_; clear hA ac; intro ac hA
     refine wpList_nil ?_
     refine thenN ?_
     refine wp_block ?_
     refine wp_loop_m (fun m_ ac_ wl_ => ∃ k : Nat, ∃ V : VT6, m_ = l.length - k ∧ (k ≤ l.length) ∧ (Rel06 k (List.foldl (fun L c => insM L c.addr c.word) [] (l.take k)) V) ∧ Fm 158 [] [(0, Value.slice A_l l.length c_l), (3, Value.pointer (some ⟨n4, 0, none⟩)), (4, Value.pointer (some ⟨n8, 0, none⟩)), (5, Value.int .i64 ((k : Nat) : Int))] ac_ ∧ Ws w No [MemR n8 n9 ([] : List (Int × Nat × (Nat → Int))), MemR n4 n5 V] [roR A_l 2 enCell6 l] wl_) _ ⟨0, ([] : List (Int × Nat × (Nat → Int))), rfl, by omega, by exact Rel06.start, hA.sub ⟨⟨by kernel_rfl, by kernel_rfl⟩, ⟨by kernel_rfl, by kernel_rfl⟩, ⟨by kernel_rfl, by kernel_rfl⟩, ⟨by kernel_rfl, by kernel_rfl⟩, trivial⟩, (hW.pick [0, 1] (by decide) rfl).pickG [0] rfl⟩ ?_
     clear hA ac hW; rintro m_ ac w11 ⟨k, V, rfl, hk, hR_, hA, hW⟩
     refine wp_seq ?_
     refine wp_seq ?_
     refine wp_region_lit ?_
     refine st_rd (v := Value.int .i64 ((k : Nat) : Int)) hA (by kernel_rfl) (by kernel_rfl) (by kernel_rfl) hW.cls (Rd.pure fun _ => by kernel_rfl) ?_; clear hA ac; intro ac hA
     refine st_rd (v := Value.slice A_l l.length c_l) hA (by kernel_rfl) (by kernel_rfl) (by kernel_rfl) hW.cls (Rd.pure fun _ => by kernel_rfl) ?_; clear hA ac; intro ac hA
     refine st_rd (v := Value.int .i64 ((l.length : Nat) : Int)) hA (by kernel_rfl) (by kernel_rfl) (by kernel_rfl) hW.cls (Rd.pure fun _ => by kernel_rfl) ?_; clear hA ac; intro ac hA
     refine st_rd (v := Value.bool (decide ((((k : Nat) : Int) : Int) < (((l.length : Nat) : Int) : Int)))) hA (by kernel_rfl) (by kernel_rfl) (by kernel_rfl) hW.cls (Rd.pure fun _ => by kernel_rfl) ?_; clear hA ac; intro ac hA
     refine wpList_nil ?_
     refine thenN ?_
     refine wp_cond_split (t := decide ((((k : Nat) : Int) : Int) < (((l.length : Nat) : Int) : Int))) (hA.eval (by kernel_rfl)) (fun h12 => ?_) (fun h12 => ?_)
     · skip
       have h12 := of_decide_eq_true h12
       first
       | (exfalso; clear hA hW; omega)
       | (exfalso; clear hA hW; exact absurd (hlt_t.symm.trans h12) (by decide); done)
       | (
         refine wp_skip ?_
         refine thenN ?_
         refine wp_seq ?_
         refine wp_block ?_
         obtain ⟨y13, hy13⟩ : ∃ y, l[k]? = some y := ⟨_, List.getElem?_eq_getElem (by omega)⟩
         obtain ⟨b14, o15, rfl, hbb14⟩ := row_some ((hW).getG 0 rfl) hy13
         refine wp_region_lit ?_
         refine st_rd (v := Value.pointer (some ⟨n4, 0, none⟩)) hA (by kernel_rfl) (by kernel_rfl) (by kernel_rfl) hW.cls (Rd.pure fun _ => by kernel_rfl) ?_; clear hA ac; intro ac hA
         refine st_rd (v := Value.slice (some ⟨b14, o15, none⟩) l.length c_l) hA (by kernel_rfl) (by kernel_rfl) (by kernel_rfl) hW.cls (Rd.pure fun _ => by kernel_rfl) ?_; clear hA ac; intro ac hA
         refine st_rd (v := Value.int .i64 ((k : Nat) : Int)) hA (by kernel_rfl) (by kernel_rfl) (by kernel_rfl) hW.cls (Rd.pure fun _ => by kernel_rfl) ?_; clear hA ac; intro ac hA
         refine st_rd (v := Value.pointer (some ⟨b14, o15 + k * 2, none⟩)) hA (by kernel_rfl) (by kernel_rfl) (by kernel_rfl) hW.cls (Rd.indexAddr (e := 30) (sz := 2) (b := b14) (off := o15) (n := l.length) (c := c_l) (k := k) (by kernel_rfl) (by kernel_rfl) (by first | omega | (simp; done) | (simp; omega)) (fun _ => by kernel_rfl) (fun _ => by kernel_rfl)) ?_; clear hA ac; intro ac hA
         refine st_rd (v := Value.agg #[Value.int .u32 y13.addr, Value.int .u32 y13.word]) hA (by kernel_rfl) (by kernel_rfl) (by kernel_rfl) hW.cls (Rd.loadRow (b := b14) (i := o15 + k * 2) (xs := [Value.int .u32 y13.addr, Value.int .u32 y13.word]) (by kernel_rfl) (fun _ hw => row_ld ((hw.1).getG 0 rfl) hy13 (Fr.refl No _) (fun h => h) 0 2 (by kernel_rfl)) (by kernel_rfl)) ?_; clear hA ac; intro ac hA
         refine st hA (by kernel_rfl) (by kernel_rfl) (by kernel_rfl) (Runs.cells (fun b => Value.slice (some ⟨b, 0, none⟩) 1 1) #[Value.int .u32 y13.addr, Value.int .u32 y13.word] 30 (fun _ => by kernel_rfl) hW ?_); clear hA ac hW; intro b16 w17 hW hb16 hfw17 ac hA
         have hW := hW.share 0 rfl (H' := [MemR n8 n9 ([] : List (Int × Nat × (Nat → Int))), MemR n4 n5 V]) rfl
         have hW := hW.nestG (roR (some ⟨b16, 0, none⟩) 2 enCell6 ([y13] : List Cell6)) (rowAt_cel (show _ = _ from hW.getG 0 rfl) ([y13] : List Cell6) (by rfl) elt_Cell6.len) (fun _ hb_ => ⟨_, List.mem_of_getElem? (i := 0) rfl, cel_fp _ hb_⟩)
         refine st hA (by kernel_rfl) (by kernel_rfl) (by kernel_rfl) (Runs.call (fun _ => by kernel_rfl) (e_mstore n4 n5 V (some ⟨b16, 0, none⟩) 1 ([y13] : List Cell6) w17 ((hW).get 1 rfl) ((hW).lt _ (List.mem_of_getElem? (i := 1) rfl)) ((hW).getG 0 rfl) (by first | assumption | omega | (simp; omega) | simp) ((hW).gd _ (List.mem_of_getElem? (i := 0) rfl) _ (List.mem_of_getElem? (i := 1) rfl)) (by first | omega | assumption | (simp; done) | (constructor <;> omega) | exact (by assumption : (0 ≤ _ ∧ _ ≤ (4294967295 : Int)) ∧ (0 ≤ _ ∧ _ ≤ (4294967295 : Int))).1 | (intro x hx; simp only [List.mem_singleton] at hx; subst hx; exact hwf _ (List.mem_of_getElem? (by assumption)))) (by first | omega | assumption | (simp; done) | (constructor <;> omega) | exact (by assumption : (0 ≤ _ ∧ _ ≤ (4294967295 : Int)) ∧ (0 ≤ _ ∧ _ ≤ (4294967295 : Int))).1 | (intro x hx; simp only [List.mem_singleton] at hx; subst hx; exact hwf _ (List.mem_of_getElem? (by assumption))))) ?_)
         rintro _ w18 ⟨u19, rfl, hw18_hS, hu_⟩; refine ⟨_, rfl, ?_⟩; replace hW := hW.upd (H' := [MemR n8 n9 ([] : List (Int × Nat × (Nat → Int))), MemR n4 n5 u19]) 1 rfl hu_ rfl; clear hA ac; intro ac hA
         have hq20 : Rel06 (k + (([y13] : List Cell6)).length) (List.foldl (fun L c => insM L c.addr c.word) (List.foldl (fun L c => insM L c.addr c.word) [] (l.take k)) ([y13] : List Cell6)) u19 := hR_.storeR hw18_hS (by first | assumption | (intro x hx; simp only [List.mem_singleton] at hx; subst hx; exact hwf _ (List.mem_of_getElem? (by assumption))) | (intro x hx; simp only [List.mem_singleton] at hx; subst hx; assumption) | (intro x hx; simp only [List.mem_cons, List.not_mem_nil, or_false] at hx; (repeat' (rcases hx with rfl | hx)) <;> first | (subst hx; simp; done) | (simp; done) | (subst hx; assumption)))
         refine wpList_nil ?_
         refine blkN ?_
         refine thenN ?_
         refine wp_region_lit ?_
         refine st_rd (v := Value.int .i64 ((k : Nat) : Int)) hA (by kernel_rfl) (by kernel_rfl) (by kernel_rfl) hW.cls (Rd.pure fun _ => by kernel_rfl) ?_; clear hA ac; intro ac hA
         refine st_rd (v := Value.int .i64 ((k + 1 : Nat) : Int)) hA (by kernel_rfl) (by kernel_rfl) (by kernel_rfl) hW.cls (Rd.pureE (v0 := Value.int .i64 (IntKind.i64.wrap ((((k : Nat) : Int) : Int) + 1))) (fun _ => by kernel_rfl) (congrArg (Value.int .i64) ((w_i64 (x := (((k : Nat) : Int) : Int) + 1) (by omega) (by omega)).trans (by omega)))) ?_; clear hA ac; intro ac hA
         refine st_rd (v := Value.int .i64 ((k + 1 : Nat) : Int)) hA (by kernel_rfl) (by kernel_rfl) (by kernel_rfl) hW.cls (Rd.pure fun _ => by kernel_rfl) ?_; clear hA ac; intro ac hA
         refine wpList_nil ?_
         refine thenN ?_
         exact ⟨l.length - (k + 1), by omega, k + 1, u19, rfl, by omega, by rw [tk_snoc hy13, List.foldl_append]; exact hq20, hA.sub ⟨⟨by kernel_rfl, by kernel_rfl⟩, ⟨by kernel_rfl, by kernel_rfl⟩, ⟨by kernel_rfl, by kernel_rfl⟩, ⟨by kernel_rfl, by kernel_rfl⟩, trivial⟩, (hW.pick [0, 1] (by decide) rfl).pickG [2] rfl⟩)
     · skip
       have h12 := of_decide_eq_false h12
       first
       | (exfalso; clear hA hW; omega)
       | (exfalso; clear hA hW; exact absurd (hlt_t.symm.trans h12) (by decide); done)
       | (
         refine wp_exit ?_
         refine thenX ?_
         refine thenX ?_
         refine blkX ?_
         refine thenN ?_
         refine wp_seq ?_
         refine wp_seq ?_
         rw [List.take_of_length_le (by omega)] at hR_; obtain ⟨M, hM⟩ : ∃ M, M = List.foldl (fun L c => insM L c.addr c.word) [] l := ⟨_, rfl⟩; rw [← hM] at hR_
         have hq21 : Rel06 k M V := hR_
         have hml_ := hq21.llen; have hmv_ := hq21.len
         refine wp_region_lit ?_
         refine st_rd (v := Value.slice A_l l.length c_l) hA (by kernel_rfl) (by kernel_rfl) (by kernel_rfl) hW.cls (Rd.pure fun _ => by kernel_rfl) ?_; clear hA ac; intro ac hA
         refine st_rd (v := Value.int .i64 ((l.length : Nat) : Int)) hA (by kernel_rfl) (by kernel_rfl) (by kernel_rfl) hW.cls (Rd.pure fun _ => by kernel_rfl) ?_; clear hA ac; intro ac hA
         refine st_rd (v := Value.int .i64 ((((l.length : Nat) : Int) : Int) - 1)) hA (by kernel_rfl) (by kernel_rfl) (by kernel_rfl) hW.cls (Rd.pureE (v0 := Value.int .i64 (IntKind.i64.wrap ((((l.length : Nat) : Int) : Int) - 1))) (fun _ => by kernel_rfl) (congrArg (Value.int .i64) ((w_i64 (x := (((l.length : Nat) : Int) : Int) - 1) (by omega) (by omega)).trans (by omega)))) ?_; clear hA ac; intro ac hA
         refine st_rd (v := Value.int .i64 ((((l.length : Nat) : Int) : Int) - 1)) hA (by kernel_rfl) (by kernel_rfl) (by kernel_rfl) hW.cls (Rd.pure fun _ => by kernel_rfl) ?_; clear hA ac; intro ac hA
         refine wpList_nil ?_
         refine thenN ?_
         refine wp_block ?_
         refine wp_loop_m (fun m_ ac_ wl_ => ∃ n : Nat, ∃ q : Nat, ∃ O : List Cell6, ∃ W : VT6, m_ = n + 1 ∧ (n ≤ l.length) ∧ (Rel06 q O W) ∧ (HoldInv M (l.drop n) O) ∧ Fm 158 [] [(0, Value.slice A_l l.length c_l), (3, Value.pointer (some ⟨n4, 0, none⟩)), (4, Value.pointer (some ⟨n8, 0, none⟩)), (6, Value.int .i64 (((n : Nat) : Int) - 1))] ac_ ∧ Ws w No [MemR n8 n9 W, MemR n4 n5 V] [roR A_l 2 enCell6 l] wl_) _ ⟨l.length, 0, [], ([] : List (Int × Nat × (Nat → Int))), rfl, by omega, by exact Rel06.start, by exact hold_nil (by simp), hA.sub ⟨⟨by kernel_rfl, by kernel_rfl⟩, ⟨by kernel_rfl, by kernel_rfl⟩, ⟨by kernel_rfl, by kernel_rfl⟩, ⟨by kernel_rfl, by kernel_rfl⟩, trivial⟩, (hW.pick [0, 1] (by decide) rfl).pickG [0] rfl⟩ ?_
         clear hA ac hW; rintro m_ ac w22 ⟨n, q, O, W, rfl, hn, hR2, hI, hA, hW⟩
         refine wp_seq ?_
         refine wp_seq ?_
         refine wp_region_lit ?_
         refine st_rd (v := Value.int .i64 (((n : Nat) : Int) - 1)) hA (by kernel_rfl) (by kernel_rfl) (by kernel_rfl) hW.cls (Rd.pure fun _ => by kernel_rfl) ?_; clear hA ac; intro ac hA
         refine st_rd (v := Value.bool (decide ((((n : Nat) : Int) - 1 : Int) ≥ (0 : Int)))) hA (by kernel_rfl) (by kernel_rfl) (by kernel_rfl) hW.cls (Rd.pure fun _ => by kernel_rfl) ?_; clear hA ac; intro ac hA
         refine wpList_nil ?_
         refine thenN ?_
         refine wp_cond_split (t := decide ((((n : Nat) : Int) - 1 : Int) ≥ (0 : Int))) (hA.eval (by kernel_rfl)) (fun h23 => ?_) (fun h23 => ?_)
         · skip
           have h23 := of_decide_eq_true h23
           first
           | (exfalso; clear hA hW; omega)
           | (exfalso; clear hA hW; exact absurd (hlt_t.symm.trans h23) (by decide); done)
           | (exfalso; clear hA hW; exact h23 ((hq21.wd _).trans hwl_); done)
           | (
             refine wp_skip ?_
             refine thenN ?_
             refine wp_seq ?_
             refine wp_block ?_
             refine wp_seq ?_
             obtain ⟨j, rfl⟩ : ∃ j, n = j + 1 := ⟨n - 1, by omega⟩; have ej_ : (((j + 1 : Nat) : Int) - 1) = ((j : Nat) : Int) := (by omega); rw [ej_] at hA
             obtain ⟨y24, hy24⟩ : ∃ y, l[j]? = some y := ⟨_, List.getElem?_eq_getElem (by omega)⟩
             obtain ⟨b25, o26, rfl, hbb25⟩ := row_some ((hW).getG 0 rfl) hy24
             have hyw_ := hwf _ (List.mem_of_getElem? hy24); have hx5_ := xor5 hyw_.1
             refine wp_region_lit ?_
             refine st_rd (v := Value.bool false) hA (by kernel_rfl) (by kernel_rfl) (by kernel_rfl) hW.cls (Rd.pure fun _ => by kernel_rfl) ?_; clear hA ac; intro ac hA
             refine wpList_nil ?_
             refine thenN ?_
             refine wp_seq ?_
             refine wp_seq ?_
             refine wp_region_lit ?_
             refine st_rd (v := Value.int .i64 ((j : Nat) : Int)) hA (by kernel_rfl) (by kernel_rfl) (by kernel_rfl) hW.cls (Rd.pure fun _ => by kernel_rfl) ?_; clear hA ac; intro ac hA
             refine st_rd (v := Value.int .i64 ((j + 1 : Nat) : Int)) hA (by kernel_rfl) (by kernel_rfl) (by kernel_rfl) hW.cls (Rd.pureE (v0 := Value.int .i64 (IntKind.i64.wrap ((((j : Nat) : Int) : Int) + 1))) (fun _ => by kernel_rfl) (congrArg (Value.int .i64) ((w_i64 (x := (((j : Nat) : Int) : Int) + 1) (by omega) (by omega)).trans (by omega)))) ?_; clear hA ac; intro ac hA
             refine st_rd (v := Value.int .i64 ((j + 1 : Nat) : Int)) hA (by kernel_rfl) (by kernel_rfl) (by kernel_rfl) hW.cls (Rd.pure fun _ => by kernel_rfl) ?_; clear hA ac; intro ac hA
             refine wpList_nil ?_
             refine thenN ?_
             refine wp_block ?_
             refine wp_loop_m (fun m_ ac_ wl_ => ∃ kk : Nat, ∃ lt : Bool, m_ = l.length - kk ∧ (j + 1 ≤ kk ∧ kk ≤ l.length) ∧ (LateInv l j y24 kk lt) ∧ Fm 158 [] [(0, Value.slice (some ⟨b25, o26, none⟩) l.length c_l), (3, Value.pointer (some ⟨n4, 0, none⟩)), (4, Value.pointer (some ⟨n8, 0, none⟩)), (6, Value.int .i64 ((j : Nat) : Int)), (7, Value.bool lt), (8, Value.int .i64 ((kk : Nat) : Int))] ac_ ∧ Ws w No [MemR n8 n9 W, MemR n4 n5 V] [roR (some ⟨b25, o26, none⟩) 2 enCell6 l] wl_) _ ⟨j + 1, false, rfl, by omega, by exact late_start, hA.sub ⟨⟨by kernel_rfl, by kernel_rfl⟩, ⟨by kernel_rfl, by kernel_rfl⟩, ⟨by kernel_rfl, by kernel_rfl⟩, ⟨by kernel_rfl, by kernel_rfl⟩, ⟨by kernel_rfl, by kernel_rfl⟩, ⟨by kernel_rfl, by kernel_rfl⟩, trivial⟩, (hW.pick [0, 1] (by decide) rfl).pickG [0] rfl⟩ ?_
             clear hA ac hW; rintro m_ ac w27 ⟨kk, lt, rfl, hkk, hLt, hA, hW⟩
             refine wp_seq ?_
             refine wp_seq ?_
             refine wp_region_lit ?_
             refine st_rd (v := Value.int .i64 ((kk : Nat) : Int)) hA (by kernel_rfl) (by kernel_rfl) (by kernel_rfl) hW.cls (Rd.pure fun _ => by kernel_rfl) ?_; clear hA ac; intro ac hA
             refine st_rd (v := Value.slice (some ⟨b25, o26, none⟩) l.length c_l) hA (by kernel_rfl) (by kernel_rfl) (by kernel_rfl) hW.cls (Rd.pure fun _ => by kernel_rfl) ?_; clear hA ac; intro ac hA
             refine st_rd (v := Value.int .i64 ((l.length : Nat) : Int)) hA (by kernel_rfl) (by kernel_rfl) (by kernel_rfl) hW.cls (Rd.pure fun _ => by kernel_rfl) ?_; clear hA ac; intro ac hA
             refine st_rd (v := Value.bool (decide ((((kk : Nat) : Int) : Int) < (((l.length : Nat) : Int) : Int)))) hA (by kernel_rfl) (by kernel_rfl) (by kernel_rfl) hW.cls (Rd.pure fun _ => by kernel_rfl) ?_; clear hA ac; intro ac hA
             refine wpList_nil ?_
             refine thenN ?_
             refine wp_cond_split (t := decide ((((kk : Nat) : Int) : Int) < (((l.length : Nat) : Int) : Int))) (hA.eval (by kernel_rfl)) (fun h28 => ?_) (fun h28 => ?_)
             · skip
               have h28 := of_decide_eq_true h28
               first
               | (exfalso; clear hA hW; omega)
               | (exfalso; clear hA hW; exact absurd (hlt_t.symm.trans h28) (by decide); done)
               | (exfalso; clear hA hW; exact h28 ((hq21.wd _).trans hwl_); done)
               | (
                 refine wp_skip ?_
                 refine thenN ?_
                 refine wp_seq ?_
                 refine wp_block ?_
                 refine q_region (by kernel_rfl) (by kernel_rfl) hW ?_
                 refine sq_rd (v := Value.bool lt) hA (by kernel_rfl) (by kernel_rfl) (by kernel_rfl) (Rd.pure fun _ => by kernel_rfl) ?_; clear hA ac; intro ac hA
                 refine sq_rd (v := Value.bool lt) hA (by kernel_rfl) (by kernel_rfl) (by kernel_rfl) (Rd.pure fun _ => by kernel_rfl) ?_; clear hA ac; intro ac hA
                 rcases Bool.eq_false_or_eq_true (lt) with h29 | h29
                 · skip
                   rw [h29] at hA
                   first
                   | (exfalso; clear hA hW; omega)
                   | (exfalso; clear hA hW; exact absurd (hlt_t.symm.trans h29) (by decide); done)
                   | (exfalso; clear hA hW; exact h29 ((hq21.wd _).trans hwl_); done)
                   | (
                     refine sq_skip hA (by kernel_rfl) (by kernel_rfl) ?_; clear hA ac; intro ac hA
                     refine sq_skip hA (by kernel_rfl) (by kernel_rfl) ?_; clear hA ac; intro ac hA
                     refine sq_skip hA (by kernel_rfl) (by kernel_rfl) ?_; clear hA ac; intro ac hA
                     refine sq_skip hA (by kernel_rfl) (by kernel_rfl) ?_; clear hA ac; intro ac hA
                     refine sq_skip hA (by kernel_rfl) (by kernel_rfl) ?_; clear hA ac; intro ac hA
                     refine sq_skip hA (by kernel_rfl) (by kernel_rfl) ?_; clear hA ac; intro ac hA
                     refine sq_skip hA (by kernel_rfl) (by kernel_rfl) ?_; clear hA ac; intro ac hA
                     refine sq_skip hA (by kernel_rfl) (by kernel_rfl) ?_; clear hA ac; intro ac hA
                     refine sq_skip hA (by kernel_rfl) (by kernel_rfl) ?_; clear hA ac; intro ac hA
                     refine sq_skip hA (by kernel_rfl) (by kernel_rfl) ?_; clear hA ac; intro ac hA
                     refine sq_skip hA (by kernel_rfl) (by kernel_rfl) ?_; clear hA ac; intro ac hA
                     refine sq_rd (v := Value.bool true) hA (by kernel_rfl) (by kernel_rfl) (by kernel_rfl) (Rd.pure fun _ => by kernel_rfl) ?_; clear hA ac; intro ac hA
                     refine sq_rd (v := Value.bool true) hA (by kernel_rfl) (by kernel_rfl) (by kernel_rfl) (Rd.pure fun _ => by kernel_rfl) ?_; clear hA ac; intro ac hA
                     refine sq_nil ?_; intro w30 hww30; have hW := hww30.1; have hfw30 := hww30.2; clear hww30
                     refine blkN ?_
                     refine thenN ?_
                     refine wp_region_lit ?_
                     refine st_rd (v := Value.int .i64 ((kk : Nat) : Int)) hA (by kernel_rfl) (by kernel_rfl) (by kernel_rfl) hW.cls (Rd.pure fun _ => by kernel_rfl) ?_; clear hA ac; intro ac hA
                     refine st_rd (v := Value.int .i64 ((kk + 1 : Nat) : Int)) hA (by kernel_rfl) (by kernel_rfl) (by kernel_rfl) hW.cls (Rd.pureE (v0 := Value.int .i64 (IntKind.i64.wrap ((((kk : Nat) : Int) : Int) + 1))) (fun _ => by kernel_rfl) (congrArg (Value.int .i64) ((w_i64 (x := (((kk : Nat) : Int) : Int) + 1) (by omega) (by omega)).trans (by omega)))) ?_; clear hA ac; intro ac hA
                     refine st_rd (v := Value.int .i64 ((kk + 1 : Nat) : Int)) hA (by kernel_rfl) (by kernel_rfl) (by kernel_rfl) hW.cls (Rd.pure fun _ => by kernel_rfl) ?_; clear hA ac; intro ac hA
                     refine wpList_nil ?_
                     refine thenN ?_
                     exact ⟨l.length - (kk + 1), by omega, kk + 1, true, rfl, by omega, by exact late_yes hLt h29, hA.sub ⟨⟨by kernel_rfl, by kernel_rfl⟩, ⟨by kernel_rfl, by kernel_rfl⟩, ⟨by kernel_rfl, by kernel_rfl⟩, ⟨by kernel_rfl, by kernel_rfl⟩, ⟨by kernel_rfl, by kernel_rfl⟩, ⟨by kernel_rfl, by kernel_rfl⟩, trivial⟩, (hW.pick [0, 1] (by decide) rfl).pickG [0] rfl⟩)
                 · skip
                   rw [h29] at hA
                   first
                   | (exfalso; clear hA hW; omega)
                   | (exfalso; clear hA hW; exact absurd (hlt_t.symm.trans h29) (by decide); done)
                   | (exfalso; clear hA hW; exact h29 ((hq21.wd _).trans hwl_); done)
                   | (
                     refine sq_rd (v := Value.slice (some ⟨b25, o26, none⟩) l.length c_l) hA (by kernel_rfl) (by kernel_rfl) (by kernel_rfl) (Rd.pure fun _ => by kernel_rfl) ?_; clear hA ac; intro ac hA
                     refine sq_rd (v := Value.int .i64 ((kk : Nat) : Int)) hA (by kernel_rfl) (by kernel_rfl) (by kernel_rfl) (Rd.pure fun _ => by kernel_rfl) ?_; clear hA ac; intro ac hA
                     obtain ⟨y31, hy31⟩ : ∃ y, l[kk]? = some y := ⟨_, List.getElem?_eq_getElem (by first | omega | (simp; done) | (simp; omega))⟩
                     refine sq_rd (v := Value.pointer (some ⟨b25, o26 + kk * 2, none⟩)) hA (by kernel_rfl) (by kernel_rfl) (by kernel_rfl) (Rd.indexAddr (e := 30) (sz := 2) (b := b25) (off := o26) (n := l.length) (c := c_l) (k := kk) (by kernel_rfl) (by kernel_rfl) (by first | omega | (simp; done) | (simp; omega)) (fun _ => by kernel_rfl) (fun _ => by kernel_rfl)) ?_; clear hA ac; intro ac hA
                     refine sq_rd (v := Value.pointer (some ⟨b25, o26 + kk * 2, none⟩)) hA (by kernel_rfl) (by kernel_rfl) (by kernel_rfl) (Rd.pure fun _ => by kernel_rfl) ?_; clear hA ac; intro ac hA
                     refine sq_rd (v := Value.int .u32 y31.addr) hA (by kernel_rfl) (by kernel_rfl) (by kernel_rfl) (Rd.loadRow (b := b25) (i := o26 + kk * 2) (xs := [Value.int .u32 y31.addr]) (by kernel_rfl) (fun _ hw => row_ld ((hw.1).getG 0 rfl) hy31 (Fr.refl No _) (fun h => h) 0 1 (by kernel_rfl)) (by kernel_rfl)) ?_; clear hA ac; intro ac hA
                     refine sq_rd (v := Value.slice (some ⟨b25, o26, none⟩) l.length c_l) hA (by kernel_rfl) (by kernel_rfl) (by kernel_rfl) (Rd.pure fun _ => by kernel_rfl) ?_; clear hA ac; intro ac hA
                     refine sq_rd (v := Value.int .i64 ((j : Nat) : Int)) hA (by kernel_rfl) (by kernel_rfl) (by kernel_rfl) (Rd.pure fun _ => by kernel_rfl) ?_; clear hA ac; intro ac hA
                     refine sq_rd (v := Value.pointer (some ⟨b25, o26 + j * 2, none⟩)) hA (by kernel_rfl) (by kernel_rfl) (by kernel_rfl) (Rd.indexAddr (e := 30) (sz := 2) (b := b25) (off := o26) (n := l.length) (c := c_l) (k := j) (by kernel_rfl) (by kernel_rfl) (by first | omega | (simp; done) | (simp; omega)) (fun _ => by kernel_rfl) (fun _ => by kernel_rfl)) ?_; clear hA ac; intro ac hA
                     refine sq_rd (v := Value.pointer (some ⟨b25, o26 + j * 2, none⟩)) hA (by kernel_rfl) (by kernel_rfl) (by kernel_rfl) (Rd.pure fun _ => by kernel_rfl) ?_; clear hA ac; intro ac hA
                     refine sq_rd (v := Value.int .u32 y24.addr) hA (by kernel_rfl) (by kernel_rfl) (by kernel_rfl) (Rd.loadRow (b := b25) (i := o26 + j * 2) (xs := [Value.int .u32 y24.addr]) (by kernel_rfl) (fun _ hw => row_ld ((hw.1).getG 0 rfl) hy24 (Fr.refl No _) (fun h => h) 0 1 (by kernel_rfl)) (by kernel_rfl)) ?_; clear hA ac; intro ac hA
                     refine sq_rd (v := Value.bool ((y31.addr : Int) == (y24.addr : Int))) hA (by kernel_rfl) (by kernel_rfl) (by kernel_rfl) (Rd.pure fun _ => by kernel_rfl) ?_; clear hA ac; intro ac hA
                     refine sq_rd (v := Value.bool ((y31.addr : Int) == (y24.addr : Int))) hA (by kernel_rfl) (by kernel_rfl) (by kernel_rfl) (Rd.pure fun _ => by kernel_rfl) ?_; clear hA ac; intro ac hA
                     refine sq_rd (v := Value.bool ((y31.addr : Int) == (y24.addr : Int))) hA (by kernel_rfl) (by kernel_rfl) (by kernel_rfl) (Rd.pure fun _ => by kernel_rfl) ?_; clear hA ac; intro ac hA
                     refine sq_nil ?_; intro w32 hww32; have hW := hww32.1; have hfw32 := hww32.2; clear hww32
                     refine blkN ?_
                     refine thenN ?_
                     refine wp_region_lit ?_
                     refine st_rd (v := Value.int .i64 ((kk : Nat) : Int)) hA (by kernel_rfl) (by kernel_rfl) (by kernel_rfl) hW.cls (Rd.pure fun _ => by kernel_rfl) ?_; clear hA ac; intro ac hA
                     refine st_rd (v := Value.int .i64 ((kk + 1 : Nat) : Int)) hA (by kernel_rfl) (by kernel_rfl) (by kernel_rfl) hW.cls (Rd.pureE (v0 := Value.int .i64 (IntKind.i64.wrap ((((kk : Nat) : Int) : Int) + 1))) (fun _ => by kernel_rfl) (congrArg (Value.int .i64) ((w_i64 (x := (((kk : Nat) : Int) : Int) + 1) (by omega) (by omega)).trans (by omega)))) ?_; clear hA ac; intro ac hA
                     refine st_rd (v := Value.int .i64 ((kk + 1 : Nat) : Int)) hA (by kernel_rfl) (by kernel_rfl) (by kernel_rfl) hW.cls (Rd.pure fun _ => by kernel_rfl) ?_; clear hA ac; intro ac hA
                     refine wpList_nil ?_
                     refine thenN ?_
                     exact ⟨l.length - (kk + 1), by omega, kk + 1, (y31.addr : Int) == (y24.addr : Int), rfl, by omega, by exact late_no hLt h29 hy31 hkk.1, hA.sub ⟨⟨by kernel_rfl, by kernel_rfl⟩, ⟨by kernel_rfl, by kernel_rfl⟩, ⟨by kernel_rfl, by kernel_rfl⟩, ⟨by kernel_rfl, by kernel_rfl⟩, ⟨by kernel_rfl, by kernel_rfl⟩, ⟨by kernel_rfl, by kernel_rfl⟩, trivial⟩, (hW.pick [0, 1] (by decide) rfl).pickG [0] rfl⟩))
             · skip
               have h28 := of_decide_eq_false h28
               first
               | (exfalso; clear hA hW; omega)
               | (exfalso; clear hA hW; exact absurd (hlt_t.symm.trans h28) (by decide); done)
               | (exfalso; clear hA hW; exact h28 ((hq21.wd _).trans hwl_); done)
               | (
                 refine wp_exit ?_
                 refine thenX ?_
                 refine thenX ?_
                 refine blkX ?_
                 refine thenN ?_
                 refine wp_seq ?_
                 refine wp_seq ?_
                 have hke_ : l.take kk = l := List.take_of_length_le (by omega); unfold LateInv at hLt; rw [hke_] at hLt
                 refine wp_region_lit ?_
                 refine st_rd (v := Value.bool lt) hA (by kernel_rfl) (by kernel_rfl) (by kernel_rfl) hW.cls (Rd.pure fun _ => by kernel_rfl) ?_; clear hA ac; intro ac hA
                 refine st_rd (v := Value.bool (!lt)) hA (by kernel_rfl) (by kernel_rfl) (by kernel_rfl) hW.cls (Rd.pure fun _ => by kernel_rfl) ?_; clear hA ac; intro ac hA
                 refine wpList_nil ?_
                 refine thenN ?_
                 refine wp_cond_split (t := !lt) (hA.eval (by kernel_rfl)) (fun h33 => ?_) (fun h33 => ?_)
                 · skip
                   have h33 := not_t h33
                   first
                   | (exfalso; clear hA hW; omega)
                   | (exfalso; clear hA hW; exact absurd (hlt_t.symm.trans h33) (by decide); done)
                   | (exfalso; clear hA hW; exact h33 ((hq21.wd _).trans hwl_); done)
                   | (
                     refine wp_seq ?_
                     have h3_ : ∀ x ∈ ([(⟨(bits .xor .u32 (y24.addr : Int) (5 : Int)), 0⟩ : Cell6), y24, y24] : List Cell6), (0 ≤ x.addr ∧ x.addr ≤ 4294967295) ∧ (0 ≤ x.word ∧ x.word ≤ 4294967295) := by intro x hx; simp only [List.mem_cons, List.not_mem_nil, or_false] at hx; rcases hx with rfl | rfl | rfl <;> first | exact hyw_ | exact ⟨hx5_.1, by simp⟩
                     refine wp_cut (fun ac_ wl_ => ∃ br17_23 : Nat, ∃ u0r17_24 : VT6, (Rel06 (q + (([(⟨(bits .xor .u32 (y24.addr : Int) (5 : Int)), 0⟩ : Cell6), y24, y24] : List Cell6)).length) (List.foldl (fun L c => insM L c.addr c.word) O ([(⟨(bits .xor .u32 (y24.addr : Int) (5 : Int)), 0⟩ : Cell6), y24, y24] : List Cell6)) u0r17_24) ∧ (StoreR W ([(⟨(bits .xor .u32 (y24.addr : Int) (5 : Int)), 0⟩ : Cell6), y24, y24] : List Cell6) u0r17_24) ∧ Fm 158 [] [(0, Value.slice (some ⟨b25, o26, none⟩) l.length c_l), (3, Value.pointer (some ⟨n4, 0, none⟩)), (4, Value.pointer (some ⟨n8, 0, none⟩)), (6, Value.int .i64 ((j : Nat) : Int)), (7, Value.bool lt), (8, Value.int .i64 ((kk : Nat) : Int)), (38, Value.int .i64 ((kk : Nat) : Int)), (39, Value.slice (some ⟨b25, o26, none⟩) l.length c_l), (40, Value.int .i64 ((l.length : Nat) : Int)), (41, Value.bool (decide ((((kk : Nat) : Int) : Int) < (((l.length : Nat) : Int) : Int)))), (58, Value.bool lt), (59, Value.bool (!lt))] ac_ ∧ Ws w No [MemR n8 n9 u0r17_24, MemR n4 n5 V] [roR (some ⟨br17_23, 0, none⟩) 2 enCell6 ([(⟨(bits .xor .u32 (y24.addr : Int) (5 : Int)), 0⟩ : Cell6), y24, y24] : List Cell6), Cel br17_23 #[Value.int .u32 (bits .xor .u32 (y24.addr : Int) (5 : Int)), Value.int .u32 0, Value.int .u32 y24.addr, Value.int .u32 y24.word, Value.int .u32 y24.addr, Value.int .u32 y24.word] 30, roR (some ⟨b25, o26, none⟩) 2 enCell6 l] wl_) ?_ ?_
                     · refine sr_region (m := 25) (C := Ws w No [] [roR (some ⟨b25, o26, none⟩) 2 enCell6 l]) (fun i => [5, 11, 16, 21].contains i) (fun i => [5, 11, 16, 21].contains i) (fun i => [0, 1, 2, 3, 4, 6, 7, 8, 9, 10, 12, 13, 14, 15, 17, 18, 19, 20, 22].contains i) (by kernel_rfl) (by kernel_rfl) (by kernel_rfl) (by kernel_rfl) hW ?_; clear hW; intro w34 hW hfw34 hR; have hC : Ws w No [] [roR (some ⟨b25, o26, none⟩) 2 enCell6 l] w34 := hW.pick [] (by decide) rfl
                       refine sr_pure (i := 0) (v := Value.pointer (some ⟨n8, 0, none⟩)) hR (by kernel_rfl) rfl (by kernel_rfl) (by kernel_rfl) (fun _ _ _ h => h.elim) hA (by kernel_rfl) (by kernel_rfl) (by kernel_rfl) (Rd.pure fun _ => by kernel_rfl) ?_; clear hA ac; intro ac hA
                       refine sr_pure (i := 1) (v := Value.slice (some ⟨b25, o26, none⟩) l.length c_l) hR (by kernel_rfl) rfl (by kernel_rfl) (by kernel_rfl) (fun _ _ _ h => h.elim) hA (by kernel_rfl) (by kernel_rfl) (by kernel_rfl) (Rd.pure fun _ => by kernel_rfl) ?_; clear hA ac; intro ac hA
                       refine sr_pure (i := 2) (v := Value.int .i64 ((j : Nat) : Int)) hR (by kernel_rfl) rfl (by kernel_rfl) (by kernel_rfl) (fun _ _ _ h => h.elim) hA (by kernel_rfl) (by kernel_rfl) (by kernel_rfl) (Rd.pure fun _ => by kernel_rfl) ?_; clear hA ac; intro ac hA
                       refine sr_pure (i := 3) (v := Value.pointer (some ⟨b25, o26 + j * 2, none⟩)) hR (by kernel_rfl) rfl (by kernel_rfl) (by kernel_rfl) (fun _ _ _ h => h.elim) hA (by kernel_rfl) (by kernel_rfl) (by kernel_rfl) (Rd.indexAddr (e := 30) (sz := 2) (b := b25) (off := o26) (n := l.length) (c := c_l) (k := j) (by kernel_rfl) (by kernel_rfl) (by first | omega | (simp; done) | (simp; omega)) (fun _ => by kernel_rfl) (fun _ => by kernel_rfl)) ?_; clear hA ac; intro ac hA
                       refine sr_pure (i := 4) (v := Value.pointer (some ⟨b25, o26 + j * 2, none⟩)) hR (by kernel_rfl) rfl (by kernel_rfl) (by kernel_rfl) (fun _ _ _ h => h.elim) hA (by kernel_rfl) (by kernel_rfl) (by kernel_rfl) (Rd.pure fun _ => by kernel_rfl) ?_; clear hA ac; intro ac hA
                       refine sr_take (i := 5) (v := Value.int .u32 y24.addr) hR (by kernel_rfl) rfl (by kernel_rfl) (by kernel_rfl) (by kernel_rfl) (fun _ _ _ h => h.elim) hA (by kernel_rfl) (by kernel_rfl) (by kernel_rfl) hC (Rd.loadRow (b := b25) (i := o26 + j * 2) (xs := [Value.int .u32 y24.addr]) (by kernel_rfl) (fun _ hw => row_ld ((hw).getG 0 rfl) hy24 (Fr.refl No _) (fun h => h) 0 1 (by kernel_rfl)) (by kernel_rfl)) ?_; clear hA ac; intro ac hA
                       refine sr_pure (i := 6) (v := Value.int .u32 (bits .xor .u32 (y24.addr : Int) (5 : Int))) hR (by kernel_rfl) rfl (by kernel_rfl) (by kernel_rfl) (fun _ _ _ h => h.elim) hA (by kernel_rfl) (by kernel_rfl) (by kernel_rfl) (Rd.pure fun _ => by kernel_rfl) ?_; clear hA ac; intro ac hA
                       refine sr_pure (i := 7) (v := Value.agg #[Value.int .u32 (bits .xor .u32 (y24.addr : Int) (5 : Int)), Value.int .u32 0]) hR (by kernel_rfl) rfl (by kernel_rfl) (by kernel_rfl) (fun _ _ _ h => h.elim) hA (by kernel_rfl) (by kernel_rfl) (by kernel_rfl) (Rd.pure fun _ => by kernel_rfl) ?_; clear hA ac; intro ac hA
                       refine sr_pure (i := 8) (v := Value.slice (some ⟨b25, o26, none⟩) l.length c_l) hR (by kernel_rfl) rfl (by kernel_rfl) (by kernel_rfl) (fun _ _ _ h => h.elim) hA (by kernel_rfl) (by kernel_rfl) (by kernel_rfl) (Rd.pure fun _ => by kernel_rfl) ?_; clear hA ac; intro ac hA
                       refine sr_pure (i := 9) (v := Value.int .i64 ((j : Nat) : Int)) hR (by kernel_rfl) rfl (by kernel_rfl) (by kernel_rfl) (fun _ _ _ h => h.elim) hA (by kernel_rfl) (by kernel_rfl) (by kernel_rfl) (Rd.pure fun _ => by kernel_rfl) ?_; clear hA ac; intro ac hA
                       refine sr_pure (i := 10) (v := Value.pointer (some ⟨b25, o26 + j * 2, none⟩)) hR (by kernel_rfl) rfl (by kernel_rfl) (by kernel_rfl) (fun _ _ _ h => h.elim) hA (by kernel_rfl) (by kernel_rfl) (by kernel_rfl) (Rd.indexAddr (e := 30) (sz := 2) (b := b25) (off := o26) (n := l.length) (c := c_l) (k := j) (by kernel_rfl) (by kernel_rfl) (by first | omega | (simp; done) | (simp; omega)) (fun _ => by kernel_rfl) (fun _ => by kernel_rfl)) ?_; clear hA ac; intro ac hA
                       refine sr_take (i := 11) (v := Value.agg #[Value.int .u32 y24.addr, Value.int .u32 y24.word]) hR (by kernel_rfl) rfl (by kernel_rfl) (by kernel_rfl) (by kernel_rfl) (fun _ _ _ h => h.elim) hA (by kernel_rfl) (by kernel_rfl) (by kernel_rfl) hC (Rd.loadRow (b := b25) (i := o26 + j * 2) (xs := [Value.int .u32 y24.addr, Value.int .u32 y24.word]) (by kernel_rfl) (fun _ hw => row_ld ((hw).getG 0 rfl) hy24 (Fr.refl No _) (fun h => h) 0 2 (by kernel_rfl)) (by kernel_rfl)) ?_; clear hA ac; intro ac hA
                       refine sr_pure (i := 12) (v := Value.slice (some ⟨b25, o26, none⟩) l.length c_l) hR (by kernel_rfl) rfl (by kernel_rfl) (by kernel_rfl) (fun _ _ _ h => h.elim) hA (by kernel_rfl) (by kernel_rfl) (by kernel_rfl) (Rd.pure fun _ => by kernel_rfl) ?_; clear hA ac; intro ac hA
                       refine sr_pure (i := 13) (v := Value.int .i64 ((j : Nat) : Int)) hR (by kernel_rfl) rfl (by kernel_rfl) (by kernel_rfl) (fun _ _ _ h => h.elim) hA (by kernel_rfl) (by kernel_rfl) (by kernel_rfl) (Rd.pure fun _ => by kernel_rfl) ?_; clear hA ac; intro ac hA
                       refine sr_pure (i := 14) (v := Value.pointer (some ⟨b25, o26 + j * 2, none⟩)) hR (by kernel_rfl) rfl (by kernel_rfl) (by kernel_rfl) (fun _ _ _ h => h.elim) hA (by kernel_rfl) (by kernel_rfl) (by kernel_rfl) (Rd.indexAddr (e := 30) (sz := 2) (b := b25) (off := o26) (n := l.length) (c := c_l) (k := j) (by kernel_rfl) (by kernel_rfl) (by first | omega | (simp; done) | (simp; omega)) (fun _ => by kernel_rfl) (fun _ => by kernel_rfl)) ?_; clear hA ac; intro ac hA
                       refine sr_pure (i := 15) (v := Value.pointer (some ⟨b25, o26 + j * 2, none⟩)) hR (by kernel_rfl) rfl (by kernel_rfl) (by kernel_rfl) (fun _ _ _ h => h.elim) hA (by kernel_rfl) (by kernel_rfl) (by kernel_rfl) (Rd.pure fun _ => by kernel_rfl) ?_; clear hA ac; intro ac hA
                       refine sr_take (i := 16) (v := Value.int .u32 y24.addr) hR (by kernel_rfl) rfl (by kernel_rfl) (by kernel_rfl) (by kernel_rfl) (fun _ _ _ h => h.elim) hA (by kernel_rfl) (by kernel_rfl) (by kernel_rfl) hC (Rd.loadRow (b := b25) (i := o26 + j * 2) (xs := [Value.int .u32 y24.addr]) (by kernel_rfl) (fun _ hw => row_ld ((hw).getG 0 rfl) hy24 (Fr.refl No _) (fun h => h) 0 1 (by kernel_rfl)) (by kernel_rfl)) ?_; clear hA ac; intro ac hA
                       refine sr_pure (i := 17) (v := Value.slice (some ⟨b25, o26, none⟩) l.length c_l) hR (by kernel_rfl) rfl (by kernel_rfl) (by kernel_rfl) (fun _ _ _ h => h.elim) hA (by kernel_rfl) (by kernel_rfl) (by kernel_rfl) (Rd.pure fun _ => by kernel_rfl) ?_; clear hA ac; intro ac hA
                       refine sr_pure (i := 18) (v := Value.int .i64 ((j : Nat) : Int)) hR (by kernel_rfl) rfl (by kernel_rfl) (by kernel_rfl) (fun _ _ _ h => h.elim) hA (by kernel_rfl) (by kernel_rfl) (by kernel_rfl) (Rd.pure fun _ => by kernel_rfl) ?_; clear hA ac; intro ac hA
                       refine sr_pure (i := 19) (v := Value.pointer (some ⟨b25, o26 + j * 2, none⟩)) hR (by kernel_rfl) rfl (by kernel_rfl) (by kernel_rfl) (fun _ _ _ h => h.elim) hA (by kernel_rfl) (by kernel_rfl) (by kernel_rfl) (Rd.indexAddr (e := 30) (sz := 2) (b := b25) (off := o26) (n := l.length) (c := c_l) (k := j) (by kernel_rfl) (by kernel_rfl) (by first | omega | (simp; done) | (simp; omega)) (fun _ => by kernel_rfl) (fun _ => by kernel_rfl)) ?_; clear hA ac; intro ac hA
                       refine sr_pure (i := 20) (v := Value.pointer (some ⟨b25, o26 + j * 2 + 1, none⟩)) hR (by kernel_rfl) rfl (by kernel_rfl) (by kernel_rfl) (fun _ _ _ h => h.elim) hA (by kernel_rfl) (by kernel_rfl) (by kernel_rfl) (Rd.pure fun _ => by kernel_rfl) ?_; clear hA ac; intro ac hA
                       refine sr_take (i := 21) (v := Value.int .u32 y24.word) hR (by kernel_rfl) rfl (by kernel_rfl) (by kernel_rfl) (by kernel_rfl) (fun _ _ _ h => h.elim) hA (by kernel_rfl) (by kernel_rfl) (by kernel_rfl) hC (Rd.loadRow (b := b25) (i := o26 + j * 2 + 1) (xs := [Value.int .u32 y24.word]) (by kernel_rfl) (fun _ hw => row_ld ((hw).getG 0 rfl) hy24 (Fr.refl No _) (fun h => h) 1 1 (by kernel_rfl)) (by kernel_rfl)) ?_; clear hA ac; intro ac hA
                       refine sr_pure (i := 22) (v := Value.agg #[Value.int .u32 y24.addr, Value.int .u32 y24.word]) hR (by kernel_rfl) rfl (by kernel_rfl) (by kernel_rfl) (fun _ _ _ h => h.elim) hA (by kernel_rfl) (by kernel_rfl) (by kernel_rfl) (Rd.pure fun _ => by kernel_rfl) ?_; clear hA ac; intro ac hA
                       refine sr_one (i := 23) (by kernel_rfl) (sr_do rfl hA (by kernel_rfl) (by kernel_rfl) (by kernel_rfl) (Runs.cells (fun b => Value.slice (some ⟨b, 0, none⟩) 3 3) #[Value.int .u32 (bits .xor .u32 (y24.addr : Int) (5 : Int)), Value.int .u32 0, Value.int .u32 y24.addr, Value.int .u32 y24.word, Value.int .u32 y24.addr, Value.int .u32 y24.word] 30 (fun _ => by kernel_rfl) hW ?_)); clear hA ac hW; intro br17_23 w35 hW hbr17_23 hfw35 ac hA
                       refine ⟨⟨fun h => absurd h (by decide), fun h => absurd h (by decide)⟩, ?_⟩
                       have hW := hW.share 0 rfl (H' := [MemR n8 n9 W, MemR n4 n5 V]) rfl
                       have hW := hW.nestG (roR (some ⟨br17_23, 0, none⟩) 2 enCell6 ([(⟨(bits .xor .u32 (y24.addr : Int) (5 : Int)), 0⟩ : Cell6), y24, y24] : List Cell6)) (rowAt_cel (show _ = _ from hW.getG 0 rfl) ([(⟨(bits .xor .u32 (y24.addr : Int) (5 : Int)), 0⟩ : Cell6), y24, y24] : List Cell6) (by rfl) elt_Cell6.len) (fun _ hb_ => ⟨_, List.mem_of_getElem? (i := 0) rfl, cel_fp _ hb_⟩)
                       refine sr_one (i := 24) (by kernel_rfl) (sr_do rfl hA (by kernel_rfl) (by kernel_rfl) (by kernel_rfl) (Runs.call (fun _ => by kernel_rfl) (e_mstore n8 n9 W (some ⟨br17_23, 0, none⟩) 3 ([(⟨(bits .xor .u32 (y24.addr : Int) (5 : Int)), 0⟩ : Cell6), y24, y24] : List Cell6) w35 ((hW).get 0 rfl) ((hW).lt _ (List.mem_of_getElem? (i := 0) rfl)) ((hW).getG 0 rfl) (by first | assumption | omega | (simp; omega) | simp) ((hW).gd _ (List.mem_of_getElem? (i := 0) rfl) _ (List.mem_of_getElem? (i := 0) rfl)) (by first | omega | assumption | (simp; done) | (constructor <;> omega) | exact (by assumption : (0 ≤ _ ∧ _ ≤ (4294967295 : Int)) ∧ (0 ≤ _ ∧ _ ≤ (4294967295 : Int))).1 | (intro x hx; simp only [List.mem_singleton] at hx; subst hx; exact hwf _ (List.mem_of_getElem? (by assumption)))) (by first | omega | assumption | (simp; done) | (constructor <;> omega) | exact (by assumption : (0 ≤ _ ∧ _ ≤ (4294967295 : Int)) ∧ (0 ≤ _ ∧ _ ≤ (4294967295 : Int))).1 | (intro x hx; simp only [List.mem_singleton] at hx; subst hx; exact hwf _ (List.mem_of_getElem? (by assumption))))) ?_))
                       rintro _ w36 ⟨u0r17_24, rfl, hr17_24_hS, hu_⟩; refine ⟨_, rfl, ?_⟩; replace hW := hW.upd (H' := [MemR n8 n9 u0r17_24, MemR n4 n5 V]) 0 rfl hu_ rfl; clear hA ac; intro ac hA
                       have hqr17_24 : Rel06 (q + (([(⟨(bits .xor .u32 (y24.addr : Int) (5 : Int)), 0⟩ : Cell6), y24, y24] : List Cell6)).length) (List.foldl (fun L c => insM L c.addr c.word) O ([(⟨(bits .xor .u32 (y24.addr : Int) (5 : Int)), 0⟩ : Cell6), y24, y24] : List Cell6)) u0r17_24 := hR2.storeR hr17_24_hS (by first | assumption | (intro x hx; simp only [List.mem_singleton] at hx; subst hx; exact hwf _ (List.mem_of_getElem? (by assumption))) | (intro x hx; simp only [List.mem_singleton] at hx; subst hx; assumption) | (intro x hx; simp only [List.mem_cons, List.not_mem_nil, or_false] at hx; (repeat' (rcases hx with rfl | hx)) <;> first | (subst hx; simp; done) | (simp; done) | (subst hx; assumption)))
                       refine ⟨⟨fun h => absurd h (by decide), fun h => absurd h (by decide)⟩, ?_⟩
                       refine sr_done (by kernel_rfl) ?_ _
                       exact ⟨br17_23, u0r17_24, hqr17_24, hr17_24_hS, hA.sub ⟨⟨by kernel_rfl, by kernel_rfl⟩, ⟨by kernel_rfl, by kernel_rfl⟩, ⟨by kernel_rfl, by kernel_rfl⟩, ⟨by kernel_rfl, by kernel_rfl⟩, ⟨by kernel_rfl, by kernel_rfl⟩, ⟨by kernel_rfl, by kernel_rfl⟩, ⟨by kernel_rfl, by kernel_rfl⟩, ⟨by kernel_rfl, by kernel_rfl⟩, ⟨by kernel_rfl, by kernel_rfl⟩, ⟨by kernel_rfl, by kernel_rfl⟩, ⟨by kernel_rfl, by kernel_rfl⟩, ⟨by kernel_rfl, by kernel_rfl⟩, trivial⟩, (hW.pick [0, 1] (by decide) rfl).pickG [0, 1, 2] rfl⟩
                     clear hA ac hW; rintro ac w37 ⟨br17_23, u0r17_24, hqr17_24, hr17_24_hS, hA, hW⟩
                     refine thenN ?_
                     refine wp_seq ?_
                     have hst_ := hold_start hR2.rise hI hx5_.2
                     have hnl_ := hLt.2 (by simpa using h33)
                     refine wp_region_lit ?_
                     refine st_rd (v := Value.int .i64 ((j : Nat) : Int)) hA (by kernel_rfl) (by kernel_rfl) (by kernel_rfl) hW.cls (Rd.pure fun _ => by kernel_rfl) ?_; clear hA ac; intro ac hA
                     refine st_rd (v := Value.int .i64 ((j + 1 : Nat) : Int)) hA (by kernel_rfl) (by kernel_rfl) (by kernel_rfl) hW.cls (Rd.pureE (v0 := Value.int .i64 (IntKind.i64.wrap ((((j : Nat) : Int) : Int) + 1))) (fun _ => by kernel_rfl) (congrArg (Value.int .i64) ((w_i64 (x := (((j : Nat) : Int) : Int) + 1) (by omega) (by omega)).trans (by omega)))) ?_; clear hA ac; intro ac hA
                     refine st_rd (v := Value.int .i64 ((j + 1 : Nat) : Int)) hA (by kernel_rfl) (by kernel_rfl) (by kernel_rfl) hW.cls (Rd.pure fun _ => by kernel_rfl) ?_; clear hA ac; intro ac hA
                     refine wpList_nil ?_
                     refine thenN ?_
                     refine wp_block ?_
                     refine wp_loop_m (fun m_ ac_ wl_ => ∃ kk2 : Nat, ∃ q2 : Nat, ∃ O2 : List Cell6, ∃ W2 : VT6, m_ = l.length - kk2 ∧ (j + 1 ≤ kk2 ∧ kk2 ≤ l.length) ∧ (Rel06 q2 O2 W2) ∧ (HoldIn M y24 (bits .xor .u32 (y24.addr : Int) (5 : Int)) (l.drop (j + 1)) ((l.take kk2).drop (j + 1)) O2) ∧ Fm 158 [] [(0, Value.slice (some ⟨b25, o26, none⟩) l.length c_l), (3, Value.pointer (some ⟨n4, 0, none⟩)), (4, Value.pointer (some ⟨n8, 0, none⟩)), (6, Value.int .i64 ((j : Nat) : Int)), (7, Value.bool lt), (9, Value.int .i64 ((kk2 : Nat) : Int))] ac_ ∧ Ws w No [MemR n8 n9 W2, MemR n4 n5 V] [roR (some ⟨br17_23, 0, none⟩) 2 enCell6 ([(⟨(bits .xor .u32 (y24.addr : Int) (5 : Int)), 0⟩ : Cell6), y24, y24] : List Cell6), Cel br17_23 #[Value.int .u32 (bits .xor .u32 (y24.addr : Int) (5 : Int)), Value.int .u32 0, Value.int .u32 y24.addr, Value.int .u32 y24.word, Value.int .u32 y24.addr, Value.int .u32 y24.word] 30, roR (some ⟨b25, o26, none⟩) 2 enCell6 l] wl_) _ ⟨j + 1, q + (([(⟨(bits .xor .u32 (y24.addr : Int) (5 : Int)), 0⟩ : Cell6), y24, y24] : List Cell6)).length, List.foldl (fun L c => insM L c.addr c.word) O ([(⟨(bits .xor .u32 (y24.addr : Int) (5 : Int)), 0⟩ : Cell6), y24, y24] : List Cell6), u0r17_24, rfl, by omega, by exact hqr17_24, by rw [show (List.take (j + 1) l).drop (j + 1) = [] from List.drop_of_length_le (by rw [List.length_take]; omega)]; exact hst_, hA.sub ⟨⟨by kernel_rfl, by kernel_rfl⟩, ⟨by kernel_rfl, by kernel_rfl⟩, ⟨by kernel_rfl, by kernel_rfl⟩, ⟨by kernel_rfl, by kernel_rfl⟩, ⟨by kernel_rfl, by kernel_rfl⟩, ⟨by kernel_rfl, by kernel_rfl⟩, trivial⟩, (hW.pick [0, 1] (by decide) rfl).pickG [0, 1, 2] rfl⟩ ?_
                     clear hA ac hW; rintro m_ ac w38 ⟨kk2, q2, O2, W2, rfl, hkk2, hR3, hH2, hA, hW⟩
                     refine wp_seq ?_
                     refine wp_seq ?_
                     refine wp_region_lit ?_
                     refine st_rd (v := Value.int .i64 ((kk2 : Nat) : Int)) hA (by kernel_rfl) (by kernel_rfl) (by kernel_rfl) hW.cls (Rd.pure fun _ => by kernel_rfl) ?_; clear hA ac; intro ac hA
                     refine st_rd (v := Value.slice (some ⟨b25, o26, none⟩) l.length c_l) hA (by kernel_rfl) (by kernel_rfl) (by kernel_rfl) hW.cls (Rd.pure fun _ => by kernel_rfl) ?_; clear hA ac; intro ac hA
                     refine st_rd (v := Value.int .i64 ((l.length : Nat) : Int)) hA (by kernel_rfl) (by kernel_rfl) (by kernel_rfl) hW.cls (Rd.pure fun _ => by kernel_rfl) ?_; clear hA ac; intro ac hA
                     refine st_rd (v := Value.bool (decide ((((kk2 : Nat) : Int) : Int) < (((l.length : Nat) : Int) : Int)))) hA (by kernel_rfl) (by kernel_rfl) (by kernel_rfl) hW.cls (Rd.pure fun _ => by kernel_rfl) ?_; clear hA ac; intro ac hA
                     refine wpList_nil ?_
                     refine thenN ?_
                     refine wp_cond_split (t := decide ((((kk2 : Nat) : Int) : Int) < (((l.length : Nat) : Int) : Int))) (hA.eval (by kernel_rfl)) (fun h39 => ?_) (fun h39 => ?_)
                     · skip
                       have h39 := of_decide_eq_true h39
                       first
                       | (exfalso; clear hA hW; omega)
                       | (exfalso; clear hA hW; exact absurd (hlt_t.symm.trans h39) (by decide); done)
                       | (exfalso; clear hA hW; exact h39 ((hq21.wd _).trans hwl_); done)
                       | (
                         refine wp_skip ?_
                         refine thenN ?_
                         refine wp_seq ?_
                         refine wp_block ?_
                         refine wp_seq ?_
                         refine q_region (by kernel_rfl) (by kernel_rfl) hW ?_
                         refine sq_rd (v := Value.slice (some ⟨b25, o26, none⟩) l.length c_l) hA (by kernel_rfl) (by kernel_rfl) (by kernel_rfl) (Rd.pure fun _ => by kernel_rfl) ?_; clear hA ac; intro ac hA
                         refine sq_rd (v := Value.int .i64 ((kk2 : Nat) : Int)) hA (by kernel_rfl) (by kernel_rfl) (by kernel_rfl) (Rd.pure fun _ => by kernel_rfl) ?_; clear hA ac; intro ac hA
                         obtain ⟨y40, hy40⟩ : ∃ y, l[kk2]? = some y := ⟨_, List.getElem?_eq_getElem (by first | omega | (simp; done) | (simp; omega))⟩
                         refine sq_rd (v := Value.pointer (some ⟨b25, o26 + kk2 * 2, none⟩)) hA (by kernel_rfl) (by kernel_rfl) (by kernel_rfl) (Rd.indexAddr (e := 30) (sz := 2) (b := b25) (off := o26) (n := l.length) (c := c_l) (k := kk2) (by kernel_rfl) (by kernel_rfl) (by first | omega | (simp; done) | (simp; omega)) (fun _ => by kernel_rfl) (fun _ => by kernel_rfl)) ?_; clear hA ac; intro ac hA
                         refine sq_rd (v := Value.pointer (some ⟨b25, o26 + kk2 * 2, none⟩)) hA (by kernel_rfl) (by kernel_rfl) (by kernel_rfl) (Rd.pure fun _ => by kernel_rfl) ?_; clear hA ac; intro ac hA
                         refine sq_rd (v := Value.int .u32 y40.addr) hA (by kernel_rfl) (by kernel_rfl) (by kernel_rfl) (Rd.loadRow (b := b25) (i := o26 + kk2 * 2) (xs := [Value.int .u32 y40.addr]) (by kernel_rfl) (fun _ hw => row_ld ((hw.1).getG 2 rfl) hy40 (Fr.refl No _) (fun h => h) 0 1 (by kernel_rfl)) (by kernel_rfl)) ?_; clear hA ac; intro ac hA
                         refine sq_rd (v := Value.slice (some ⟨b25, o26, none⟩) l.length c_l) hA (by kernel_rfl) (by kernel_rfl) (by kernel_rfl) (Rd.pure fun _ => by kernel_rfl) ?_; clear hA ac; intro ac hA
                         refine sq_rd (v := Value.int .i64 ((j : Nat) : Int)) hA (by kernel_rfl) (by kernel_rfl) (by kernel_rfl) (Rd.pure fun _ => by kernel_rfl) ?_; clear hA ac; intro ac hA
                         refine sq_rd (v := Value.pointer (some ⟨b25, o26 + j * 2, none⟩)) hA (by kernel_rfl) (by kernel_rfl) (by kernel_rfl) (Rd.indexAddr (e := 30) (sz := 2) (b := b25) (off := o26) (n := l.length) (c := c_l) (k := j) (by kernel_rfl) (by kernel_rfl) (by first | omega | (simp; done) | (simp; omega)) (fun _ => by kernel_rfl) (fun _ => by kernel_rfl)) ?_; clear hA ac; intro ac hA
                         refine sq_rd (v := Value.pointer (some ⟨b25, o26 + j * 2, none⟩)) hA (by kernel_rfl) (by kernel_rfl) (by kernel_rfl) (Rd.pure fun _ => by kernel_rfl) ?_; clear hA ac; intro ac hA
                         refine sq_rd (v := Value.int .u32 y24.addr) hA (by kernel_rfl) (by kernel_rfl) (by kernel_rfl) (Rd.loadRow (b := b25) (i := o26 + j * 2) (xs := [Value.int .u32 y24.addr]) (by kernel_rfl) (fun _ hw => row_ld ((hw.1).getG 2 rfl) hy24 (Fr.refl No _) (fun h => h) 0 1 (by kernel_rfl)) (by kernel_rfl)) ?_; clear hA ac; intro ac hA
                         refine sq_rd (v := Value.int .u32 (bits .xor .u32 (y24.addr : Int) (5 : Int))) hA (by kernel_rfl) (by kernel_rfl) (by kernel_rfl) (Rd.pure fun _ => by kernel_rfl) ?_; clear hA ac; intro ac hA
                         refine sq_rd (v := Value.bool ((y40.addr : Int) == ((bits .xor .u32 (y24.addr : Int) (5 : Int)) : Int))) hA (by kernel_rfl) (by kernel_rfl) (by kernel_rfl) (Rd.pure fun _ => by kernel_rfl) ?_; clear hA ac; intro ac hA
                         refine sq_nil ?_; intro w41 hww41; have hW := hww41.1; have hfw41 := hww41.2; clear hww41
                         refine thenN ?_
                         refine wp_cond_split (t := (y40.addr : Int) == ((bits .xor .u32 (y24.addr : Int) (5 : Int)) : Int)) (hA.eval (by kernel_rfl)) (fun h42 => ?_) (fun h42 => ?_)
                         · skip
                           have h42 := eq_of_beq h42
                           first
                           | (exfalso; clear hA hW; omega)
                           | (exfalso; clear hA hW; exact absurd (hlt_t.symm.trans h42) (by decide); done)
                           | (exfalso; clear hA hW; exact h42 ((hq21.wd _).trans hwl_); done)
                           | (
                             have hzw_ := hwf _ (List.mem_of_getElem? hy40); have hlw_ : ∀ x ∈ ([(⟨y40.addr, (wordV V (y40.addr))⟩ : Cell6)] : List Cell6), (0 ≤ x.addr ∧ x.addr ≤ 4294967295) ∧ (0 ≤ x.word ∧ x.word ≤ 4294967295) := by intro x hx; simp only [List.mem_singleton] at hx; subst hx; exact ⟨hzw_.1, by have h_ := hq21.load_rng y40.addr; rw [← hq21.wd] at h_; exact h_⟩
                             refine wp_cut (fun ac_ wl_ => ∃ br22_14 : Nat, ∃ u0r22_15 : VT6, (Rel06 (q2 + (([(⟨y40.addr, (wordV V (y40.addr))⟩ : Cell6)] : List Cell6)).length) (List.foldl (fun L c => insM L c.addr c.word) O2 ([(⟨y40.addr, (wordV V (y40.addr))⟩ : Cell6)] : List Cell6)) u0r22_15) ∧ (StoreR W2 ([(⟨y40.addr, (wordV V (y40.addr))⟩ : Cell6)] : List Cell6) u0r22_15) ∧ Fm 158 [] [(0, Value.slice (some ⟨b25, o26, none⟩) l.length c_l), (3, Value.pointer (some ⟨n4, 0, none⟩)), (4, Value.pointer (some ⟨n8, 0, none⟩)), (6, Value.int .i64 ((j : Nat) : Int)), (7, Value.bool lt), (9, Value.int .i64 ((kk2 : Nat) : Int)), (87, Value.int .i64 ((kk2 : Nat) : Int)), (88, Value.slice (some ⟨b25, o26, none⟩) l.length c_l), (89, Value.int .i64 ((l.length : Nat) : Int)), (90, Value.bool (decide ((((kk2 : Nat) : Int) : Int) < (((l.length : Nat) : Int) : Int)))), (93, Value.slice (some ⟨b25, o26, none⟩) l.length c_l), (94, Value.int .i64 ((kk2 : Nat) : Int)), (95, Value.pointer (some ⟨b25, o26 + kk2 * 2, none⟩)), (96, Value.pointer (some ⟨b25, o26 + kk2 * 2, none⟩)), (97, Value.int .u32 y40.addr), (98, Value.slice (some ⟨b25, o26, none⟩) l.length c_l), (99, Value.int .i64 ((j : Nat) : Int)), (100, Value.pointer (some ⟨b25, o26 + j * 2, none⟩)), (101, Value.pointer (some ⟨b25, o26 + j * 2, none⟩)), (102, Value.int .u32 y24.addr), (103, Value.int .u32 (bits .xor .u32 (y24.addr : Int) (5 : Int))), (104, Value.bool ((y40.addr : Int) == ((bits .xor .u32 (y24.addr : Int) (5 : Int)) : Int)))] ac_ ∧ Ws w No [MemR n8 n9 u0r22_15, MemR n4 n5 V] [roR (some ⟨br22_14, 0, none⟩) 2 enCell6 ([(⟨y40.addr, (wordV V (y40.addr))⟩ : Cell6)] : List Cell6), Cel br22_14 #[Value.int .u32 y40.addr, Value.int .u32 (wordV V (y40.addr))] 30, roR (some ⟨br17_23, 0, none⟩) 2 enCell6 ([(⟨(bits .xor .u32 (y24.addr : Int) (5 : Int)), 0⟩ : Cell6), y24, y24] : List Cell6), Cel br17_23 #[Value.int .u32 (bits .xor .u32 (y24.addr : Int) (5 : Int)), Value.int .u32 0, Value.int .u32 y24.addr, Value.int .u32 y24.word, Value.int .u32 y24.addr, Value.int .u32 y24.word] 30, roR (some ⟨b25, o26, none⟩) 2 enCell6 l] wl_) ?_ ?_
                             · refine sr_region (m := 16) (C := Ws w No [] [roR (some ⟨br17_23, 0, none⟩) 2 enCell6 ([(⟨(bits .xor .u32 (y24.addr : Int) (5 : Int)), 0⟩ : Cell6), y24, y24] : List Cell6), Cel br17_23 #[Value.int .u32 (bits .xor .u32 (y24.addr : Int) (5 : Int)), Value.int .u32 0, Value.int .u32 y24.addr, Value.int .u32 y24.word, Value.int .u32 y24.addr, Value.int .u32 y24.word] 30, roR (some ⟨b25, o26, none⟩) 2 enCell6 l]) (fun i => [5, 11].contains i) (fun i => [5, 11, 12].contains i) (fun i => [0, 1, 2, 3, 4, 6, 7, 8, 9, 10, 13].contains i) (by kernel_rfl) (by kernel_rfl) (by kernel_rfl) (by kernel_rfl) hW ?_; clear hW; intro w43 hW hfw43 hR; have hC : Ws w No [] [roR (some ⟨br17_23, 0, none⟩) 2 enCell6 ([(⟨(bits .xor .u32 (y24.addr : Int) (5 : Int)), 0⟩ : Cell6), y24, y24] : List Cell6), Cel br17_23 #[Value.int .u32 (bits .xor .u32 (y24.addr : Int) (5 : Int)), Value.int .u32 0, Value.int .u32 y24.addr, Value.int .u32 y24.word, Value.int .u32 y24.addr, Value.int .u32 y24.word] 30, roR (some ⟨b25, o26, none⟩) 2 enCell6 l] w43 := hW.pick [] (by decide) rfl
                               refine sr_pure (i := 0) (v := Value.pointer (some ⟨n8, 0, none⟩)) hR (by kernel_rfl) rfl (by kernel_rfl) (by kernel_rfl) (fun _ _ _ h => h.elim) hA (by kernel_rfl) (by kernel_rfl) (by kernel_rfl) (Rd.pure fun _ => by kernel_rfl) ?_; clear hA ac; intro ac hA
                               refine sr_pure (i := 1) (v := Value.slice (some ⟨b25, o26, none⟩) l.length c_l) hR (by kernel_rfl) rfl (by kernel_rfl) (by kernel_rfl) (fun _ _ _ h => h.elim) hA (by kernel_rfl) (by kernel_rfl) (by kernel_rfl) (Rd.pure fun _ => by kernel_rfl) ?_; clear hA ac; intro ac hA
                               refine sr_pure (i := 2) (v := Value.int .i64 ((kk2 : Nat) : Int)) hR (by kernel_rfl) rfl (by kernel_rfl) (by kernel_rfl) (fun _ _ _ h => h.elim) hA (by kernel_rfl) (by kernel_rfl) (by kernel_rfl) (Rd.pure fun _ => by kernel_rfl) ?_; clear hA ac; intro ac hA
                               refine sr_pure (i := 3) (v := Value.pointer (some ⟨b25, o26 + kk2 * 2, none⟩)) hR (by kernel_rfl) rfl (by kernel_rfl) (by kernel_rfl) (fun _ _ _ h => h.elim) hA (by kernel_rfl) (by kernel_rfl) (by kernel_rfl) (Rd.indexAddr (e := 30) (sz := 2) (b := b25) (off := o26) (n := l.length) (c := c_l) (k := kk2) (by kernel_rfl) (by kernel_rfl) (by first | omega | (simp; done) | (simp; omega)) (fun _ => by kernel_rfl) (fun _ => by kernel_rfl)) ?_; clear hA ac; intro ac hA
                               refine sr_pure (i := 4) (v := Value.pointer (some ⟨b25, o26 + kk2 * 2, none⟩)) hR (by kernel_rfl) rfl (by kernel_rfl) (by kernel_rfl) (fun _ _ _ h => h.elim) hA (by kernel_rfl) (by kernel_rfl) (by kernel_rfl) (Rd.pure fun _ => by kernel_rfl) ?_; clear hA ac; intro ac hA
                               refine sr_take (i := 5) (v := Value.int .u32 y40.addr) hR (by kernel_rfl) rfl (by kernel_rfl) (by kernel_rfl) (by kernel_rfl) (fun _ _ _ h => h.elim) hA (by kernel_rfl) (by kernel_rfl) (by kernel_rfl) hC (Rd.loadRow (b := b25) (i := o26 + kk2 * 2) (xs := [Value.int .u32 y40.addr]) (by kernel_rfl) (fun _ hw => row_ld ((hw).getG 2 rfl) hy40 (Fr.refl No _) (fun h => h) 0 1 (by kernel_rfl)) (by kernel_rfl)) ?_; clear hA ac; intro ac hA
                               refine sr_pure (i := 6) (v := Value.pointer (some ⟨n4, 0, none⟩)) hR (by kernel_rfl) rfl (by kernel_rfl) (by kernel_rfl) (fun _ _ _ h => h.elim) hA (by kernel_rfl) (by kernel_rfl) (by kernel_rfl) (Rd.pure fun _ => by kernel_rfl) ?_; clear hA ac; intro ac hA
                               refine sr_pure (i := 7) (v := Value.slice (some ⟨b25, o26, none⟩) l.length c_l) hR (by kernel_rfl) rfl (by kernel_rfl) (by kernel_rfl) (fun _ _ _ h => h.elim) hA (by kernel_rfl) (by kernel_rfl) (by kernel_rfl) (Rd.pure fun _ => by kernel_rfl) ?_; clear hA ac; intro ac hA
                               refine sr_pure (i := 8) (v := Value.int .i64 ((kk2 : Nat) : Int)) hR (by kernel_rfl) rfl (by kernel_rfl) (by kernel_rfl) (fun _ _ _ h => h.elim) hA (by kernel_rfl) (by kernel_rfl) (by kernel_rfl) (Rd.pure fun _ => by kernel_rfl) ?_; clear hA ac; intro ac hA
                               refine sr_pure (i := 9) (v := Value.pointer (some ⟨b25, o26 + kk2 * 2, none⟩)) hR (by kernel_rfl) rfl (by kernel_rfl) (by kernel_rfl) (fun _ _ _ h => h.elim) hA (by kernel_rfl) (by kernel_rfl) (by kernel_rfl) (Rd.indexAddr (e := 30) (sz := 2) (b := b25) (off := o26) (n := l.length) (c := c_l) (k := kk2) (by kernel_rfl) (by kernel_rfl) (by first | omega | (simp; done) | (simp; omega)) (fun _ => by kernel_rfl) (fun _ => by kernel_rfl)) ?_; clear hA ac; intro ac hA
                               refine sr_pure (i := 10) (v := Value.pointer (some ⟨b25, o26 + kk2 * 2, none⟩)) hR (by kernel_rfl) rfl (by kernel_rfl) (by kernel_rfl) (fun _ _ _ h => h.elim) hA (by kernel_rfl) (by kernel_rfl) (by kernel_rfl) (Rd.pure fun _ => by kernel_rfl) ?_; clear hA ac; intro ac hA
                               refine sr_take (i := 11) (v := Value.int .u32 y40.addr) hR (by kernel_rfl) rfl (by kernel_rfl) (by kernel_rfl) (by kernel_rfl) (fun _ _ _ h => h.elim) hA (by kernel_rfl) (by kernel_rfl) (by kernel_rfl) hC (Rd.loadRow (b := b25) (i := o26 + kk2 * 2) (xs := [Value.int .u32 y40.addr]) (by kernel_rfl) (fun _ hw => row_ld ((hw).getG 2 rfl) hy40 (Fr.refl No _) (fun h => h) 0 1 (by kernel_rfl)) (by kernel_rfl)) ?_; clear hA ac; intro ac hA
                               refine sr_one (i := 12) (by kernel_rfl) (sr_do rfl hA (by kernel_rfl) (by kernel_rfl) (by kernel_rfl) (Runs.callN (v := Value.int .u32 (wordV V (y40.addr))) (fun _ => by kernel_rfl) hW (e_mload n4 n5 V (y40.addr) w43 ((hW).get 1 rfl) ((hW).lt _ (List.mem_of_getElem? (i := 1) rfl)) (by first | omega | assumption | (simp; done) | (constructor <;> omega) | exact (by assumption : (0 ≤ _ ∧ _ ≤ (4294967295 : Int)) ∧ (0 ≤ _ ∧ _ ≤ (4294967295 : Int))).1 | (intro x hx; simp only [List.mem_singleton] at hx; subst hx; exact hwf _ (List.mem_of_getElem? (by assumption))))) ?_)); clear hA ac hW; intro w44 hW hfw44 ac hA
                               refine ⟨⟨fun _ => (hW.pick [] (by decide) rfl).pickG [0, 1, 2] rfl, fun h => absurd h (by decide)⟩, ?_⟩; have hC : Ws w No [] [roR (some ⟨br17_23, 0, none⟩) 2 enCell6 ([(⟨(bits .xor .u32 (y24.addr : Int) (5 : Int)), 0⟩ : Cell6), y24, y24] : List Cell6), Cel br17_23 #[Value.int .u32 (bits .xor .u32 (y24.addr : Int) (5 : Int)), Value.int .u32 0, Value.int .u32 y24.addr, Value.int .u32 y24.word, Value.int .u32 y24.addr, Value.int .u32 y24.word] 30, roR (some ⟨b25, o26, none⟩) 2 enCell6 l] w44 := (hW.pick [] (by decide) rfl).pickG [0, 1, 2] rfl
                               refine sr_pure (i := 13) (v := Value.agg #[Value.int .u32 y40.addr, Value.int .u32 (wordV V (y40.addr))]) hR (by kernel_rfl) rfl (by kernel_rfl) (by kernel_rfl) (fun _ _ _ h => h.elim) hA (by kernel_rfl) (by kernel_rfl) (by kernel_rfl) (Rd.pure fun _ => by kernel_rfl) ?_; clear hA ac; intro ac hA
                               refine sr_one (i := 14) (by kernel_rfl) (sr_do rfl hA (by kernel_rfl) (by kernel_rfl) (by kernel_rfl) (Runs.cells (fun b => Value.slice (some ⟨b, 0, none⟩) 1 1) #[Value.int .u32 y40.addr, Value.int .u32 (wordV V (y40.addr))] 30 (fun _ => by kernel_rfl) hW ?_)); clear hA ac hW; intro br22_14 w45 hW hbr22_14 hfw45 ac hA
                               refine ⟨⟨fun h => absurd h (by decide), fun h => absurd h (by decide)⟩, ?_⟩
                               have hW := hW.share 0 rfl (H' := [MemR n8 n9 W2, MemR n4 n5 V]) rfl
                               have hW := hW.nestG (roR (some ⟨br22_14, 0, none⟩) 2 enCell6 ([(⟨y40.addr, (wordV V (y40.addr))⟩ : Cell6)] : List Cell6)) (rowAt_cel (show _ = _ from hW.getG 0 rfl) ([(⟨y40.addr, (wordV V (y40.addr))⟩ : Cell6)] : List Cell6) (by rfl) elt_Cell6.len) (fun _ hb_ => ⟨_, List.mem_of_getElem? (i := 0) rfl, cel_fp _ hb_⟩)
                               refine sr_one (i := 15) (by kernel_rfl) (sr_do rfl hA (by kernel_rfl) (by kernel_rfl) (by kernel_rfl) (Runs.call (fun _ => by kernel_rfl) (e_mstore n8 n9 W2 (some ⟨br22_14, 0, none⟩) 1 ([(⟨y40.addr, (wordV V (y40.addr))⟩ : Cell6)] : List Cell6) w45 ((hW).get 0 rfl) ((hW).lt _ (List.mem_of_getElem? (i := 0) rfl)) ((hW).getG 0 rfl) (by first | assumption | omega | (simp; omega) | simp) ((hW).gd _ (List.mem_of_getElem? (i := 0) rfl) _ (List.mem_of_getElem? (i := 0) rfl)) (by first | omega | assumption | (simp; done) | (constructor <;> omega) | exact (by assumption : (0 ≤ _ ∧ _ ≤ (4294967295 : Int)) ∧ (0 ≤ _ ∧ _ ≤ (4294967295 : Int))).1 | (intro x hx; simp only [List.mem_singleton] at hx; subst hx; exact hwf _ (List.mem_of_getElem? (by assumption)))) (by first | omega | assumption | (simp; done) | (constructor <;> omega) | exact (by assumption : (0 ≤ _ ∧ _ ≤ (4294967295 : Int)) ∧ (0 ≤ _ ∧ _ ≤ (4294967295 : Int))).1 | (intro x hx; simp only [List.mem_singleton] at hx; subst hx; exact hwf _ (List.mem_of_getElem? (by assumption))))) ?_))
                               rintro _ w46 ⟨u0r22_15, rfl, hr22_15_hS, hu_⟩; refine ⟨_, rfl, ?_⟩; replace hW := hW.upd (H' := [MemR n8 n9 u0r22_15, MemR n4 n5 V]) 0 rfl hu_ rfl; clear hA ac; intro ac hA
                               have hqr22_15 : Rel06 (q2 + (([(⟨y40.addr, (wordV V (y40.addr))⟩ : Cell6)] : List Cell6)).length) (List.foldl (fun L c => insM L c.addr c.word) O2 ([(⟨y40.addr, (wordV V (y40.addr))⟩ : Cell6)] : List Cell6)) u0r22_15 := hR3.storeR hr22_15_hS (by first | assumption | (intro x hx; simp only [List.mem_singleton] at hx; subst hx; exact hwf _ (List.mem_of_getElem? (by assumption))) | (intro x hx; simp only [List.mem_singleton] at hx; subst hx; assumption) | (intro x hx; simp only [List.mem_cons, List.not_mem_nil, or_false] at hx; (repeat' (rcases hx with rfl | hx)) <;> first | (subst hx; simp; done) | (simp; done) | (subst hx; assumption)))
                               refine ⟨⟨fun h => absurd h (by decide), fun h => absurd h (by decide)⟩, ?_⟩
                               refine sr_done (by kernel_rfl) ?_ _
                               exact ⟨br22_14, u0r22_15, hqr22_15, hr22_15_hS, hA.sub ⟨⟨by kernel_rfl, by kernel_rfl⟩, ⟨by kernel_rfl, by kernel_rfl⟩, ⟨by kernel_rfl, by kernel_rfl⟩, ⟨by kernel_rfl, by kernel_rfl⟩, ⟨by kernel_rfl, by kernel_rfl⟩, ⟨by kernel_rfl, by kernel_rfl⟩, ⟨by kernel_rfl, by kernel_rfl⟩, ⟨by kernel_rfl, by kernel_rfl⟩, ⟨by kernel_rfl, by kernel_rfl⟩, ⟨by kernel_rfl, by kernel_rfl⟩, ⟨by kernel_rfl, by kernel_rfl⟩, ⟨by kernel_rfl, by kernel_rfl⟩, ⟨by kernel_rfl, by kernel_rfl⟩, ⟨by kernel_rfl, by kernel_rfl⟩, ⟨by kernel_rfl, by kernel_rfl⟩, ⟨by kernel_rfl, by kernel_rfl⟩, ⟨by kernel_rfl, by kernel_rfl⟩, ⟨by kernel_rfl, by kernel_rfl⟩, ⟨by kernel_rfl, by kernel_rfl⟩, ⟨by kernel_rfl, by kernel_rfl⟩, ⟨by kernel_rfl, by kernel_rfl⟩, ⟨by kernel_rfl, by kernel_rfl⟩, trivial⟩, (hW.pick [0, 1] (by decide) rfl).pickG [0, 1, 2, 3, 4] rfl⟩
                             clear hA ac hW; rintro ac w47 ⟨br22_14, u0r22_15, hqr22_15, hr22_15_hS, hA, hW⟩
                             refine blkN ?_
                             refine thenN ?_
                             refine wp_region_lit ?_
                             refine st_rd (v := Value.int .i64 ((kk2 : Nat) : Int)) hA (by kernel_rfl) (by kernel_rfl) (by kernel_rfl) hW.cls (Rd.pure fun _ => by kernel_rfl) ?_; clear hA ac; intro ac hA
                             refine st_rd (v := Value.int .i64 ((kk2 + 1 : Nat) : Int)) hA (by kernel_rfl) (by kernel_rfl) (by kernel_rfl) hW.cls (Rd.pureE (v0 := Value.int .i64 (IntKind.i64.wrap ((((kk2 : Nat) : Int) : Int) + 1))) (fun _ => by kernel_rfl) (congrArg (Value.int .i64) ((w_i64 (x := (((kk2 : Nat) : Int) : Int) + 1) (by omega) (by omega)).trans (by omega)))) ?_; clear hA ac; intro ac hA
                             refine st_rd (v := Value.int .i64 ((kk2 + 1 : Nat) : Int)) hA (by kernel_rfl) (by kernel_rfl) (by kernel_rfl) hW.cls (Rd.pure fun _ => by kernel_rfl) ?_; clear hA ac; intro ac hA
                             refine wpList_nil ?_
                             refine thenN ?_
                             exact ⟨l.length - (kk2 + 1), by omega, kk2 + 1, q2 + (([(⟨y40.addr, (wordV V (y40.addr))⟩ : Cell6)] : List Cell6)).length, List.foldl (fun L c => insM L c.addr c.word) O2 ([(⟨y40.addr, (wordV V (y40.addr))⟩ : Cell6)] : List Cell6), u0r22_15, rfl, by omega, by exact hqr22_15, by rw [td_snoc hy40 hkk2.1]; exact hold_yes hR3.rise hH2 hx5_.2 (by omega) (hq21.wd _), hA.sub ⟨⟨by kernel_rfl, by kernel_rfl⟩, ⟨by kernel_rfl, by kernel_rfl⟩, ⟨by kernel_rfl, by kernel_rfl⟩, ⟨by kernel_rfl, by kernel_rfl⟩, ⟨by kernel_rfl, by kernel_rfl⟩, ⟨by kernel_rfl, by kernel_rfl⟩, trivial⟩, (hW.pick [0, 1] (by decide) rfl).pickG [2, 3, 4] rfl⟩)
                         · skip
                           have h42 := ne_of_beq_false h42
                           first
                           | (exfalso; clear hA hW; omega)
                           | (exfalso; clear hA hW; exact absurd (hlt_t.symm.trans h42) (by decide); done)
                           | (exfalso; clear hA hW; exact h42 ((hq21.wd _).trans hwl_); done)
                           | (
                             refine wp_skip ?_
                             refine blkN ?_
                             refine thenN ?_
                             refine wp_region_lit ?_
                             refine st_rd (v := Value.int .i64 ((kk2 : Nat) : Int)) hA (by kernel_rfl) (by kernel_rfl) (by kernel_rfl) hW.cls (Rd.pure fun _ => by kernel_rfl) ?_; clear hA ac; intro ac hA
                             refine st_rd (v := Value.int .i64 ((kk2 + 1 : Nat) : Int)) hA (by kernel_rfl) (by kernel_rfl) (by kernel_rfl) hW.cls (Rd.pureE (v0 := Value.int .i64 (IntKind.i64.wrap ((((kk2 : Nat) : Int) : Int) + 1))) (fun _ => by kernel_rfl) (congrArg (Value.int .i64) ((w_i64 (x := (((kk2 : Nat) : Int) : Int) + 1) (by omega) (by omega)).trans (by omega)))) ?_; clear hA ac; intro ac hA
                             refine st_rd (v := Value.int .i64 ((kk2 + 1 : Nat) : Int)) hA (by kernel_rfl) (by kernel_rfl) (by kernel_rfl) hW.cls (Rd.pure fun _ => by kernel_rfl) ?_; clear hA ac; intro ac hA
                             refine wpList_nil ?_
                             refine thenN ?_
                             exact ⟨l.length - (kk2 + 1), by omega, kk2 + 1, q2, O2, W2, rfl, by omega, by exact hR3, by rw [td_snoc hy40 hkk2.1]; exact hold_no hH2 (by omega), hA.sub ⟨⟨by kernel_rfl, by kernel_rfl⟩, ⟨by kernel_rfl, by kernel_rfl⟩, ⟨by kernel_rfl, by kernel_rfl⟩, ⟨by kernel_rfl, by kernel_rfl⟩, ⟨by kernel_rfl, by kernel_rfl⟩, ⟨by kernel_rfl, by kernel_rfl⟩, trivial⟩, (hW.pick [0, 1] (by decide) rfl).pickG [0, 1, 2] rfl⟩))
                     · skip
                       have h39 := of_decide_eq_false h39
                       first
                       | (exfalso; clear hA hW; omega)
                       | (exfalso; clear hA hW; exact absurd (hlt_t.symm.trans h39) (by decide); done)
                       | (exfalso; clear hA hW; exact h39 ((hq21.wd _).trans hwl_); done)
                       | (
                         refine wp_exit ?_
                         refine thenX ?_
                         refine thenX ?_
                         refine blkX ?_
                         refine thenN ?_
                         refine wp_seq ?_
                         have hwl_ : loadM M y24.addr = y24.word := by rw [hM]; exact ins_last hy24 hnl_
                         have hEnd_ := hold_end (by have h_ := hH2; rw [show l.take kk2 = l from List.take_of_length_le (by omega)] at h_; exact h_) hx5_.2 hwl_
                         refine q_region (by kernel_rfl) (by kernel_rfl) hW ?_
                         refine sq_rd (v := Value.pointer (some ⟨n4, 0, none⟩)) hA (by kernel_rfl) (by kernel_rfl) (by kernel_rfl) (Rd.pure fun _ => by kernel_rfl) ?_; clear hA ac; intro ac hA
                         refine sq_rd (v := Value.slice (some ⟨b25, o26, none⟩) l.length c_l) hA (by kernel_rfl) (by kernel_rfl) (by kernel_rfl) (Rd.pure fun _ => by kernel_rfl) ?_; clear hA ac; intro ac hA
                         refine sq_rd (v := Value.int .i64 ((j : Nat) : Int)) hA (by kernel_rfl) (by kernel_rfl) (by kernel_rfl) (Rd.pure fun _ => by kernel_rfl) ?_; clear hA ac; intro ac hA
                         refine sq_rd (v := Value.pointer (some ⟨b25, o26 + j * 2, none⟩)) hA (by kernel_rfl) (by kernel_rfl) (by kernel_rfl) (Rd.indexAddr (e := 30) (sz := 2) (b := b25) (off := o26) (n := l.length) (c := c_l) (k := j) (by kernel_rfl) (by kernel_rfl) (by first | omega | (simp; done) | (simp; omega)) (fun _ => by kernel_rfl) (fun _ => by kernel_rfl)) ?_; clear hA ac; intro ac hA
                         refine sq_rd (v := Value.pointer (some ⟨b25, o26 + j * 2, none⟩)) hA (by kernel_rfl) (by kernel_rfl) (by kernel_rfl) (Rd.pure fun _ => by kernel_rfl) ?_; clear hA ac; intro ac hA
                         refine sq_rd (v := Value.int .u32 y24.addr) hA (by kernel_rfl) (by kernel_rfl) (by kernel_rfl) (Rd.loadRow (b := b25) (i := o26 + j * 2) (xs := [Value.int .u32 y24.addr]) (by kernel_rfl) (fun _ hw => row_ld ((hw.1).getG 2 rfl) hy24 (Fr.refl No _) (fun h => h) 0 1 (by kernel_rfl)) (by kernel_rfl)) ?_; clear hA ac; intro ac hA
                         refine sq_call (v := Value.int .u32 (wordV V (y24.addr))) hA (by kernel_rfl) (by kernel_rfl) (by kernel_rfl) (fun _ => by kernel_rfl) (Cls.callNC fun wx hwx => e_mload n4 n5 V (y24.addr) wx ((hwx.1).get 1 rfl) ((hwx.1).lt _ (List.mem_of_getElem? (i := 1) rfl)) (by first | omega | assumption | (simp; done) | (constructor <;> omega) | exact (by assumption : (0 ≤ _ ∧ _ ≤ (4294967295 : Int)) ∧ (0 ≤ _ ∧ _ ≤ (4294967295 : Int))).1 | (intro x hx; simp only [List.mem_singleton] at hx; subst hx; exact hwf _ (List.mem_of_getElem? (by assumption))))) ?_; clear hA ac; intro ac hA
                         refine sq_rd (v := Value.slice (some ⟨b25, o26, none⟩) l.length c_l) hA (by kernel_rfl) (by kernel_rfl) (by kernel_rfl) (Rd.pure fun _ => by kernel_rfl) ?_; clear hA ac; intro ac hA
                         refine sq_rd (v := Value.int .i64 ((j : Nat) : Int)) hA (by kernel_rfl) (by kernel_rfl) (by kernel_rfl) (Rd.pure fun _ => by kernel_rfl) ?_; clear hA ac; intro ac hA
                         refine sq_rd (v := Value.pointer (some ⟨b25, o26 + j * 2, none⟩)) hA (by kernel_rfl) (by kernel_rfl) (by kernel_rfl) (Rd.indexAddr (e := 30) (sz := 2) (b := b25) (off := o26) (n := l.length) (c := c_l) (k := j) (by kernel_rfl) (by kernel_rfl) (by first | omega | (simp; done) | (simp; omega)) (fun _ => by kernel_rfl) (fun _ => by kernel_rfl)) ?_; clear hA ac; intro ac hA
                         refine sq_rd (v := Value.pointer (some ⟨b25, o26 + j * 2 + 1, none⟩)) hA (by kernel_rfl) (by kernel_rfl) (by kernel_rfl) (Rd.pure fun _ => by kernel_rfl) ?_; clear hA ac; intro ac hA
                         refine sq_rd (v := Value.int .u32 y24.word) hA (by kernel_rfl) (by kernel_rfl) (by kernel_rfl) (Rd.loadRow (b := b25) (i := o26 + j * 2 + 1) (xs := [Value.int .u32 y24.word]) (by kernel_rfl) (fun _ hw => row_ld ((hw.1).getG 2 rfl) hy24 (Fr.refl No _) (fun h => h) 1 1 (by kernel_rfl)) (by kernel_rfl)) ?_; clear hA ac; intro ac hA
                         refine sq_rd (v := Value.bool (((wordV V (y24.addr)) : Int) != (y24.word : Int))) hA (by kernel_rfl) (by kernel_rfl) (by kernel_rfl) (Rd.pure fun _ => by kernel_rfl) ?_; clear hA ac; intro ac hA
                         refine sq_rd (v := Value.bool (((wordV V (y24.addr)) : Int) != (y24.word : Int))) hA (by kernel_rfl) (by kernel_rfl) (by kernel_rfl) (Rd.pure fun _ => by kernel_rfl) ?_; clear hA ac; intro ac hA
                         rcases Bool.eq_false_or_eq_true (((wordV V (y24.addr)) : Int) != (y24.word : Int)) with h48 | h48
                         · skip
                           rw [h48] at hA
                           have h48 := bne_iff_ne.1 h48
                           first
                           | (exfalso; clear hA hW; omega)
                           | (exfalso; clear hA hW; exact absurd (hlt_t.symm.trans h48) (by decide); done)
                           | (exfalso; clear hA hW; exact h48 ((hq21.wd _).trans hwl_); done)
                           | (
                             refine sq_rd (v := Value.bool lt) hA (by kernel_rfl) (by kernel_rfl) (by kernel_rfl) (Rd.pure fun _ => by kernel_rfl) ?_; clear hA ac; intro ac hA
                             refine sq_rd (v := Value.bool (!lt)) hA (by kernel_rfl) (by kernel_rfl) (by kernel_rfl) (Rd.pure fun _ => by kernel_rfl) ?_; clear hA ac; intro ac hA
                             refine sq_rd (v := Value.bool (!lt)) hA (by kernel_rfl) (by kernel_rfl) (by kernel_rfl) (Rd.pure fun _ => by kernel_rfl) ?_; clear hA ac; intro ac hA
                             refine sq_nil ?_; intro w49 hww49; have hW := hww49.1; have hfw49 := hww49.2; clear hww49
                             refine thenN ?_
                             refine wp_cond_split (t := !lt) (hA.eval (by kernel_rfl)) (fun h50 => ?_) (fun h50 => ?_)
                             · skip
                               have h50 := not_t h50
                               first
                               | (exfalso; clear hA hW; omega)
                               | (exfalso; clear hA hW; exact absurd (hlt_t.symm.trans h50) (by decide); done)
                               | (exfalso; clear hA hW; exact h50 ((hq21.wd _).trans hwl_); done)
                               | (
                                 fail)
                             · skip
                               have h50 := not_f h50
                               first
                               | (exfalso; clear hA hW; omega)
                               | (exfalso; clear hA hW; exact absurd (hlt_t.symm.trans h50) (by decide); done)
                               | (exfalso; clear hA hW; exact h50 ((hq21.wd _).trans hwl_); done)
                               | (
                                 refine wp_skip ?_
                                 refine blkN ?_
                                 refine thenN ?_
                                 refine wp_region_lit ?_
                                 refine st_rd (v := Value.int .i64 ((j : Nat) : Int)) hA (by kernel_rfl) (by kernel_rfl) (by kernel_rfl) hW.cls (Rd.pure fun _ => by kernel_rfl) ?_; clear hA ac; intro ac hA
                                 refine st_rd (v := Value.int .i64 ((((j : Nat) : Int) : Int) - 1)) hA (by kernel_rfl) (by kernel_rfl) (by kernel_rfl) hW.cls (Rd.pureE (v0 := Value.int .i64 (IntKind.i64.wrap ((((j : Nat) : Int) : Int) - 1))) (fun _ => by kernel_rfl) (congrArg (Value.int .i64) ((w_i64 (x := (((j : Nat) : Int) : Int) - 1) (by omega) (by omega)).trans (by omega)))) ?_; clear hA ac; intro ac hA
                                 refine st_rd (v := Value.int .i64 ((((j : Nat) : Int) : Int) - 1)) hA (by kernel_rfl) (by kernel_rfl) (by kernel_rfl) hW.cls (Rd.pure fun _ => by kernel_rfl) ?_; clear hA ac; intro ac hA
                                 refine wpList_nil ?_
                                 refine thenN ?_
                                 exact ⟨(j) + 1, by omega, j, q2, O2, W2, rfl, by omega, by exact hR3, by rw [drop_at hy24]; exact hEnd_, hA.sub ⟨⟨by kernel_rfl, by kernel_rfl⟩, ⟨by kernel_rfl, by kernel_rfl⟩, ⟨by kernel_rfl, by kernel_rfl⟩, ⟨by kernel_rfl, by kernel_rfl⟩, trivial⟩, (hW.pick [0, 1] (by decide) rfl).pickG [2] rfl⟩))
                         · skip
                           rw [h48] at hA
                           have h48 := of_bne_f h48
                           first
                           | (exfalso; clear hA hW; omega)
                           | (exfalso; clear hA hW; exact absurd (hlt_t.symm.trans h48) (by decide); done)
                           | (exfalso; clear hA hW; exact h48 ((hq21.wd _).trans hwl_); done)
                           | (
                             refine sq_skip hA (by kernel_rfl) (by kernel_rfl) ?_; clear hA ac; intro ac hA
                             refine sq_skip hA (by kernel_rfl) (by kernel_rfl) ?_; clear hA ac; intro ac hA
                             refine sq_rd (v := Value.bool false) hA (by kernel_rfl) (by kernel_rfl) (by kernel_rfl) (Rd.pure fun _ => by kernel_rfl) ?_; clear hA ac; intro ac hA
                             refine sq_nil ?_; intro w51 hww51; have hW := hww51.1; have hfw51 := hww51.2; clear hww51
                             refine thenN ?_
                             refine wp_cond_false (hA.eval (by kernel_rfl)) ?_
                             refine wp_skip ?_
                             refine blkN ?_
                             refine thenN ?_
                             refine wp_region_lit ?_
                             refine st_rd (v := Value.int .i64 ((j : Nat) : Int)) hA (by kernel_rfl) (by kernel_rfl) (by kernel_rfl) hW.cls (Rd.pure fun _ => by kernel_rfl) ?_; clear hA ac; intro ac hA
                             refine st_rd (v := Value.int .i64 ((((j : Nat) : Int) : Int) - 1)) hA (by kernel_rfl) (by kernel_rfl) (by kernel_rfl) hW.cls (Rd.pureE (v0 := Value.int .i64 (IntKind.i64.wrap ((((j : Nat) : Int) : Int) - 1))) (fun _ => by kernel_rfl) (congrArg (Value.int .i64) ((w_i64 (x := (((j : Nat) : Int) : Int) - 1) (by omega) (by omega)).trans (by omega)))) ?_; clear hA ac; intro ac hA
                             refine st_rd (v := Value.int .i64 ((((j : Nat) : Int) : Int) - 1)) hA (by kernel_rfl) (by kernel_rfl) (by kernel_rfl) hW.cls (Rd.pure fun _ => by kernel_rfl) ?_; clear hA ac; intro ac hA
                             refine wpList_nil ?_
                             refine thenN ?_
                             exact ⟨(j) + 1, by omega, j, q2, O2, W2, rfl, by omega, by exact hR3, by rw [drop_at hy24]; exact hEnd_, hA.sub ⟨⟨by kernel_rfl, by kernel_rfl⟩, ⟨by kernel_rfl, by kernel_rfl⟩, ⟨by kernel_rfl, by kernel_rfl⟩, ⟨by kernel_rfl, by kernel_rfl⟩, trivial⟩, (hW.pick [0, 1] (by decide) rfl).pickG [2] rfl⟩)))
                 · skip
                   have h33 := not_f h33
                   first
                   | (exfalso; clear hA hW; omega)
                   | (exfalso; clear hA hW; exact absurd (hlt_t.symm.trans h33) (by decide); done)
                   | (exfalso; clear hA hW; exact h33 ((hq21.wd _).trans hwl_); done)
                   | (
                     refine wp_skip ?_
                     refine thenN ?_
                     refine wp_seq ?_
                     have hlt_t : lt = true := by simpa using h33
                     refine q_region (by kernel_rfl) (by kernel_rfl) hW ?_
                     refine sq_rd (v := Value.pointer (some ⟨n4, 0, none⟩)) hA (by kernel_rfl) (by kernel_rfl) (by kernel_rfl) (Rd.pure fun _ => by kernel_rfl) ?_; clear hA ac; intro ac hA
                     refine sq_rd (v := Value.slice (some ⟨b25, o26, none⟩) l.length c_l) hA (by kernel_rfl) (by kernel_rfl) (by kernel_rfl) (Rd.pure fun _ => by kernel_rfl) ?_; clear hA ac; intro ac hA
                     refine sq_rd (v := Value.int .i64 ((j : Nat) : Int)) hA (by kernel_rfl) (by kernel_rfl) (by kernel_rfl) (Rd.pure fun _ => by kernel_rfl) ?_; clear hA ac; intro ac hA
                     refine sq_rd (v := Value.pointer (some ⟨b25, o26 + j * 2, none⟩)) hA (by kernel_rfl) (by kernel_rfl) (by kernel_rfl) (Rd.indexAddr (e := 30) (sz := 2) (b := b25) (off := o26) (n := l.length) (c := c_l) (k := j) (by kernel_rfl) (by kernel_rfl) (by first | omega | (simp; done) | (simp; omega)) (fun _ => by kernel_rfl) (fun _ => by kernel_rfl)) ?_; clear hA ac; intro ac hA
                     refine sq_rd (v := Value.pointer (some ⟨b25, o26 + j * 2, none⟩)) hA (by kernel_rfl) (by kernel_rfl) (by kernel_rfl) (Rd.pure fun _ => by kernel_rfl) ?_; clear hA ac; intro ac hA
                     refine sq_rd (v := Value.int .u32 y24.addr) hA (by kernel_rfl) (by kernel_rfl) (by kernel_rfl) (Rd.loadRow (b := b25) (i := o26 + j * 2) (xs := [Value.int .u32 y24.addr]) (by kernel_rfl) (fun _ hw => row_ld ((hw.1).getG 0 rfl) hy24 (Fr.refl No _) (fun h => h) 0 1 (by kernel_rfl)) (by kernel_rfl)) ?_; clear hA ac; intro ac hA
                     refine sq_call (v := Value.int .u32 (wordV V (y24.addr))) hA (by kernel_rfl) (by kernel_rfl) (by kernel_rfl) (fun _ => by kernel_rfl) (Cls.callNC fun wx hwx => e_mload n4 n5 V (y24.addr) wx ((hwx.1).get 1 rfl) ((hwx.1).lt _ (List.mem_of_getElem? (i := 1) rfl)) (by first | omega | assumption | (simp; done) | (constructor <;> omega) | exact (by assumption : (0 ≤ _ ∧ _ ≤ (4294967295 : Int)) ∧ (0 ≤ _ ∧ _ ≤ (4294967295 : Int))).1 | (intro x hx; simp only [List.mem_singleton] at hx; subst hx; exact hwf _ (List.mem_of_getElem? (by assumption))))) ?_; clear hA ac; intro ac hA
                     refine sq_rd (v := Value.slice (some ⟨b25, o26, none⟩) l.length c_l) hA (by kernel_rfl) (by kernel_rfl) (by kernel_rfl) (Rd.pure fun _ => by kernel_rfl) ?_; clear hA ac; intro ac hA
                     refine sq_rd (v := Value.int .i64 ((j : Nat) : Int)) hA (by kernel_rfl) (by kernel_rfl) (by kernel_rfl) (Rd.pure fun _ => by kernel_rfl) ?_; clear hA ac; intro ac hA
                     refine sq_rd (v := Value.pointer (some ⟨b25, o26 + j * 2, none⟩)) hA (by kernel_rfl) (by kernel_rfl) (by kernel_rfl) (Rd.indexAddr (e := 30) (sz := 2) (b := b25) (off := o26) (n := l.length) (c := c_l) (k := j) (by kernel_rfl) (by kernel_rfl) (by first | omega | (simp; done) | (simp; omega)) (fun _ => by kernel_rfl) (fun _ => by kernel_rfl)) ?_; clear hA ac; intro ac hA
                     refine sq_rd (v := Value.pointer (some ⟨b25, o26 + j * 2 + 1, none⟩)) hA (by kernel_rfl) (by kernel_rfl) (by kernel_rfl) (Rd.pure fun _ => by kernel_rfl) ?_; clear hA ac; intro ac hA
                     refine sq_rd (v := Value.int .u32 y24.word) hA (by kernel_rfl) (by kernel_rfl) (by kernel_rfl) (Rd.loadRow (b := b25) (i := o26 + j * 2 + 1) (xs := [Value.int .u32 y24.word]) (by kernel_rfl) (fun _ hw => row_ld ((hw.1).getG 0 rfl) hy24 (Fr.refl No _) (fun h => h) 1 1 (by kernel_rfl)) (by kernel_rfl)) ?_; clear hA ac; intro ac hA
                     refine sq_rd (v := Value.bool (((wordV V (y24.addr)) : Int) != (y24.word : Int))) hA (by kernel_rfl) (by kernel_rfl) (by kernel_rfl) (Rd.pure fun _ => by kernel_rfl) ?_; clear hA ac; intro ac hA
                     refine sq_rd (v := Value.bool (((wordV V (y24.addr)) : Int) != (y24.word : Int))) hA (by kernel_rfl) (by kernel_rfl) (by kernel_rfl) (Rd.pure fun _ => by kernel_rfl) ?_; clear hA ac; intro ac hA
                     rcases Bool.eq_false_or_eq_true (((wordV V (y24.addr)) : Int) != (y24.word : Int)) with h52 | h52
                     · skip
                       rw [h52] at hA
                       have h52 := bne_iff_ne.1 h52
                       first
                       | (exfalso; clear hA hW; omega)
                       | (exfalso; clear hA hW; exact absurd (hlt_t.symm.trans h52) (by decide); done)
                       | (exfalso; clear hA hW; exact h52 ((hq21.wd _).trans hwl_); done)
                       | (
                         refine sq_rd (v := Value.bool lt) hA (by kernel_rfl) (by kernel_rfl) (by kernel_rfl) (Rd.pure fun _ => by kernel_rfl) ?_; clear hA ac; intro ac hA
                         refine sq_rd (v := Value.bool (!lt)) hA (by kernel_rfl) (by kernel_rfl) (by kernel_rfl) (Rd.pure fun _ => by kernel_rfl) ?_; clear hA ac; intro ac hA
                         refine sq_rd (v := Value.bool (!lt)) hA (by kernel_rfl) (by kernel_rfl) (by kernel_rfl) (Rd.pure fun _ => by kernel_rfl) ?_; clear hA ac; intro ac hA
                         refine sq_nil ?_; intro w53 hww53; have hW := hww53.1; have hfw53 := hww53.2; clear hww53
                         refine thenN ?_
                         refine wp_cond_split (t := !lt) (hA.eval (by kernel_rfl)) (fun h54 => ?_) (fun h54 => ?_)
                         · skip
                           have h54 := not_t h54
                           first
                           | (exfalso; clear hA hW; omega)
                           | (exfalso; clear hA hW; exact absurd (hlt_t.symm.trans h54) (by decide); done)
                           | (exfalso; clear hA hW; exact h54 ((hq21.wd _).trans hwl_); done)
                           | (
                             fail)
                         · skip
                           have h54 := not_f h54
                           first
                           | (exfalso; clear hA hW; omega)
                           | (exfalso; clear hA hW; exact absurd (hlt_t.symm.trans h54) (by decide); done)
                           | (exfalso; clear hA hW; exact h54 ((hq21.wd _).trans hwl_); done)
                           | (
                             refine wp_skip ?_
                             refine blkN ?_
                             refine thenN ?_
                             refine wp_region_lit ?_
                             refine st_rd (v := Value.int .i64 ((j : Nat) : Int)) hA (by kernel_rfl) (by kernel_rfl) (by kernel_rfl) hW.cls (Rd.pure fun _ => by kernel_rfl) ?_; clear hA ac; intro ac hA
                             refine st_rd (v := Value.int .i64 ((((j : Nat) : Int) : Int) - 1)) hA (by kernel_rfl) (by kernel_rfl) (by kernel_rfl) hW.cls (Rd.pureE (v0 := Value.int .i64 (IntKind.i64.wrap ((((j : Nat) : Int) : Int) - 1))) (fun _ => by kernel_rfl) (congrArg (Value.int .i64) ((w_i64 (x := (((j : Nat) : Int) : Int) - 1) (by omega) (by omega)).trans (by omega)))) ?_; clear hA ac; intro ac hA
                             refine st_rd (v := Value.int .i64 ((((j : Nat) : Int) : Int) - 1)) hA (by kernel_rfl) (by kernel_rfl) (by kernel_rfl) hW.cls (Rd.pure fun _ => by kernel_rfl) ?_; clear hA ac; intro ac hA
                             refine wpList_nil ?_
                             refine thenN ?_
                             exact ⟨(j) + 1, by omega, j, q, O, W, rfl, by omega, by exact hR2, by rw [drop_at hy24]; exact hold_later hI (hLt.1 hlt_t), hA.sub ⟨⟨by kernel_rfl, by kernel_rfl⟩, ⟨by kernel_rfl, by kernel_rfl⟩, ⟨by kernel_rfl, by kernel_rfl⟩, ⟨by kernel_rfl, by kernel_rfl⟩, trivial⟩, (hW.pick [0, 1] (by decide) rfl).pickG [0] rfl⟩))
                     · skip
                       rw [h52] at hA
                       have h52 := of_bne_f h52
                       first
                       | (exfalso; clear hA hW; omega)
                       | (exfalso; clear hA hW; exact absurd (hlt_t.symm.trans h52) (by decide); done)
                       | (exfalso; clear hA hW; exact h52 ((hq21.wd _).trans hwl_); done)
                       | (
                         refine sq_skip hA (by kernel_rfl) (by kernel_rfl) ?_; clear hA ac; intro ac hA
                         refine sq_skip hA (by kernel_rfl) (by kernel_rfl) ?_; clear hA ac; intro ac hA
                         refine sq_rd (v := Value.bool false) hA (by kernel_rfl) (by kernel_rfl) (by kernel_rfl) (Rd.pure fun _ => by kernel_rfl) ?_; clear hA ac; intro ac hA
                         refine sq_nil ?_; intro w55 hww55; have hW := hww55.1; have hfw55 := hww55.2; clear hww55
                         refine thenN ?_
                         refine wp_cond_false (hA.eval (by kernel_rfl)) ?_
                         refine wp_skip ?_
                         refine blkN ?_
                         refine thenN ?_
                         refine wp_region_lit ?_
                         refine st_rd (v := Value.int .i64 ((j : Nat) : Int)) hA (by kernel_rfl) (by kernel_rfl) (by kernel_rfl) hW.cls (Rd.pure fun _ => by kernel_rfl) ?_; clear hA ac; intro ac hA
                         refine st_rd (v := Value.int .i64 ((((j : Nat) : Int) : Int) - 1)) hA (by kernel_rfl) (by kernel_rfl) (by kernel_rfl) hW.cls (Rd.pureE (v0 := Value.int .i64 (IntKind.i64.wrap ((((j : Nat) : Int) : Int) - 1))) (fun _ => by kernel_rfl) (congrArg (Value.int .i64) ((w_i64 (x := (((j : Nat) : Int) : Int) - 1) (by omega) (by omega)).trans (by omega)))) ?_; clear hA ac; intro ac hA
                         refine st_rd (v := Value.int .i64 ((((j : Nat) : Int) : Int) - 1)) hA (by kernel_rfl) (by kernel_rfl) (by kernel_rfl) hW.cls (Rd.pure fun _ => by kernel_rfl) ?_; clear hA ac; intro ac hA
                         refine wpList_nil ?_
                         refine thenN ?_
                         exact ⟨(j) + 1, by omega, j, q, O, W, rfl, by omega, by exact hR2, by rw [drop_at hy24]; exact hold_later hI (hLt.1 hlt_t), hA.sub ⟨⟨by kernel_rfl, by kernel_rfl⟩, ⟨by kernel_rfl, by kernel_rfl⟩, ⟨by kernel_rfl, by kernel_rfl⟩, ⟨by kernel_rfl, by kernel_rfl⟩, trivial⟩, (hW.pick [0, 1] (by decide) rfl).pickG [0] rfl⟩))))
         · skip
           have h23 := of_decide_eq_false h23
           first
           | (exfalso; clear hA hW; omega)
           | (exfalso; clear hA hW; exact absurd (hlt_t.symm.trans h23) (by decide); done)
           | (exfalso; clear hA hW; exact h23 ((hq21.wd _).trans hwl_); done)
           | (
             refine wp_exit ?_
             refine thenX ?_
             refine thenX ?_
             refine blkX ?_
             refine thenN ?_
             refine wp_seq ?_
             have hn0_ : n = 0 := (by omega); rw [hn0_, List.drop_zero] at hI; have hMO_ : O = M := by rw [hM] at hI hR_ ⊢; exact hold_all hR_ hR2 hI
             have hsm_ : vEq (vals V) (vals W) = true := by rw [hq21.same hR2]; exact decide_eq_true hMO_.symm
             have hwl_ : W.length = V.length := by have h_ := hsm_; unfold vEq at h_; rw [Bool.and_eq_true] at h_; have h2_ := of_decide_eq_true h_.1; rw [vals_len, vals_len] at h2_; omega
             have hw3 := hq21.hn; have hw5 := hq21.hrw; have hw6 := hR2.hn; have hw7 := hR2.hrw
             refine wp_region_lit ?_
             refine st_rd (v := Value.pointer (some ⟨n4, 0, none⟩)) hA (by kernel_rfl) (by kernel_rfl) (by kernel_rfl) hW.cls (Rd.pure fun _ => by kernel_rfl) ?_; clear hA ac; intro ac hA
             refine st_rd (v := Value.pointer (some ⟨n8, 0, none⟩)) hA (by kernel_rfl) (by kernel_rfl) (by kernel_rfl) hW.cls (Rd.pure fun _ => by kernel_rfl) ?_; clear hA ac; intro ac hA
             refine st hA (by kernel_rfl) (by kernel_rfl) (by kernel_rfl) (Runs.callN (v := Value.bool (vEq (vals V) (vals W))) (fun _ => by kernel_rfl) hW (e_msame n4 n5 V n8 n9 W w22 ((hW).get 1 rfl) ((hW).lt _ (List.mem_of_getElem? (i := 1) rfl)) ((hW).get 0 rfl) ((hW).lt _ (List.mem_of_getElem? (i := 0) rfl)) (by first | omega | assumption | (simp; done) | (constructor <;> omega) | exact (by assumption : (0 ≤ _ ∧ _ ≤ (4294967295 : Int)) ∧ (0 ≤ _ ∧ _ ≤ (4294967295 : Int))).1 | (intro x hx; simp only [List.mem_singleton] at hx; subst hx; exact hwf _ (List.mem_of_getElem? (by assumption))))) ?_); clear hA ac hW; intro w56 hW hfw56 ac hA
             refine st_rd (v := Value.bool (vEq (vals V) (vals W))) hA (by kernel_rfl) (by kernel_rfl) (by kernel_rfl) hW.cls (Rd.pure fun _ => by kernel_rfl) ?_; clear hA ac; intro ac hA
             rcases Bool.eq_false_or_eq_true (vEq (vals V) (vals W)) with h57 | h57
             · skip
               rw [h57] at hA
               first
               | (exfalso; clear hA hW; omega)
               | (exfalso; clear hA hW; rw [hsm_] at h57; cases h57; done)
               | (exfalso; clear hA hW; exact absurd (hlt_t.symm.trans h57) (by decide); done)
               | (exfalso; clear hA hW; exact h57 ((hq21.wd _).trans hwl_); done)
               | (
                 refine st_rd (v := Value.pointer (some ⟨n4, 0, none⟩)) hA (by kernel_rfl) (by kernel_rfl) (by kernel_rfl) hW.cls (Rd.pure fun _ => by kernel_rfl) ?_; clear hA ac; intro ac hA
                 refine st hA (by kernel_rfl) (by kernel_rfl) (by kernel_rfl) (Runs.call (fun _ => by kernel_rfl) (e_mdig n4 n5 V w56 ((hW).get 1 rfl) ((hW).lt _ (List.mem_of_getElem? (i := 1) rfl)) (by first | omega | assumption | (simp; done) | (constructor <;> omega) | exact (by assumption : (0 ≤ _ ∧ _ ≤ (4294967295 : Int)) ∧ (0 ≤ _ ∧ _ ≤ (4294967295 : Int))).1 | (intro x hx; simp only [List.mem_singleton] at hx; subst hx; exact hwf _ (List.mem_of_getElem? (by assumption)))) (by first | omega | assumption | (simp; done) | (constructor <;> omega) | exact (by assumption : (0 ≤ _ ∧ _ ≤ (4294967295 : Int)) ∧ (0 ≤ _ ∧ _ ≤ (4294967295 : Int))).1 | (intro x hx; simp only [List.mem_singleton] at hx; subst hx; exact hwf _ (List.mem_of_getElem? (by assumption)))) (by first | omega | assumption | (simp; done) | (constructor <;> omega) | exact (by assumption : (0 ≤ _ ∧ _ ≤ (4294967295 : Int)) ∧ (0 ≤ _ ∧ _ ≤ (4294967295 : Int))).1 | (intro x hx; simp only [List.mem_singleton] at hx; subst hx; exact hwf _ (List.mem_of_getElem? (by assumption))))) ?_)
                 rintro _ w58 ⟨g59, g60, rfl, hw58_hp, hw58_hs, hw58_hO, hfw58⟩; refine ⟨_, rfl, ?_⟩; have hW0 := hW; have hW := hW0.call hfw58
                 clear hW0 hA ac; intro ac hA
                 have hleg60 : g60 = fromM M 0 := by rw [hw58_hO, hq21.cells hw58_hp hw58_hs]
                 rw [from_all hq21.rise (fun x hx => (hq21.rng x hx).1.1)] at hleg60; have hllg60 := congrArg List.length hleg60
                 refine st_rd (v := Value.pointer (some ⟨n8, 0, none⟩)) hA (by kernel_rfl) (by kernel_rfl) (by kernel_rfl) hW.cls (Rd.pure fun _ => by kernel_rfl) ?_; clear hA ac; intro ac hA
                 refine st hA (by kernel_rfl) (by kernel_rfl) (by kernel_rfl) (Runs.call (fun _ => by kernel_rfl) (e_mdig n8 n9 W w58 ((hW).get 0 rfl) ((hW).lt _ (List.mem_of_getElem? (i := 0) rfl)) (by first | omega | assumption | (simp; done) | (constructor <;> omega) | exact (by assumption : (0 ≤ _ ∧ _ ≤ (4294967295 : Int)) ∧ (0 ≤ _ ∧ _ ≤ (4294967295 : Int))).1 | (intro x hx; simp only [List.mem_singleton] at hx; subst hx; exact hwf _ (List.mem_of_getElem? (by assumption)))) (by first | omega | assumption | (simp; done) | (constructor <;> omega) | exact (by assumption : (0 ≤ _ ∧ _ ≤ (4294967295 : Int)) ∧ (0 ≤ _ ∧ _ ≤ (4294967295 : Int))).1 | (intro x hx; simp only [List.mem_singleton] at hx; subst hx; exact hwf _ (List.mem_of_getElem? (by assumption)))) (by first | omega | assumption | (simp; done) | (constructor <;> omega) | exact (by assumption : (0 ≤ _ ∧ _ ≤ (4294967295 : Int)) ∧ (0 ≤ _ ∧ _ ≤ (4294967295 : Int))).1 | (intro x hx; simp only [List.mem_singleton] at hx; subst hx; exact hwf _ (List.mem_of_getElem? (by assumption))))) ?_)
                 rintro _ w61 ⟨g62, g63, rfl, hw61_hp, hw61_hs, hw61_hO, hfw61⟩; refine ⟨_, rfl, ?_⟩; have hW0 := hW; have hW := hW0.call hfw61
                 clear hW0 hA ac; intro ac hA
                 have hleg63 : g63 = fromM O 0 := by rw [hw61_hO, hR2.cells hw61_hp hw61_hs]
                 rw [from_all hR2.rise (fun x hx => (hR2.rng x hx).1.1)] at hleg63; have hllg63 := congrArg List.length hleg63
                 refine st_rd (v := Value.bool ((sumM (bytes6 g60) : Int) == (sumM (bytes6 g63) : Int))) hA (by kernel_rfl) (by kernel_rfl) (by kernel_rfl) hW.cls (Rd.pure fun _ => by kernel_rfl) ?_; clear hA ac; intro ac hA
                 refine st_rd (v := Value.bool ((sumM (bytes6 g60) : Int) == (sumM (bytes6 g63) : Int))) hA (by kernel_rfl) (by kernel_rfl) (by kernel_rfl) hW.cls (Rd.pure fun _ => by kernel_rfl) ?_; clear hA ac; intro ac hA
                 refine st_rd (v := Value.bool ((sumM (bytes6 g60) : Int) == (sumM (bytes6 g63) : Int))) hA (by kernel_rfl) (by kernel_rfl) (by kernel_rfl) hW.cls (Rd.pure fun _ => by kernel_rfl) ?_; clear hA ac; intro ac hA
                 rcases Bool.eq_false_or_eq_true ((sumM (bytes6 g60) : Int) == (sumM (bytes6 g63) : Int)) with h64 | h64
                 · skip
                   rw [h64] at hA
                   have h64 := eq_of_beq h64
                   first
                   | (exfalso; clear hA hW; omega)
                   | (exfalso; clear hA hW; rw [hsm_] at h64; cases h64; done)
                   | (exfalso; clear hA hW; refine h64 ?_; rw [hleg60, hleg63, hMO_]; done)
                   | (exfalso; clear hA hW; exact absurd (hlt_t.symm.trans h64) (by decide); done)
                   | (exfalso; clear hA hW; exact h64 ((hq21.wd _).trans hwl_); done)
                   | (
                     refine st_rd (v := Value.pointer (some ⟨n4, 0, none⟩)) hA (by kernel_rfl) (by kernel_rfl) (by kernel_rfl) hW.cls (Rd.pure fun _ => by kernel_rfl) ?_; clear hA ac; intro ac hA
                     refine st hA (by kernel_rfl) (by kernel_rfl) (by kernel_rfl) (Runs.call (fun _ => by kernel_rfl) (e_mlen n4 n5 V w61 ((hW).get 1 rfl) ((hW).lt _ (List.mem_of_getElem? (i := 1) rfl)) (by first | omega | assumption | (simp; done) | (constructor <;> omega) | exact (by assumption : (0 ≤ _ ∧ _ ≤ (4294967295 : Int)) ∧ (0 ≤ _ ∧ _ ≤ (4294967295 : Int))).1 | (intro x hx; simp only [List.mem_singleton] at hx; subst hx; exact hwf _ (List.mem_of_getElem? (by assumption)))) (by first | omega | assumption | (simp; done) | (constructor <;> omega) | exact (by assumption : (0 ≤ _ ∧ _ ≤ (4294967295 : Int)) ∧ (0 ≤ _ ∧ _ ≤ (4294967295 : Int))).1 | (intro x hx; simp only [List.mem_singleton] at hx; subst hx; exact hwf _ (List.mem_of_getElem? (by assumption))))) ?_)
                     rintro _ w65 ⟨g66, g67, rfl, hw65_hp, hw65_hs, hw65_hO, hfw65⟩; refine ⟨_, rfl, ?_⟩; have hW0 := hW; have hW := hW0.call hfw65
                     clear hW0 hA ac; intro ac hA
                     have hleg67 : g67 = fromM M 0 := by rw [hw65_hO, hq21.cells hw65_hp hw65_hs]
                     rw [from_all hq21.rise (fun x hx => (hq21.rng x hx).1.1)] at hleg67; have hllg67 := congrArg List.length hleg67
                     refine st_rd (v := Value.pointer (some ⟨n8, 0, none⟩)) hA (by kernel_rfl) (by kernel_rfl) (by kernel_rfl) hW.cls (Rd.pure fun _ => by kernel_rfl) ?_; clear hA ac; intro ac hA
                     refine st hA (by kernel_rfl) (by kernel_rfl) (by kernel_rfl) (Runs.call (fun _ => by kernel_rfl) (e_mlen n8 n9 W w65 ((hW).get 0 rfl) ((hW).lt _ (List.mem_of_getElem? (i := 0) rfl)) (by first | omega | assumption | (simp; done) | (constructor <;> omega) | exact (by assumption : (0 ≤ _ ∧ _ ≤ (4294967295 : Int)) ∧ (0 ≤ _ ∧ _ ≤ (4294967295 : Int))).1 | (intro x hx; simp only [List.mem_singleton] at hx; subst hx; exact hwf _ (List.mem_of_getElem? (by assumption)))) (by first | omega | assumption | (simp; done) | (constructor <;> omega) | exact (by assumption : (0 ≤ _ ∧ _ ≤ (4294967295 : Int)) ∧ (0 ≤ _ ∧ _ ≤ (4294967295 : Int))).1 | (intro x hx; simp only [List.mem_singleton] at hx; subst hx; exact hwf _ (List.mem_of_getElem? (by assumption))))) ?_)
                     rintro _ w68 ⟨g69, g70, rfl, hw68_hp, hw68_hs, hw68_hO, hfw68⟩; refine ⟨_, rfl, ?_⟩; have hW0 := hW; have hW := hW0.call hfw68
                     clear hW0 hA ac; intro ac hA
                     have hleg70 : g70 = fromM O 0 := by rw [hw68_hO, hR2.cells hw68_hp hw68_hs]
                     rw [from_all hR2.rise (fun x hx => (hR2.rng x hx).1.1)] at hleg70; have hllg70 := congrArg List.length hleg70
                     refine st_rd (v := Value.bool ((((g67.length : Nat) : Int) : Int) == (((g70.length : Nat) : Int) : Int))) hA (by kernel_rfl) (by kernel_rfl) (by kernel_rfl) hW.cls (Rd.pure fun _ => by kernel_rfl) ?_; clear hA ac; intro ac hA
                     refine st_rd (v := Value.bool ((((g67.length : Nat) : Int) : Int) == (((g70.length : Nat) : Int) : Int))) hA (by kernel_rfl) (by kernel_rfl) (by kernel_rfl) hW.cls (Rd.pure fun _ => by kernel_rfl) ?_; clear hA ac; intro ac hA
                     refine st_rd (v := Value.bool ((((g67.length : Nat) : Int) : Int) == (((g70.length : Nat) : Int) : Int))) hA (by kernel_rfl) (by kernel_rfl) (by kernel_rfl) hW.cls (Rd.pure fun _ => by kernel_rfl) ?_; clear hA ac; intro ac hA
                     rcases Bool.eq_false_or_eq_true ((((g67.length : Nat) : Int) : Int) == (((g70.length : Nat) : Int) : Int)) with h71 | h71
                     · skip
                       rw [h71] at hA
                       have h71 := eq_of_beq h71
                       first
                       | (exfalso; clear hA hW; omega)
                       | (exfalso; clear hA hW; rw [hsm_] at h71; cases h71; done)
                       | (exfalso; clear hA hW; refine h71 ?_; rw [hleg60, hleg63, hMO_]; done)
                       | (exfalso; clear hA hW; refine h71 ?_; rw [hleg63, hleg67, hMO_]; done)
                       | (exfalso; clear hA hW; refine h71 ?_; rw [hleg67, hleg70, hMO_]; done)
                       | (exfalso; clear hA hW; exact absurd (hlt_t.symm.trans h71) (by decide); done)
                       | (exfalso; clear hA hW; exact h71 ((hq21.wd _).trans hwl_); done)
                       | (
                         refine st hA (by kernel_rfl) (by kernel_rfl) (by kernel_rfl) (Runs.callN (v := Value.bool true) (fun _ => by kernel_rfl) hW (e_works06 w68) ?_); clear hA ac hW; intro w72 hW hfw72 ac hA
                         refine st_rd (v := Value.bool true) hA (by kernel_rfl) (by kernel_rfl) (by kernel_rfl) hW.cls (Rd.pure fun _ => by kernel_rfl) ?_; clear hA ac; intro ac hA
                         refine st_rd (v := Value.bool true) hA (by kernel_rfl) (by kernel_rfl) (by kernel_rfl) hW.cls (Rd.pure fun _ => by kernel_rfl) ?_; clear hA ac; intro ac hA
                         refine wpList_nil ?_
                         refine thenN ?_
                         refine wp_ret ?_
                         refine ret1 (v := Value.bool true) (by rfl) hA (Got.tmp hA (by kernel_rfl) (by kernel_rfl)) ?_
                         clear hA
                         exact ⟨retv (by rfl), hW.fr⟩)
                     · skip
                       rw [h71] at hA
                       have h71 := ne_of_beq_false h71
                       first
                       | (exfalso; clear hA hW; omega)
                       | (exfalso; clear hA hW; rw [hsm_] at h71; cases h71; done)
                       | (exfalso; clear hA hW; refine h71 ?_; rw [hleg60, hleg63, hMO_]; done)
                       | (exfalso; clear hA hW; refine h71 ?_; rw [hleg63, hleg67, hMO_]; done)
                       | (exfalso; clear hA hW; refine h71 ?_; rw [hleg67, hleg70, hMO_]; done)
                       | (exfalso; clear hA hW; exact absurd (hlt_t.symm.trans h71) (by decide); done)
                       | (exfalso; clear hA hW; exact h71 ((hq21.wd _).trans hwl_); done)
                       | (
                         refine st_skip hA (by kernel_rfl) (by kernel_rfl) ?_; clear hA ac; intro ac hA
                         refine st_rd (v := Value.bool false) hA (by kernel_rfl) (by kernel_rfl) (by kernel_rfl) hW.cls (Rd.pure fun _ => by kernel_rfl) ?_; clear hA ac; intro ac hA
                         refine st_rd (v := Value.bool false) hA (by kernel_rfl) (by kernel_rfl) (by kernel_rfl) hW.cls (Rd.pure fun _ => by kernel_rfl) ?_; clear hA ac; intro ac hA
                         refine wpList_nil ?_
                         refine thenN ?_
                         refine wp_ret ?_
                         refine ret1 (v := Value.bool false) (by rfl) hA (Got.tmp hA (by kernel_rfl) (by kernel_rfl)) ?_
                         clear hA
                         exact ⟨retv (by rfl), hW.fr⟩))
                 · skip
                   rw [h64] at hA
                   have h64 := ne_of_beq_false h64
                   first
                   | (exfalso; clear hA hW; omega)
                   | (exfalso; clear hA hW; rw [hsm_] at h64; cases h64; done)
                   | (exfalso; clear hA hW; refine h64 ?_; rw [hleg60, hleg63, hMO_]; done)
                   | (exfalso; clear hA hW; refine h64 ?_; rw [hleg63, hleg67, hMO_]; done)
                   | (exfalso; clear hA hW; refine h64 ?_; rw [hleg67, hleg70, hMO_]; done)
                   | (exfalso; clear hA hW; exact absurd (hlt_t.symm.trans h64) (by decide); done)
                   | (exfalso; clear hA hW; exact h64 ((hq21.wd _).trans hwl_); done)
                   | (
                     refine st_skip hA (by kernel_rfl) (by kernel_rfl) ?_; clear hA ac; intro ac hA
                     refine st_skip hA (by kernel_rfl) (by kernel_rfl) ?_; clear hA ac; intro ac hA
                     refine st_skip hA (by kernel_rfl) (by kernel_rfl) ?_; clear hA ac; intro ac hA
                     refine st_skip hA (by kernel_rfl) (by kernel_rfl) ?_; clear hA ac; intro ac hA
                     refine st_skip hA (by kernel_rfl) (by kernel_rfl) ?_; clear hA ac; intro ac hA
                     refine st_rd (v := Value.bool false) hA (by kernel_rfl) (by kernel_rfl) (by kernel_rfl) hW.cls (Rd.pure fun _ => by kernel_rfl) ?_; clear hA ac; intro ac hA
                     refine st_rd (v := Value.bool false) hA (by kernel_rfl) (by kernel_rfl) (by kernel_rfl) hW.cls (Rd.pure fun _ => by kernel_rfl) ?_; clear hA ac; intro ac hA
                     refine st_skip hA (by kernel_rfl) (by kernel_rfl) ?_; clear hA ac; intro ac hA
                     refine st_rd (v := Value.bool false) hA (by kernel_rfl) (by kernel_rfl) (by kernel_rfl) hW.cls (Rd.pure fun _ => by kernel_rfl) ?_; clear hA ac; intro ac hA
                     refine st_rd (v := Value.bool false) hA (by kernel_rfl) (by kernel_rfl) (by kernel_rfl) hW.cls (Rd.pure fun _ => by kernel_rfl) ?_; clear hA ac; intro ac hA
                     refine wpList_nil ?_
                     refine thenN ?_
                     refine wp_ret ?_
                     refine ret1 (v := Value.bool false) (by rfl) hA (Got.tmp hA (by kernel_rfl) (by kernel_rfl)) ?_
                     clear hA
                     exact ⟨retv (by rfl), hW.fr⟩))
             · skip
               rw [h57] at hA
               first
               | (exfalso; clear hA hW; omega)
               | (exfalso; clear hA hW; rw [hsm_] at h57; cases h57; done)
               | (exfalso; clear hA hW; refine h57 ?_; rw [hleg60, hleg63, hMO_]; done)
               | (exfalso; clear hA hW; refine h57 ?_; rw [hleg63, hleg67, hMO_]; done)
               | (exfalso; clear hA hW; refine h57 ?_; rw [hleg67, hleg70, hMO_]; done)
               | (exfalso; clear hA hW; exact absurd (hlt_t.symm.trans h57) (by decide); done)
               | (exfalso; clear hA hW; exact h57 ((hq21.wd _).trans hwl_); done)
               | (
                 refine st_skip hA (by kernel_rfl) (by kernel_rfl) ?_; clear hA ac; intro ac hA
                 refine st_skip hA (by kernel_rfl) (by kernel_rfl) ?_; clear hA ac; intro ac hA
                 refine st_skip hA (by kernel_rfl) (by kernel_rfl) ?_; clear hA ac; intro ac hA
                 refine st_skip hA (by kernel_rfl) (by kernel_rfl) ?_; clear hA ac; intro ac hA
                 refine st_skip hA (by kernel_rfl) (by kernel_rfl) ?_; clear hA ac; intro ac hA
                 refine st_rd (v := Value.bool false) hA (by kernel_rfl) (by kernel_rfl) (by kernel_rfl) hW.cls (Rd.pure fun _ => by kernel_rfl) ?_; clear hA ac; intro ac hA
                 refine st_rd (v := Value.bool false) hA (by kernel_rfl) (by kernel_rfl) (by kernel_rfl) hW.cls (Rd.pure fun _ => by kernel_rfl) ?_; clear hA ac; intro ac hA
                 refine st_skip hA (by kernel_rfl) (by kernel_rfl) ?_; clear hA ac; intro ac hA
                 refine st_skip hA (by kernel_rfl) (by kernel_rfl) ?_; clear hA ac; intro ac hA
                 refine st_skip hA (by kernel_rfl) (by kernel_rfl) ?_; clear hA ac; intro ac hA
                 refine st_skip hA (by kernel_rfl) (by kernel_rfl) ?_; clear hA ac; intro ac hA
                 refine st_skip hA (by kernel_rfl) (by kernel_rfl) ?_; clear hA ac; intro ac hA
                 refine st_rd (v := Value.bool false) hA (by kernel_rfl) (by kernel_rfl) (by kernel_rfl) hW.cls (Rd.pure fun _ => by kernel_rfl) ?_; clear hA ac; intro ac hA
                 refine st_rd (v := Value.bool false) hA (by kernel_rfl) (by kernel_rfl) (by kernel_rfl) hW.cls (Rd.pure fun _ => by kernel_rfl) ?_; clear hA ac; intro ac hA
                 refine st_skip hA (by kernel_rfl) (by kernel_rfl) ?_; clear hA ac; intro ac hA
                 refine st_rd (v := Value.bool false) hA (by kernel_rfl) (by kernel_rfl) (by kernel_rfl) hW.cls (Rd.pure fun _ => by kernel_rfl) ?_; clear hA ac; intro ac hA
                 refine st_rd (v := Value.bool false) hA (by kernel_rfl) (by kernel_rfl) (by kernel_rfl) hW.cls (Rd.pure fun _ => by kernel_rfl) ?_; clear hA ac; intro ac hA
                 refine wpList_nil ?_
                 refine thenN ?_
                 refine wp_ret ?_
                 refine ret1 (v := Value.bool false) (by rfl) hA (Got.tmp hA (by kernel_rfl) (by kernel_rfl)) ?_
                 clear hA
                 exact ⟨retv (by rfl), hW.fr⟩))))

theorem memholds_walk (A : Option Addr) (len cap : Nat) (l : List Cell6) (w : World) (hl : l.length = len) (hc : len ≤ cap) (_ : cap ≤ maxLen) (hw : ∀ x ∈ l, wfCell6 x) (hr : RowAt w A 2 enCell6 l) :
    Calls Try.prog 3 #[.slice A len cap] w fun e w' => e = .returned (.bool true) ∧ Fr No w w' := by
  subst hl
  exact e_holds06 A cap l w hr hc (fun x hx => wf_cell6 (hw x hx))
end Go.Proofs.Ytcokpdlmahlpnaa.L
