/- Contracts, walked by program over the engine's laws. -/
import Derived.Test.YtgkhaoogfpnbbaaProg
import Derived.Test.YtgkhaoogfpnbbaaT8
namespace Go.Proofs.Ytgkhaoogfpnbbaa.L
open Go.RowKit

theorem PairsR.px {w : World} {p b : Nat} {m : List (Pair × Int)} (h : (PairsR p b m).p w) : PX w p b m := ⟨h.2 _ (.head _), h.2 _ (.tail _ (.head _))⟩
theorem PairsR.of {w : World} {p b : Nat} {m : List (Pair × Int)} (h : PX w p b m) : (PairsR p b m).p w := (PairsR.mk h.cell h.holds).1
theorem PairsR.fp {p b : Nat} {m : List (Pair × Int)} (x : Nat) : x ∈ (PairsR p b m).fp ↔ x = p ∨ x = b := by simp [PairsR, mem_allR, Cel, mapR]
theorem e_padd (p b : Nat) (m : List (Pair × Int)) (x : Pair) (w : World) (ho : (PairsR p b m).p w) (hl : ∀ y ∈ (PairsR p b m).fp, y < w.heap.size) (hx : x.ok = true) (h0 : 0 ≤ came m x ∧ came m x ≤ 1000000) :
    Calls Try.prog 31 #[.pointer (some ⟨p, 0, none⟩), x.v] w fun e w' => e = .returned (.tuple #[.bool (came m x == 0), .int .i64 0]) ∧ Upd (PairsR p b m) (PairsR p b (put m x (came m x + 1))) w w' := by
  refine (Add_any w p b m (PairsR.px ho) x hx h0.1 (by omega)).mono ?_
  rintro e w' ⟨rfl, hx', hf⟩
  refine ⟨rfl, hf.mono (fun i _ e => (PairsR.fp i).2 (.inr e)), PairsR.of hx', fun y hy => ⟨.inl ((PairsR.fp y).2 ((PairsR.fp y).1 hy)), Nat.lt_of_lt_of_le (hl y ((PairsR.fp y).2 ((PairsR.fp y).1 hy))) hf.size⟩⟩
abbrev ones (l : List Pair) : List (Pair × Int) := l.map fun x => (x, 1)
theorem keys_ones (l : List Pair) : keys (ones l) = l := by simp [keys, ones, Function.comp_def]
theorem came_ones {l : List Pair} {x : Pair} : came (ones l) x = if x ∈ l then 1 else 0 := by
  unfold came
  induction l with
  | nil => simp [ones, look]
  | cons a l ih =>
    simp only [ones, List.map_cons, look] at ih ⊢
    by_cases e : a = x
    · subst e; simp
    · rw [if_neg e, ih]
      by_cases q : x ∈ l
      · rw [if_pos q, if_pos (.tail _ q)]
      · rw [if_neg q, if_neg (by simp [q]; exact fun h => e h.symm)]
theorem put_new {κ α : Type} [DecidableEq κ] {m : List (κ × α)} {k : κ} {v : α} (e : look m k = none) : put m k v = m ++ [(k, v)] := put_end e
theorem add_step {l : List Pair} {k : Nat} {y : Pair} (hn : l.Nodup) (hy : l[k]? = some y) : came (ones (l.take k)) y = 0 ∧ put (ones (l.take k)) y (came (ones (l.take k)) y + 1) = ones (l.take (k + 1)) := by
  have hno : y ∉ l.take k := fun h => by
    have h1 : l.take (k + 1) = l.take k ++ [y] := tk_snoc hy
    have h2 : (l.take (k + 1)).Nodup := hn.sublist (List.take_sublist _ _)
    rw [h1, List.nodup_append] at h2
    exact h2.2.2 y h y (by simp) rfl
  have h0 : came (ones (l.take k)) y = 0 := by rw [came_ones, if_neg hno]
  refine ⟨h0, ?_⟩
  rw [h0, put_new (look_none.2 (by rw [keys_ones]; exact hno)), tk_snoc hy]
  simp [ones]
set_option maxRecDepth 100000 in
theorem e_pall (p : Nat) (b : Nat) (m : List (Pair × Int)) (w : World) (ho_p : (PairsR p b m).p w) (hl_p : ∀ x_ ∈ (PairsR p b m).fp, x_ < w.heap.size) (hl : m.length ≤ 100000) : Calls Try.prog 40 #[Value.pointer (some ⟨p, 0, none⟩)] w (fun e w' => ∃ (lb : Array Value) (g : Res), e = .returned (Value.func (.func 53) #[] lb) ∧ Iter Try.prog 53 lb (fun x_ : Pair × Nat => #[Value.int .i64 ((x_.2 : Nat) : Int), x_.1.v]) (fun l_ : List (Pair × Nat) => ∃ ks : List Pair, ks.Perm (keys m) ∧ l_ = ks.zipIdx) [g] ∧ g.from_ [] w w' ∧ Fr No w w') := by
 have _hu := ho_p; have _hv := hl_p; clear _hu _hv
 have _hu := hl; clear _hu
 refine enter_E 13 Try.func40 rfl rfl (by kernel_rfl) (L := [(0, Value.pointer (some ⟨p, 0, none⟩))]) (by kernel_rfl) ?_
 intro ac hA
 have hW := Ws.start w No
 have hW := hW.objG (L := [Cel p #[Value.map (some b)] 91, mapR b Pair.v (fun a : Int => Value.int .i64 a) m]) ho_p hl_p
 clear ho_p hl_p
 refine wp_seq ?_
 refine wp_region_lit ?_
 refine st_rd (v := Value.nilFunc) hA (by kernel_rfl) (by kernel_rfl) (by kernel_rfl) hW.cls (Rd.pure fun _ => by kernel_rfl) ?_; clear hA ac; intro ac hA
 refine wpList_nil ?_
 refine thenN ?_
 refine wp_seq ?_
 refine wp_region_lit ?_
 refine st hA (by kernel_rfl) (by kernel_rfl) (by kernel_rfl) (Runs.cells (fun b => Value.pointer (some ⟨b, 0, none⟩)) #[Value.slice none 0 0] 27 (fun _ => by kernel_rfl) hW ?_); clear hA ac hW; intro b1 w2 hW hb1 hfw2 ac hA
 refine wpList_nil ?_
 refine thenN ?_
 refine wp_seq ?_
 refine wp_seq ?_
 refine wp_region_lit ?_
 refine st_rd (v := Value.pointer (some ⟨p, 0, none⟩)) hA (by kernel_rfl) (by kernel_rfl) (by kernel_rfl) hW.cls (Rd.pure fun _ => by kernel_rfl) ?_; clear hA ac; intro ac hA
 refine st hA (by kernel_rfl) (by kernel_rfl) (by kernel_rfl) (Runs.callS (v := Value.bool false) (fun _ => by kernel_rfl) (e_pnone p b w2 (show _ = _ from (hW).getG 0 rfl)) ?_); clear hA ac; intro  ac hA
 refine st_rd (v := Value.bool true) hA (by kernel_rfl) (by kernel_rfl) (by kernel_rfl) hW.cls (Rd.pure fun _ => by kernel_rfl) ?_; clear hA ac; intro ac hA
 refine wpList_nil ?_
 refine thenN ?_
 refine wp_cond_true (hA.eval (by kernel_rfl)) ?_
 refine wp_region_lit ?_
 refine st_rd (v := Value.pointer (some ⟨p, 0, none⟩)) hA (by kernel_rfl) (by kernel_rfl) (by kernel_rfl) hW.cls (Rd.pure fun _ => by kernel_rfl) ?_; clear hA ac; intro ac hA
 refine st_rd (v := Value.pointer (some ⟨p, 0, none⟩)) hA (by kernel_rfl) (by kernel_rfl) (by kernel_rfl) hW.cls (Rd.pure fun _ => by kernel_rfl) ?_; clear hA ac; intro ac hA
 refine st_rd (v := Value.pointer (some ⟨p, 0, none⟩)) hA (by kernel_rfl) (by kernel_rfl) (by kernel_rfl) hW.cls (Rd.pure fun _ => by kernel_rfl) ?_; clear hA ac; intro ac hA
 refine st_rd (v := Value.map (some b)) hA (by kernel_rfl) (by kernel_rfl) (by kernel_rfl) hW.cls (Rd.load (b := p) (i := 0) (by kernel_rfl) (fun _ hw => show _ = _ from (hw.1).getG 0 rfl) (by kernel_rfl)) ?_; clear hA ac; intro ac hA
 refine st hA (by kernel_rfl) (by kernel_rfl) (by kernel_rfl) (Runs.call (fun _ => by kernel_rfl) (e_prising b m w2 ((hW).getG 1 rfl) (by omega)) ?_)
 rintro _ w3 ⟨g4, Ao5, co6, rfl, hw3_hp, hcco6, hu_⟩; refine ⟨_, rfl, ?_⟩; replace hW := hW.made hu_; clear hA ac; intro ac hA
 refine st hA (by kernel_rfl) (by kernel_rfl) (by kernel_rfl) (Runs.store (v := Value.slice Ao5 (g4).length co6) (b := b1) (j := 0) (n := 1) (cs' := #[Value.slice Ao5 (g4).length co6]) (H' := [rowR 54 4 enPair (Value.slice Ao5 (g4).length co6) g4, Cel b1 #[Value.slice Ao5 (g4).length co6] 27]) (by kernel_rfl) (by kernel_rfl) (by kernel_rfl) (by kernel_rfl) (by kernel_rfl) hW 1 (by rfl) (Nat.le_of_ble_eq_true (by kernel_rfl)) (by kernel_rfl) (by rfl) ?_); clear hA ac hW; intro w8 hW ac hA
 refine wpList_nil ?_
 refine thenN ?_
 refine wp_seq ?_
 refine wp_region_lit ?_
 refine st_rd (v := Value.func (.func 53) #[] #[Value.pointer (some ⟨b1, 0, none⟩)]) hA (by kernel_rfl) (by kernel_rfl) (by kernel_rfl) hW.cls (Rd.pure fun _ => by kernel_rfl) ?_; clear hA ac; intro ac hA
 refine st_rd (v := Value.func (.func 53) #[] #[Value.pointer (some ⟨b1, 0, none⟩)]) hA (by kernel_rfl) (by kernel_rfl) (by kernel_rfl) hW.cls (Rd.pure fun _ => by kernel_rfl) ?_; clear hA ac; intro ac hA
 refine wpList_nil ?_
 refine thenN ?_
 refine wp_ret ?_
 refine ret1 (v := Value.func (.func 53) #[] #[Value.pointer (some ⟨b1, 0, none⟩)]) (by rfl) hA (Got.tmp hA (by kernel_rfl) (by kernel_rfl)) ?_
 clear hA
 have hkl_ : g4.length ≤ 100000 := by have h2_ := hw3_hp.length_eq; simp only [keys, List.length_map] at h2_; omega
 exact ⟨_, _, rfl, iter_weak (iter_many (it_53 b1 _ _ g4 (own_cap (hW.get 0 rfl)) (by omega))) ⟨g4, hw3_hp, rfl⟩, from_many (froms_cons (hW.outOwn 1 rfl (fun _ h => h)) (froms_cons (hW.outRow 0 rfl elt_Pair.len (fun _ h => h)) froms_nil)), hW.fr⟩

set_option maxRecDepth 100000 in
theorem e_pnew (A_l : Option Addr) (c_l : Nat) (l : List Pair) (w : World) (hr_l : RowAt w A_l 4 enPair l) (hc_l : l.length ≤ c_l) (hl : l.length ≤ 100000) (hn : l.Nodup) (hok : ∀ x ∈ l, x.ok = true) : Calls Try.prog 28 #[Value.slice A_l l.length c_l] w (fun e w' => ∃ np : Nat, ∃ nb : Nat, e = .returned (Value.tuple #[Value.pointer (some ⟨np, 0, none⟩), Value.int .i64 0]) ∧ Made (PairsR np nb (ones l)) w w') := by
 have _hu := hc_l; have _hv := hr_l; clear _hu _hv
 have _hu := hl; clear _hu
 have _hu := hn; clear _hu
 have _hu := hok; clear _hu
 refine enter_E 29 Try.func28 rfl rfl (by kernel_rfl) (L := [(0, Value.slice A_l l.length c_l)]) (by kernel_rfl) ?_
 intro ac hA
 have hW := Ws.start w No
 have hW := hW.arg hr_l
 refine wp_seq ?_
 refine wp_region_lit ?_
 refine st_rd (v := Value.pointer none) hA (by kernel_rfl) (by kernel_rfl) (by kernel_rfl) hW.cls (Rd.pure fun _ => by kernel_rfl) ?_; clear hA ac; intro ac hA
 refine st_rd (v := Value.int .i64 0) hA (by kernel_rfl) (by kernel_rfl) (by kernel_rfl) hW.cls (Rd.pure fun _ => by kernel_rfl) ?_; clear hA ac; intro ac hA
 refine wpList_nil ?_
 refine thenN ?_
 refine wp_seq ?_
 refine wp_region_lit ?_
 refine st hA (by kernel_rfl) (by kernel_rfl) (by kernel_rfl) (Runs.makeMap Pair.v (fun a : Int => Value.int .i64 a) hW ?_); clear hA ac hW; intro b1 w2 hW hb1 hfw2 ac hA
 refine st_rd (v := Value.agg #[Value.map (some b1)]) hA (by kernel_rfl) (by kernel_rfl) (by kernel_rfl) hW.cls (Rd.pure fun _ => by kernel_rfl) ?_; clear hA ac; intro ac hA
 refine st hA (by kernel_rfl) (by kernel_rfl) (by kernel_rfl) (Runs.cells (fun b => Value.pointer (some ⟨b, 0, none⟩)) #[Value.map (some b1)] 91 (fun _ => by kernel_rfl) hW ?_); clear hA ac hW; intro b3 w4 hW hb3 hfw4 ac hA
 refine st_rd (v := Value.pointer (some ⟨b3, 0, none⟩)) hA (by kernel_rfl) (by kernel_rfl) (by kernel_rfl) hW.cls (Rd.pure fun _ => by kernel_rfl) ?_; clear hA ac; intro ac hA
 refine wpList_nil ?_
 refine thenN ?_
 refine wp_seq ?_
 refine wp_seq ?_
 refine wp_region_lit ?_
 refine st_rd (v := Value.slice A_l l.length c_l) hA (by kernel_rfl) (by kernel_rfl) (by kernel_rfl) hW.cls (Rd.pure fun _ => by kernel_rfl) ?_; clear hA ac; intro ac hA
 refine st_rd (v := Value.int .i64 ((l.length : Nat) : Int)) hA (by kernel_rfl) (by kernel_rfl) (by kernel_rfl) hW.cls (Rd.pure fun _ => by kernel_rfl) ?_; clear hA ac; intro ac hA
 refine st_rd (v := Value.int .i64 0) hA (by kernel_rfl) (by kernel_rfl) (by kernel_rfl) hW.cls (Rd.pure fun _ => by kernel_rfl) ?_; clear hA ac; intro ac hA
 refine wpList_nil ?_
 refine thenN ?_
 refine wp_block ?_
 have hW : Ws w No [PairsR b3 b1 ([])] [roR A_l 4 enPair l] w4 := Ws.pack (L := [Cel b3 #[Value.map (some b1)] 91, mapR b1 Pair.v (fun a : Int => Value.int .i64 a) ([])]) (hW.pick [0, 1] (by decide) rfl)
 refine wp_loop_m (fun m_ ac_ wl_ => ∃ k : Nat, m_ = l.length - k ∧ (k ≤ l.length) ∧ Fm 29 [] [(0, Value.slice A_l l.length c_l), (4, Value.pointer (some ⟨b3, 0, none⟩)), (12, Value.slice A_l l.length c_l), (13, Value.int .i64 ((l.length : Nat) : Int)), (14, Value.int .i64 ((k : Nat) : Int))] ac_ ∧ Ws w No [PairsR b3 b1 (ones (l.take k))] [roR A_l 4 enPair l] wl_) _ ⟨0, rfl, by omega, hA.sub ⟨⟨by kernel_rfl, by kernel_rfl⟩, ⟨by kernel_rfl, by kernel_rfl⟩, ⟨by kernel_rfl, by kernel_rfl⟩, ⟨by kernel_rfl, by kernel_rfl⟩, ⟨by kernel_rfl, by kernel_rfl⟩, trivial⟩, (hW.pick [0] (by decide) rfl).pickG [0] rfl⟩ ?_
 clear hA ac hW; rintro m_ ac w5 ⟨k, rfl, hk, hA, hW⟩
 refine wp_seq ?_
 refine wp_region_lit ?_
 refine st_rd (v := Value.bool (decide ((((k : Nat) : Int) : Int) < (((l.length : Nat) : Int) : Int)))) hA (by kernel_rfl) (by kernel_rfl) (by kernel_rfl) hW.cls (Rd.pure fun _ => by kernel_rfl) ?_; clear hA ac; intro ac hA
 refine wpList_nil ?_
 refine thenN ?_
 refine wp_seq ?_
 refine wp_cond_split (t := decide ((((k : Nat) : Int) : Int) < (((l.length : Nat) : Int) : Int))) (hA.eval (by kernel_rfl)) (fun h6 => ?_) (fun h6 => ?_)
 · skip
   have h6 := of_decide_eq_true h6
   first
   | (exfalso; clear hA hW; omega)
   | (
     refine wp_skip ?_
     refine thenN ?_
     refine wp_seq ?_
     refine wp_block ?_
     refine wp_seq ?_
     refine wp_region_lit ?_
     obtain ⟨y7, hy7⟩ : ∃ y, l[k]? = some y := ⟨_, List.getElem?_eq_getElem (by first | omega | (simp; done) | (simp; omega))⟩
     obtain ⟨b8, o9, rfl, hbb8⟩ := row_some ((hW).getG 0 rfl) hy7
     refine st_rd (v := Value.pointer (some ⟨b8, o9 + k * 4, none⟩)) hA (by kernel_rfl) (by kernel_rfl) (by kernel_rfl) hW.cls (Rd.indexAddr (e := 54) (sz := 4) (b := b8) (off := o9) (n := l.length) (c := c_l) (k := k) (by kernel_rfl) (by kernel_rfl) (by first | omega | (simp; done) | (simp; omega)) (fun _ => by kernel_rfl) (fun _ => by kernel_rfl)) ?_; clear hA ac; intro ac hA
     refine st_rd (v := Value.agg #[Value.int .i64 y7.a.f, Value.int .i64 y7.a.pc, Value.int .i64 y7.b.f, Value.int .i64 y7.b.pc]) hA (by kernel_rfl) (by kernel_rfl) (by kernel_rfl) hW.cls (Rd.loadRow (b := b8) (i := o9 + k * 4) (xs := [Value.int .i64 y7.a.f, Value.int .i64 y7.a.pc, Value.int .i64 y7.b.f, Value.int .i64 y7.b.pc]) (by kernel_rfl) (fun _ hw => row_ld ((hw.1).getG 0 rfl) hy7 (Fr.refl No _) (fun h => h) 0 4 (by kernel_rfl)) (by kernel_rfl)) ?_; clear hA ac; intro ac hA
     refine st hA (by kernel_rfl) (by kernel_rfl) (by kernel_rfl) (Runs.cells (fun b => Value.pointer (some ⟨b, 0, none⟩)) #[Value.int .i64 0, Value.int .i64 0, Value.int .i64 0, Value.int .i64 0] 54 (fun _ => by kernel_rfl) hW ?_); clear hA ac hW; intro b10 w11 hW hb10 hfw11 ac hA
     refine st hA (by kernel_rfl) (by kernel_rfl) (by kernel_rfl) (Runs.store (v := Value.agg #[Value.int .i64 y7.a.f, Value.int .i64 y7.a.pc, Value.int .i64 y7.b.f, Value.int .i64 y7.b.pc]) (b := b10) (j := 0) (n := 4) (cs' := #[Value.int .i64 y7.a.f, Value.int .i64 y7.a.pc, Value.int .i64 y7.b.f, Value.int .i64 y7.b.pc]) (H' := [Cel b10 #[Value.int .i64 y7.a.f, Value.int .i64 y7.a.pc, Value.int .i64 y7.b.f, Value.int .i64 y7.b.pc] 54, PairsR b3 b1 (ones (l.take k))]) (by kernel_rfl) (by kernel_rfl) (by kernel_rfl) (by kernel_rfl) (by kernel_rfl) hW 0 (by rfl) (Nat.le_of_ble_eq_true (by kernel_rfl)) (by kernel_rfl) (by rfl) ?_); clear hA ac hW; intro w12 hW ac hA
     refine wpList_nil ?_
     refine thenN ?_
     refine wp_seq ?_
     have hc0_ : 0 ≤ came (ones (l.take k)) y7 ∧ came (ones (l.take k)) y7 ≤ 1000000 := by rw [(add_step hn hy7).1]; omega
     refine wp_region_lit ?_
     refine st_rd (v := Value.pointer (some ⟨b3, 0, none⟩)) hA (by kernel_rfl) (by kernel_rfl) (by kernel_rfl) hW.cls (Rd.pure fun _ => by kernel_rfl) ?_; clear hA ac; intro ac hA
     refine st_rd (v := Value.agg #[Value.int .i64 y7.a.f, Value.int .i64 y7.a.pc, Value.int .i64 y7.b.f, Value.int .i64 y7.b.pc]) hA (by kernel_rfl) (by kernel_rfl) (by kernel_rfl) hW.cls (Rd.load (b := b10) (i := 0) (by kernel_rfl) (fun _ hw => (hw.1).cel 0 rfl) (by kernel_rfl)) ?_; clear hA ac; intro ac hA
     refine st hA (by kernel_rfl) (by kernel_rfl) (by kernel_rfl) (Runs.call (fun _ => by kernel_rfl) (e_padd b3 b1 (ones (l.take k)) y7 w12 ((hW).get 1 rfl) ((hW).lt _ (List.mem_of_getElem? (i := 1) rfl)) (by first | assumption | exact hok _ (List.mem_of_getElem? ‹_›)) (by first | assumption | exact hok _ (List.mem_of_getElem? ‹_›))) ?_)
     rintro _ w13 ⟨rfl, hu_⟩; refine ⟨_, rfl, ?_⟩; replace hW := hW.upd (H' := [Cel b10 #[Value.int .i64 y7.a.f, Value.int .i64 y7.a.pc, Value.int .i64 y7.b.f, Value.int .i64 y7.b.pc] 54, PairsR b3 b1 (put (ones (l.take k)) y7 (came (ones (l.take k)) y7 + 1))]) 1 rfl hu_ rfl; clear hA ac; intro ac hA
     refine st_rd (v := Value.tuple #[Value.bool (came (ones (l.take k)) y7 == 0), Value.int .i64 0]) hA (by kernel_rfl) (by kernel_rfl) (by kernel_rfl) hW.cls (Rd.pure fun _ => by kernel_rfl) ?_; clear hA ac; intro ac hA
     refine st_rd (v := Value.bool (came (ones (l.take k)) y7 == 0)) hA (by kernel_rfl) (by kernel_rfl) (by kernel_rfl) hW.cls (Rd.pure fun _ => by kernel_rfl) ?_; clear hA ac; intro ac hA
     refine st_rd (v := Value.int .i64 0) hA (by kernel_rfl) (by kernel_rfl) (by kernel_rfl) hW.cls (Rd.pure fun _ => by kernel_rfl) ?_; clear hA ac; intro ac hA
     refine st_rd (v := Value.bool (came (ones (l.take k)) y7 == 0)) hA (by kernel_rfl) (by kernel_rfl) (by kernel_rfl) hW.cls (Rd.pure fun _ => by kernel_rfl) ?_; clear hA ac; intro ac hA
     refine st_rd (v := Value.int .i64 0) hA (by kernel_rfl) (by kernel_rfl) (by kernel_rfl) hW.cls (Rd.pure fun _ => by kernel_rfl) ?_; clear hA ac; intro ac hA
     refine wpList_nil ?_
     refine thenN ?_
     refine wp_seq ?_
     refine wp_region_lit ?_
     refine st_rd (v := Value.int .i64 0) hA (by kernel_rfl) (by kernel_rfl) (by kernel_rfl) hW.cls (Rd.pure fun _ => by kernel_rfl) ?_; clear hA ac; intro ac hA
     refine st_rd (v := Value.bool false) hA (by kernel_rfl) (by kernel_rfl) (by kernel_rfl) hW.cls (Rd.pure fun _ => by kernel_rfl) ?_; clear hA ac; intro ac hA
     refine wpList_nil ?_
     refine thenN ?_
     refine wp_cond_false (hA.eval (by kernel_rfl)) ?_
     refine wp_skip ?_
     refine blkN ?_
     refine thenN ?_
     refine wp_region_lit ?_
     refine st_rd (v := Value.int .i64 ((k + 1 : Nat) : Int)) hA (by kernel_rfl) (by kernel_rfl) (by kernel_rfl) hW.cls (Rd.pureE (v0 := Value.int .i64 (IntKind.i64.wrap ((((k : Nat) : Int) : Int) + 1))) (fun _ => by kernel_rfl) (congrArg (Value.int .i64) ((w_i64 (x := (((k : Nat) : Int) : Int) + 1) (by omega) (by omega)).trans (by omega)))) ?_; clear hA ac; intro ac hA
     refine st_rd (v := Value.int .i64 ((k + 1 : Nat) : Int)) hA (by kernel_rfl) (by kernel_rfl) (by kernel_rfl) hW.cls (Rd.pure fun _ => by kernel_rfl) ?_; clear hA ac; intro ac hA
     refine wpList_nil ?_
     refine thenN ?_
     rw [(add_step hn hy7).2] at hW
     exact ⟨l.length - (k + 1), by omega, k + 1, rfl, by omega, hA.sub ⟨⟨by kernel_rfl, by kernel_rfl⟩, ⟨by kernel_rfl, by kernel_rfl⟩, ⟨by kernel_rfl, by kernel_rfl⟩, ⟨by kernel_rfl, by kernel_rfl⟩, ⟨by kernel_rfl, by kernel_rfl⟩, trivial⟩, (hW.pick [1] (by decide) rfl).pickG [0] rfl⟩)
 · skip
   have h6 := of_decide_eq_false h6
   first
   | (exfalso; clear hA hW; omega)
   | (
     refine wp_exit ?_
     refine thenX ?_
     refine thenX ?_
     refine blkX ?_
     refine thenN ?_
     refine wp_seq ?_
     refine wp_region_lit ?_
     refine st_rd (v := Value.pointer (some ⟨b3, 0, none⟩)) hA (by kernel_rfl) (by kernel_rfl) (by kernel_rfl) hW.cls (Rd.pure fun _ => by kernel_rfl) ?_; clear hA ac; intro ac hA
     refine st_rd (v := Value.pointer (some ⟨b3, 0, none⟩)) hA (by kernel_rfl) (by kernel_rfl) (by kernel_rfl) hW.cls (Rd.pure fun _ => by kernel_rfl) ?_; clear hA ac; intro ac hA
     refine st_rd (v := Value.int .i64 0) hA (by kernel_rfl) (by kernel_rfl) (by kernel_rfl) hW.cls (Rd.pure fun _ => by kernel_rfl) ?_; clear hA ac; intro ac hA
     refine wpList_nil ?_
     refine thenN ?_
     refine wp_ret ?_
     refine ret2 (v1 := Value.pointer (some ⟨b3, 0, none⟩)) (v2 := Value.int .i64 0) (by rfl) hA (Got.tmp hA (by kernel_rfl) (by kernel_rfl)) (Got.tmp hA (by kernel_rfl) (by kernel_rfl)) ?_
     clear hA
     rw [List.take_of_length_le (by omega)] at hW
     exact ⟨b3, b1, rfl, hW.madeDone 0 rfl⟩)

end Go.Proofs.Ytgkhaoogfpnbbaa.L
