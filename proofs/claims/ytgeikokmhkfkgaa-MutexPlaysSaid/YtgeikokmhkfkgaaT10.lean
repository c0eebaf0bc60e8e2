/- Contracts, walked by program over the engine's laws. -/
import Derived.Test.YtgeikokmhkfkgaaProg
import Derived.Test.YtgeikokmhkfkgaaT9
namespace Go.Proofs.Ytgeikokmhkfkgaa.L
open Go.RowKit

/-- So many of a map lie below. -/
def cntB (h : List (Int × Int)) (i : Int) : Int := ((h.filter fun x => decide (x.1 < i)).length : Nat)
theorem cntB_start {h : List (Int × Int)} (hk : ∀ x ∈ h, 0 ≤ x.1) : cntB h (-1) = 0 := by
  unfold cntB
  rw [List.filter_eq_nil_iff.2 (fun x hx => by have := hk x hx; simp; omega)]; rfl
theorem cntB_end {h : List (Int × Int)} {i : Int} (hk : ∀ x ∈ h, x.1 < i) : cntB h i = (h.length : Nat) := by
  unfold cntB
  rw [List.filter_eq_self.2 (fun x hx => by simpa using hk x hx)]
theorem cntB_no {h : List (Int × Int)} {i : Int} (e : (look h i).isSome = false) : cntB h (i + 1) = cntB h i := by
  have e' : look h i = none := by cases q : look h i with
    | none => rfl
    | some v => rw [q] at e; cases e
  have hn := look_none.1 e'
  unfold cntB
  congr 2
  refine List.filter_congr fun x hx => ?_
  have : x.1 ≠ i := fun q => hn (List.mem_map.2 ⟨x, hx, q⟩)
  rw [Bool.eq_iff_iff]; simp; omega
theorem cntB_none {h : List (Int × Int)} {i : Int} (hn : ∀ x ∈ h, x.1 ≠ i) : cntB h (i + 1) = cntB h i := by
  unfold cntB
  congr 2
  refine List.filter_congr fun x hx => ?_
  have := hn x hx
  rw [Bool.eq_iff_iff]; simp; omega
theorem cntB_cons (x : Int × Int) (r : List (Int × Int)) (i : Int) : cntB (x :: r) i = cntB r i + (if x.1 < i then 1 else 0) := by
  unfold cntB; rw [List.filter_cons]; by_cases q : x.1 < i <;> simp [q]
theorem cntB_yes {h : List (Int × Int)} {i : Int} (hd : (h.map (·.1)).Nodup) (e : (look h i).isSome = true) : cntB h (i + 1) = cntB h i + 1 := by
  induction h with
  | nil => cases e
  | cons x r ih =>
    obtain ⟨a, v⟩ := x
    rw [List.map_cons, List.nodup_cons] at hd
    rw [cntB_cons, cntB_cons]
    by_cases q : a = i
    · subst q
      rw [cntB_none fun x hx q => hd.1 (List.mem_map.2 ⟨x, hx, q⟩)]
      simp; omega
    · have e' : (look r i).isSome = true := by simpa [look, q] using e
      rw [ih hd.2 e']
      by_cases q1 : a < i
      · rw [if_pos (show (a, v).1 < i + 1 from by simp only; omega), if_pos (show (a, v).1 < i from q1)]
      · rw [if_neg (show ¬ (a, v).1 < i + 1 from by simp only; omega), if_neg (show ¬ (a, v).1 < i from q1)]; omega
def lastA (l : List Two) : Int := (l.getLast?.map (·.a)).getD (-1)
theorem lastA_snoc (l : List Two) (x : Two) : lastA (l ++ [x]) = x.a := by unfold lastA; simp
theorem held_comes {L : List Int} {h : List (Int × Int)} {many : Int} (r : Rel13 L h many) {pre : List Two} {x : Two} (hc : Comes (HeldOf h) pre x) : rHolder L x.a = (x.b, true) ∧ lastA pre < x.a ∧ pre.length < h.length := by
  obtain ⟨xs, ⟨hp, hs⟩, t, ht⟩ := hc
  have hmem : ∀ y ∈ xs, (y.a, y.b) ∈ h := fun y hy => hp.subset (List.mem_map.2 ⟨y, hy, rfl⟩)
  have hx : x ∈ xs := by rw [← ht]; simp
  have hlen : xs.length = h.length := by rw [← hp.length_eq, List.length_map]
  refine ⟨?_, ?_, ?_⟩
  · rw [r.holder, look_of_mem r.nodup (hmem x hx)]; rfl
  · unfold lastA
    cases q : pre.getLast? with
    | none => have := r.key _ (hmem x hx); simp only at this; simp; omega
    | some y =>
      have hy : y ∈ pre := List.mem_of_getLast? q
      rw [← ht, List.append_assoc, List.pairwise_append] at hs
      have hle := hs.2.2 y hy x (by simp)
      have hnd : (xs.map (·.a)).Nodup := by
        have h1 := (hp.map (fun p : Int × Int => p.1)).nodup_iff.2 r.nodup
        rw [List.map_map] at h1; exact h1
      rw [← ht, List.append_assoc, List.map_append, List.nodup_append] at hnd
      have hne := hnd.2.2 y.a (List.mem_map.2 ⟨y, hy, rfl⟩) x.a (by simp)
      simp; omega
  · rw [← hlen, ← ht]; simp
theorem held_all {h : List (Int × Int)} {xs : List Two} (hs : HeldOf h xs) : xs.length = h.length := by rw [← hs.1.length_eq, List.length_map]
set_option maxRecDepth 100000 in
theorem e_is13 (m : Nat) (b : Nat) (h : List (Int × Int)) (many : Int) (A_L : Option Addr) (c_L : Nat) (L : List Int) (lim : Int) (w : World) (ho_m : (MutR m b h many).p w) (hl_m : ∀ x_ ∈ (MutR m b h many).fp, x_ < w.heap.size) (hr_L : RowAt w A_L 1 enI L) (hc_L : L.length ≤ c_L) (hR : Rel13 L h many) (hlm : h.length ≤ 100) (hll : L.length ≤ 1000) : Calls Try.prog 15 #[Value.pointer (some ⟨m, 0, none⟩), Value.agg #[Value.slice A_L L.length c_L], Value.int .i64 lim] w (fun e w' => e = .returned (Value.bool true) ∧ Fr No w w') := by
  have _hu := hc_L; have _hv := hr_L; clear _hu _hv
  have _hu := ho_m; have _hv := hl_m; clear _hu _hv
  have _hu := hR; clear _hu
  have _hu := hlm; clear _hu
  have _hu := hll; clear _hu
  refine enter_F 92 Try.func15 rfl rfl (by kernel_rfl) (L := [(0, Value.pointer (some ⟨m, 0, none⟩)), (1, Value.agg #[Value.slice A_L L.length c_L]), (2, Value.int .i64 lim)]) (by kernel_rfl) ?_
  intro ac hA
  have hW := Ws.start w No
  have hW := hW.arg hr_L
  have hW := hW.addG (MutR m b h many) ho_m hl_m (by simp)
  clear ho_m hl_m
  refine wpIn_seq ?_
  refine wpIn_region_lit ?_
  refine stF hA (by kernel_rfl) (by kernel_rfl) (by kernel_rfl) (by kernel_rfl) (RunsF.of (Runs.cells (fun b => Value.pointer (some ⟨b, 0, none⟩)) #[Value.slice A_L L.length c_L] 40 (fun _ => by kernel_rfl) hW ?_)); clear hA ac hW; intro b1 w2 hW hb1 hfw2 ac hA
  refine stF hA (by kernel_rfl) (by kernel_rfl) (by kernel_rfl) (by kernel_rfl) (RunsF.of (Runs.cells (fun b => Value.pointer (some ⟨b, 0, none⟩)) #[Value.int .i64 lim] 3 (fun _ => by kernel_rfl) hW ?_)); clear hA ac hW; intro b3 w4 hW hb3 hfw4 ac hA
  refine stF hA (by kernel_rfl) (by kernel_rfl) (by kernel_rfl) (by kernel_rfl) (RunsF.of (Runs.cells (fun b => Value.pointer (some ⟨b, 0, none⟩)) #[Value.bool false] 4 (fun _ => by kernel_rfl) hW ?_)); clear hA ac hW; intro b5 w6 hW hb5 hfw6 ac hA
  refine wpListIn_nil ?_
  refine thenN ?_
  refine wpIn_seq ?_
  refine wpIn_region_lit ?_
  refine st_rdF (v := Value.int .i64 0) hA (by kernel_rfl) (by kernel_rfl) (by kernel_rfl) (by kernel_rfl) hW.cls (Rd.pure fun _ => by kernel_rfl) ?_; clear hA ac; intro ac hA
  refine wpListIn_nil ?_
  refine thenN ?_
  refine wpIn_seq ?_
  refine wpIn_seq ?_
  refine wpIn_region_lit ?_
  refine st_rdF (v := Value.int .i64 (-1)) hA (by kernel_rfl) (by kernel_rfl) (by kernel_rfl) (by kernel_rfl) hW.cls (Rd.pure fun _ => by kernel_rfl) ?_; clear hA ac; intro ac hA
  refine wpListIn_nil ?_
  refine thenN ?_
  refine wpIn_block ?_
  refine wpIn_loop_m (fun m_ ac_ wl_ => ∃ k : Nat, ∃ i : Int, ∃ a : Int, m_ = 66 - k ∧ (k ≤ 66) ∧ (i = (k : Int) - 1) ∧ (a = cntB h i) ∧ Fm 92 [] [(0, Value.pointer (some ⟨m, 0, none⟩)), (4, Value.pointer (some ⟨b1, 0, none⟩)), (5, Value.pointer (some ⟨b3, 0, none⟩)), (6, Value.pointer (some ⟨b5, 0, none⟩)), (7, Value.int .i64 a), (8, Value.int .i64 i)] ac_ ∧ Ws w No [Cel b5 #[Value.bool false] 4, Cel b3 #[Value.int .i64 lim] 3, Cel b1 #[Value.slice A_L L.length c_L] 40] [MutR m b h many, roR A_L 1 enI L] wl_) _ ⟨0, -1, 0, rfl, by omega, by rfl, by exact (cntB_start fun x hx => (hR.key x hx).1).symm, hA.sub ⟨⟨by kernel_rfl, by kernel_rfl⟩, ⟨by kernel_rfl, by kernel_rfl⟩, ⟨by kernel_rfl, by kernel_rfl⟩, ⟨by kernel_rfl, by kernel_rfl⟩, ⟨by kernel_rfl, by kernel_rfl⟩, ⟨by kernel_rfl, by kernel_rfl⟩, trivial⟩, (hW.pick [0, 1, 2] (by decide) rfl).pickG [0, 1] rfl⟩ ?_
  clear hA ac hW; rintro m_ ac w7 ⟨k, i, a, rfl, hk, hi, ha, hA, hW⟩
  have hab_ : 0 ≤ cntB h i ∧ cntB h i ≤ h.length := by unfold cntB; have := List.length_filter_le (fun x : Int × Int => decide (x.1 < i)) h; omega
  refine wpIn_seq ?_
  refine wpIn_seq ?_
  refine wpIn_region_lit ?_
  refine st_rdF (v := Value.int .i64 i) hA (by kernel_rfl) (by kernel_rfl) (by kernel_rfl) (by kernel_rfl) hW.cls (Rd.pure fun _ => by kernel_rfl) ?_; clear hA ac; intro ac hA
  refine st_rdF (v := Value.bool (decide ((i : Int) ≤ (64 : Int)))) hA (by kernel_rfl) (by kernel_rfl) (by kernel_rfl) (by kernel_rfl) hW.cls (Rd.pure fun _ => by kernel_rfl) ?_; clear hA ac; intro ac hA
  refine wpListIn_nil ?_
  refine thenN ?_
  refine wpIn_cond_split (t := decide ((i : Int) ≤ (64 : Int))) (hA.eval (by kernel_rfl)) (fun h8 => ?_) (fun h8 => ?_)
  · skip
    have h8 := of_decide_eq_true h8
    first
    | (exfalso; clear hA hW; omega)
    | (exfalso; clear hA hW; rw [hR.holder] at h8; exact absurd rfl h8; done)
    | (exfalso; clear hA hW; rw [hrh] at h8; exact absurd rfl h8; done)
    | (exfalso; clear hA hW; rw [hrh] at h8; cases h8; done)
    | (
        refine wpIn_skip ?_
        refine thenN ?_
        refine wpIn_seq ?_
        refine wpIn_block ?_
        refine wpIn_seq ?_
        refine wpIn_region_lit ?_
        refine st_rdF (v := Value.pointer (some ⟨m, 0, none⟩)) hA (by kernel_rfl) (by kernel_rfl) (by kernel_rfl) (by kernel_rfl) hW.cls (Rd.pure fun _ => by kernel_rfl) ?_; clear hA ac; intro ac hA
        refine st_rdF (v := Value.int .i64 i) hA (by kernel_rfl) (by kernel_rfl) (by kernel_rfl) (by kernel_rfl) hW.cls (Rd.pure fun _ => by kernel_rfl) ?_; clear hA ac; intro ac hA
        refine stF hA (by kernel_rfl) (by kernel_rfl) (by kernel_rfl) (by kernel_rfl) (RunsF.of (Runs.callN (v := Value.tuple #[Value.int .i64 ((look h (i)).getD 0), Value.bool (look h (i)).isSome]) (fun _ => by kernel_rfl) hW (e_holder m b h many (i) w7 ((hW).getG 0 rfl) ((hW).glt _ (List.mem_of_getElem? (i := 0) rfl))) ?_)); clear hA ac hW; intro w9 hW hfw9 ac hA
        refine st_rdF (v := Value.tuple #[Value.int .i64 ((look h (i)).getD 0), Value.bool (look h (i)).isSome]) hA (by kernel_rfl) (by kernel_rfl) (by kernel_rfl) (by kernel_rfl) hW.cls (Rd.pure fun _ => by kernel_rfl) ?_; clear hA ac; intro ac hA
        refine st_rdF (v := Value.int .i64 ((look h (i)).getD 0)) hA (by kernel_rfl) (by kernel_rfl) (by kernel_rfl) (by kernel_rfl) hW.cls (Rd.pure fun _ => by kernel_rfl) ?_; clear hA ac; intro ac hA
        refine st_rdF (v := Value.bool (look h (i)).isSome) hA (by kernel_rfl) (by kernel_rfl) (by kernel_rfl) (by kernel_rfl) hW.cls (Rd.pure fun _ => by kernel_rfl) ?_; clear hA ac; intro ac hA
        refine st_rdF (v := Value.int .i64 ((look h (i)).getD 0)) hA (by kernel_rfl) (by kernel_rfl) (by kernel_rfl) (by kernel_rfl) hW.cls (Rd.pure fun _ => by kernel_rfl) ?_; clear hA ac; intro ac hA
        refine st_rdF (v := Value.bool (look h (i)).isSome) hA (by kernel_rfl) (by kernel_rfl) (by kernel_rfl) (by kernel_rfl) hW.cls (Rd.pure fun _ => by kernel_rfl) ?_; clear hA ac; intro ac hA
        refine wpListIn_nil ?_
        refine thenN ?_
        refine wpIn_seq ?_
        refine wpIn_region_lit ?_
        refine st_rdF (v := Value.agg #[Value.slice A_L L.length c_L]) hA (by kernel_rfl) (by kernel_rfl) (by kernel_rfl) (by kernel_rfl) hW.cls (Rd.load (b := b1) (i := 0) (by kernel_rfl) (fun _ hw => (hw.1).cel 2 rfl) (by kernel_rfl)) ?_; clear hA ac; intro ac hA
        refine st_rdF (v := Value.int .i64 i) hA (by kernel_rfl) (by kernel_rfl) (by kernel_rfl) (by kernel_rfl) hW.cls (Rd.pure fun _ => by kernel_rfl) ?_; clear hA ac; intro ac hA
        refine stF hA (by kernel_rfl) (by kernel_rfl) (by kernel_rfl) (by kernel_rfl) (RunsF.of (Runs.callN (v := Value.tuple #[Value.int .i64 (rHolder L (i)).1, Value.bool (rHolder L (i)).2]) (fun _ => by kernel_rfl) hW (e_rholder A_L c_L L (i) w9 ((hW).getG 1 rfl) (by first | assumption | omega | (simp; omega) | simp) (by first | omega | exact hR.bound | assumption | exact fun x hx => ⟨(hR.key x hx).1, by have h1_ := (hR.key x hx).2; have h2_ := hR.most; omega⟩) (by first | omega | exact hR.bound | assumption | exact fun x hx => ⟨(hR.key x hx).1, by have h1_ := (hR.key x hx).2; have h2_ := hR.most; omega⟩)) ?_)); clear hA ac hW; intro w10 hW hfw10 ac hA
        refine st_rdF (v := Value.tuple #[Value.int .i64 (rHolder L (i)).1, Value.bool (rHolder L (i)).2]) hA (by kernel_rfl) (by kernel_rfl) (by kernel_rfl) (by kernel_rfl) hW.cls (Rd.pure fun _ => by kernel_rfl) ?_; clear hA ac; intro ac hA
        refine st_rdF (v := Value.int .i64 (rHolder L (i)).1) hA (by kernel_rfl) (by kernel_rfl) (by kernel_rfl) (by kernel_rfl) hW.cls (Rd.pure fun _ => by kernel_rfl) ?_; clear hA ac; intro ac hA
        refine st_rdF (v := Value.bool (rHolder L (i)).2) hA (by kernel_rfl) (by kernel_rfl) (by kernel_rfl) (by kernel_rfl) hW.cls (Rd.pure fun _ => by kernel_rfl) ?_; clear hA ac; intro ac hA
        refine st_rdF (v := Value.int .i64 (rHolder L (i)).1) hA (by kernel_rfl) (by kernel_rfl) (by kernel_rfl) (by kernel_rfl) hW.cls (Rd.pure fun _ => by kernel_rfl) ?_; clear hA ac; intro ac hA
        refine st_rdF (v := Value.bool (rHolder L (i)).2) hA (by kernel_rfl) (by kernel_rfl) (by kernel_rfl) (by kernel_rfl) hW.cls (Rd.pure fun _ => by kernel_rfl) ?_; clear hA ac; intro ac hA
        refine wpListIn_nil ?_
        refine thenN ?_
        refine wpIn_seq ?_
        refine wpIn_seq ?_
        refine wpIn_region_lit ?_
        refine st_rdF (v := Value.int .i64 ((look h (i)).getD 0)) hA (by kernel_rfl) (by kernel_rfl) (by kernel_rfl) (by kernel_rfl) hW.cls (Rd.pure fun _ => by kernel_rfl) ?_; clear hA ac; intro ac hA
        refine st_rdF (v := Value.int .i64 (rHolder L (i)).1) hA (by kernel_rfl) (by kernel_rfl) (by kernel_rfl) (by kernel_rfl) hW.cls (Rd.pure fun _ => by kernel_rfl) ?_; clear hA ac; intro ac hA
        refine st_rdF (v := Value.bool ((((look h (i)).getD 0) : Int) != ((rHolder L (i)).1 : Int))) hA (by kernel_rfl) (by kernel_rfl) (by kernel_rfl) (by kernel_rfl) hW.cls (Rd.pure fun _ => by kernel_rfl) ?_; clear hA ac; intro ac hA
        refine st_rdF (v := Value.bool ((((look h (i)).getD 0) : Int) != ((rHolder L (i)).1 : Int))) hA (by kernel_rfl) (by kernel_rfl) (by kernel_rfl) (by kernel_rfl) hW.cls (Rd.pure fun _ => by kernel_rfl) ?_; clear hA ac; intro ac hA
        rcases Bool.eq_false_or_eq_true ((((look h (i)).getD 0) : Int) != ((rHolder L (i)).1 : Int)) with h11 | h11
        · skip
          rw [h11] at hA
          have h11 := bne_iff_ne.1 h11
          first
          | (exfalso; clear hA hW; omega)
          | (exfalso; clear hA hW; rw [hR.holder] at h11; exact absurd rfl h11; done)
          | (exfalso; clear hA hW; rw [hrh] at h11; exact absurd rfl h11; done)
          | (exfalso; clear hA hW; rw [hrh] at h11; cases h11; done)
          | (
              refine st_skipF hA (by kernel_rfl) (by kernel_rfl) ?_; clear hA ac; intro ac hA
              refine st_skipF hA (by kernel_rfl) (by kernel_rfl) ?_; clear hA ac; intro ac hA
              refine st_skipF hA (by kernel_rfl) (by kernel_rfl) ?_; clear hA ac; intro ac hA
              refine st_rdF (v := Value.bool true) hA (by kernel_rfl) (by kernel_rfl) (by kernel_rfl) (by kernel_rfl) hW.cls (Rd.pure fun _ => by kernel_rfl) ?_; clear hA ac; intro ac hA
              refine wpListIn_nil ?_
              refine thenN ?_
              refine wpIn_cond_true (hA.eval (by kernel_rfl)) ?_
              refine wpIn_seq ?_
              refine wpIn_region_lit ?_
              refine stF hA (by kernel_rfl) (by kernel_rfl) (by kernel_rfl) (by kernel_rfl) (RunsF.of (Runs.store (v := Value.bool false) (b := b5) (j := 0) (n := 1) (cs' := #[Value.bool false]) (H' := [Cel b5 #[Value.bool false] 4, Cel b3 #[Value.int .i64 lim] 3, Cel b1 #[Value.slice A_L L.length c_L] 40]) (by kernel_rfl) (by kernel_rfl) (by kernel_rfl) (by kernel_rfl) (by kernel_rfl) hW 0 (by rfl) (Nat.le_of_ble_eq_true (by kernel_rfl)) (by kernel_rfl) (by rfl) ?_)); clear hA ac hW; intro w12 hW ac hA
              refine wpListIn_nil ?_
              refine thenN ?_
              refine wpIn_ret ?_
              refine thenR ?_
              refine blkR ?_
              refine thenR ?_
              refine thenR ?_
              refine blkR ?_
              refine thenR ?_
              refine retF (.inl rfl) hA ?_
              refine leave1 (v := Value.bool false) (by rfl) (GotF.cell (b := b5) (i := 0) hA (by kernel_rfl) (by kernel_rfl) (hW.cel 0 rfl) (by kernel_rfl)) ?_
              clear hA
              exact ⟨retv (by (refine congrArg Value.bool (beq_iff_eq.2 ?_); omega)), hW.fr⟩)
        · skip
          rw [h11] at hA
          have h11 := of_bne_f h11
          first
          | (exfalso; clear hA hW; omega)
          | (exfalso; clear hA hW; rw [hR.holder] at h11; exact absurd rfl h11; done)
          | (exfalso; clear hA hW; rw [hrh] at h11; exact absurd rfl h11; done)
          | (exfalso; clear hA hW; rw [hrh] at h11; cases h11; done)
          | (
              refine st_rdF (v := Value.bool (look h (i)).isSome) hA (by kernel_rfl) (by kernel_rfl) (by kernel_rfl) (by kernel_rfl) hW.cls (Rd.pure fun _ => by kernel_rfl) ?_; clear hA ac; intro ac hA
              refine st_rdF (v := Value.bool (rHolder L (i)).2) hA (by kernel_rfl) (by kernel_rfl) (by kernel_rfl) (by kernel_rfl) hW.cls (Rd.pure fun _ => by kernel_rfl) ?_; clear hA ac; intro ac hA
              refine st_rdF (v := Value.bool (!((look h (i)).isSome == (rHolder L (i)).2))) hA (by kernel_rfl) (by kernel_rfl) (by kernel_rfl) (by kernel_rfl) hW.cls (Rd.pure fun _ => by kernel_rfl) ?_; clear hA ac; intro ac hA
              refine st_rdF (v := Value.bool (!((look h (i)).isSome == (rHolder L (i)).2))) hA (by kernel_rfl) (by kernel_rfl) (by kernel_rfl) (by kernel_rfl) hW.cls (Rd.pure fun _ => by kernel_rfl) ?_; clear hA ac; intro ac hA
              refine wpListIn_nil ?_
              refine thenN ?_
              refine wpIn_cond_split (t := !((look h (i)).isSome == (rHolder L (i)).2)) (hA.eval (by kernel_rfl)) (fun h13 => ?_) (fun h13 => ?_)
              · skip
                have h13 := bbne_t h13
                first
                | (exfalso; clear hA hW; omega)
                | (exfalso; clear hA hW; rw [hR.holder] at h13; exact absurd rfl h13; done)
                | (exfalso; clear hA hW; rw [hrh] at h13; exact absurd rfl h13; done)
                | (exfalso; clear hA hW; rw [hrh] at h13; cases h13; done)
                | (
                    refine wpIn_seq ?_
                    refine wpIn_region_lit ?_
                    refine stF hA (by kernel_rfl) (by kernel_rfl) (by kernel_rfl) (by kernel_rfl) (RunsF.of (Runs.store (v := Value.bool false) (b := b5) (j := 0) (n := 1) (cs' := #[Value.bool false]) (H' := [Cel b5 #[Value.bool false] 4, Cel b3 #[Value.int .i64 lim] 3, Cel b1 #[Value.slice A_L L.length c_L] 40]) (by kernel_rfl) (by kernel_rfl) (by kernel_rfl) (by kernel_rfl) (by kernel_rfl) hW 0 (by rfl) (Nat.le_of_ble_eq_true (by kernel_rfl)) (by kernel_rfl) (by rfl) ?_)); clear hA ac hW; intro w14 hW ac hA
                    refine wpListIn_nil ?_
                    refine thenN ?_
                    refine wpIn_ret ?_
                    refine thenR ?_
                    refine blkR ?_
                    refine thenR ?_
                    refine thenR ?_
                    refine blkR ?_
                    refine thenR ?_
                    refine retF (.inl rfl) hA ?_
                    refine leave1 (v := Value.bool false) (by rfl) (GotF.cell (b := b5) (i := 0) hA (by kernel_rfl) (by kernel_rfl) (hW.cel 0 rfl) (by kernel_rfl)) ?_
                    clear hA
                    exact ⟨retv (by (refine congrArg Value.bool (beq_iff_eq.2 ?_); omega)), hW.fr⟩)
              · skip
                have h13 := bbne_f h13
                first
                | (exfalso; clear hA hW; omega)
                | (exfalso; clear hA hW; rw [hR.holder] at h13; exact absurd rfl h13; done)
                | (exfalso; clear hA hW; rw [hrh] at h13; exact absurd rfl h13; done)
                | (exfalso; clear hA hW; rw [hrh] at h13; cases h13; done)
                | (
                    refine wpIn_skip ?_
                    refine thenN ?_
                    refine wpIn_seq ?_
                    refine wpIn_region_lit ?_
                    refine st_rdF (v := Value.bool (rHolder L (i)).2) hA (by kernel_rfl) (by kernel_rfl) (by kernel_rfl) (by kernel_rfl) hW.cls (Rd.pure fun _ => by kernel_rfl) ?_; clear hA ac; intro ac hA
                    refine wpListIn_nil ?_
                    refine thenN ?_
                    refine wpIn_cond_split (t := (rHolder L (i)).2) (hA.eval (by kernel_rfl)) (fun h15 => ?_) (fun h15 => ?_)
                    · skip
                      first
                      | (exfalso; clear hA hW; omega)
                      | (exfalso; clear hA hW; rw [hR.holder] at h15; exact absurd rfl h15; done)
                      | (exfalso; clear hA hW; rw [hrh] at h15; exact absurd rfl h15; done)
                      | (exfalso; clear hA hW; rw [hrh] at h15; cases h15; done)
                      | (
                          refine wpIn_region_lit ?_
                          refine st_rdF (v := Value.int .i64 a) hA (by kernel_rfl) (by kernel_rfl) (by kernel_rfl) (by kernel_rfl) hW.cls (Rd.pure fun _ => by kernel_rfl) ?_; clear hA ac; intro ac hA
                          refine st_rdF (v := Value.int .i64 ((a : Int) + 1)) hA (by kernel_rfl) (by kernel_rfl) (by kernel_rfl) (by kernel_rfl) hW.cls (Rd.pureE (v0 := Value.int .i64 (IntKind.i64.wrap ((a : Int) + 1))) (fun _ => by kernel_rfl) (congrArg (Value.int .i64) ((w_i64 (x := (a : Int) + 1) (by omega) (by omega)).trans (by omega)))) ?_; clear hA ac; intro ac hA
                          refine st_rdF (v := Value.int .i64 ((a : Int) + 1)) hA (by kernel_rfl) (by kernel_rfl) (by kernel_rfl) (by kernel_rfl) hW.cls (Rd.pure fun _ => by kernel_rfl) ?_; clear hA ac; intro ac hA
                          refine wpListIn_nil ?_
                          refine blkN ?_
                          refine thenN ?_
                          refine wpIn_region_lit ?_
                          refine st_rdF (v := Value.int .i64 i) hA (by kernel_rfl) (by kernel_rfl) (by kernel_rfl) (by kernel_rfl) hW.cls (Rd.pure fun _ => by kernel_rfl) ?_; clear hA ac; intro ac hA
                          refine st_rdF (v := Value.int .i64 ((i : Int) + 1)) hA (by kernel_rfl) (by kernel_rfl) (by kernel_rfl) (by kernel_rfl) hW.cls (Rd.pureE (v0 := Value.int .i64 (IntKind.i64.wrap ((i : Int) + 1))) (fun _ => by kernel_rfl) (congrArg (Value.int .i64) ((w_i64 (x := (i : Int) + 1) (by omega) (by omega)).trans (by omega)))) ?_; clear hA ac; intro ac hA
                          refine st_rdF (v := Value.int .i64 ((i : Int) + 1)) hA (by kernel_rfl) (by kernel_rfl) (by kernel_rfl) (by kernel_rfl) hW.cls (Rd.pure fun _ => by kernel_rfl) ?_; clear hA ac; intro ac hA
                          refine wpListIn_nil ?_
                          refine thenN ?_
                          exact ⟨66 - (k + 1), by omega, k + 1, (i : Int) + 1, (a : Int) + 1, rfl, by omega, by omega, by rw [hR.holder] at h15; rw [cntB_yes hR.nodup h15]; omega, hA.sub ⟨⟨by kernel_rfl, by kernel_rfl⟩, ⟨by kernel_rfl, by kernel_rfl⟩, ⟨by kernel_rfl, by kernel_rfl⟩, ⟨by kernel_rfl, by kernel_rfl⟩, ⟨by kernel_rfl, by kernel_rfl⟩, ⟨by kernel_rfl, by kernel_rfl⟩, trivial⟩, (hW.pick [0, 1, 2] (by decide) rfl).pickG [0, 1] rfl⟩)
                    · skip
                      first
                      | (exfalso; clear hA hW; omega)
                      | (exfalso; clear hA hW; rw [hR.holder] at h15; exact absurd rfl h15; done)
                      | (exfalso; clear hA hW; rw [hrh] at h15; exact absurd rfl h15; done)
                      | (exfalso; clear hA hW; rw [hrh] at h15; cases h15; done)
                      | (
                          refine wpIn_skip ?_
                          refine blkN ?_
                          refine thenN ?_
                          refine wpIn_region_lit ?_
                          refine st_rdF (v := Value.int .i64 i) hA (by kernel_rfl) (by kernel_rfl) (by kernel_rfl) (by kernel_rfl) hW.cls (Rd.pure fun _ => by kernel_rfl) ?_; clear hA ac; intro ac hA
                          refine st_rdF (v := Value.int .i64 ((i : Int) + 1)) hA (by kernel_rfl) (by kernel_rfl) (by kernel_rfl) (by kernel_rfl) hW.cls (Rd.pureE (v0 := Value.int .i64 (IntKind.i64.wrap ((i : Int) + 1))) (fun _ => by kernel_rfl) (congrArg (Value.int .i64) ((w_i64 (x := (i : Int) + 1) (by omega) (by omega)).trans (by omega)))) ?_; clear hA ac; intro ac hA
                          refine st_rdF (v := Value.int .i64 ((i : Int) + 1)) hA (by kernel_rfl) (by kernel_rfl) (by kernel_rfl) (by kernel_rfl) hW.cls (Rd.pure fun _ => by kernel_rfl) ?_; clear hA ac; intro ac hA
                          refine wpListIn_nil ?_
                          refine thenN ?_
                          exact ⟨66 - (k + 1), by omega, k + 1, (i : Int) + 1, a, rfl, by omega, by omega, by rw [hR.holder] at h15; rw [cntB_no h15]; omega, hA.sub ⟨⟨by kernel_rfl, by kernel_rfl⟩, ⟨by kernel_rfl, by kernel_rfl⟩, ⟨by kernel_rfl, by kernel_rfl⟩, ⟨by kernel_rfl, by kernel_rfl⟩, ⟨by kernel_rfl, by kernel_rfl⟩, ⟨by kernel_rfl, by kernel_rfl⟩, trivial⟩, (hW.pick [0, 1, 2] (by decide) rfl).pickG [0, 1] rfl⟩))))
  · skip
    have h8 := of_decide_eq_false h8
    first
    | (exfalso; clear hA hW; omega)
    | (exfalso; clear hA hW; rw [hR.holder] at h8; exact absurd rfl h8; done)
    | (exfalso; clear hA hW; rw [hrh] at h8; exact absurd rfl h8; done)
    | (exfalso; clear hA hW; rw [hrh] at h8; cases h8; done)
    | (
        refine wpIn_exit ?_
        refine thenX ?_
        refine thenX ?_
        refine blkX ?_
        refine thenN ?_
        refine wpIn_seq ?_
        refine wpIn_region_lit ?_
        refine st_rdF (v := Value.pointer (some ⟨m, 0, none⟩)) hA (by kernel_rfl) (by kernel_rfl) (by kernel_rfl) (by kernel_rfl) hW.cls (Rd.pure fun _ => by kernel_rfl) ?_; clear hA ac; intro ac hA
        refine stF hA (by kernel_rfl) (by kernel_rfl) (by kernel_rfl) (by kernel_rfl) (RunsF.of (Runs.call (fun _ => by kernel_rfl) (e_held m b h many w7 ((hW).getG 0 rfl) ((hW).glt _ (List.mem_of_getElem? (i := 0) rfl)) (by first | omega | exact hR.bound | assumption | exact fun x hx => ⟨(hR.key x hx).1, by have h1_ := (hR.key x hx).2; have h2_ := hR.most; omega⟩) (by first | omega | exact hR.bound | assumption | exact fun x hx => ⟨(hR.key x hx).1, by have h1_ := (hR.key x hx).2; have h2_ := hR.most; omega⟩)) ?_))
        rintro _ w16 ⟨lb17, g18, rfl, hIg18, hfg18, hfw16⟩; refine ⟨_, rfl, ?_⟩; have hW0 := hW; have hW := hW0.call hfw16; have hW := hW0.addFromAt hW hfg18 in_nil; clear hW0 hA ac; intro ac hA
        refine st_rdF (v := Value.func (.func 32) #[] lb17) hA (by kernel_rfl) (by kernel_rfl) (by kernel_rfl) (by kernel_rfl) hW.cls (Rd.pure fun _ => by kernel_rfl) ?_; clear hA ac; intro ac hA
        refine wpListIn_nil ?_
        refine thenN ?_
        refine wpIn_seq ?_
        refine wpIn_seq ?_
        have hae_ := cntB_end (i := i) (fun x hx => by have h1_ := (hR.key x hx).2; have h2_ := hR.most; omega); have hnd_ := hR.len
        refine q_regionF (by kernel_rfl) (by kernel_rfl) (by kernel_rfl) hW ?_
        refine sq_rd (v := Value.func (.func 32) #[] lb17) hA (by kernel_rfl) (by kernel_rfl) (by kernel_rfl) (Rd.pure fun _ => by kernel_rfl) ?_; clear hA ac; intro ac hA
        refine sq_rd (v := Value.bool false) hA (by kernel_rfl) (by kernel_rfl) (by kernel_rfl) (Rd.pure fun _ => by kernel_rfl) ?_; clear hA ac; intro ac hA
        refine sq_rd (v := Value.bool false) hA (by kernel_rfl) (by kernel_rfl) (by kernel_rfl) (Rd.pure fun _ => by kernel_rfl) ?_; clear hA ac; intro ac hA
        refine sq_rd (v := Value.pointer (some ⟨m, 0, none⟩)) hA (by kernel_rfl) (by kernel_rfl) (by kernel_rfl) (Rd.pure fun _ => by kernel_rfl) ?_; clear hA ac; intro ac hA
        refine sq_call (v := Value.int .i64 many) hA (by kernel_rfl) (by kernel_rfl) (by kernel_rfl) (fun _ => by kernel_rfl) (Cls.callSC fun wx hwx => e_len m b h many wx ((hwx.1).getG 1 rfl) ((hwx.1).glt _ (List.mem_of_getElem? (i := 1) rfl))) ?_; clear hA ac; intro ac hA
        refine sq_rd (v := Value.pointer (some ⟨b1, 0, none⟩)) hA (by kernel_rfl) (by kernel_rfl) (by kernel_rfl) (Rd.pure fun _ => by kernel_rfl) ?_; clear hA ac; intro ac hA
        refine sq_rd (v := Value.slice A_L L.length c_L) hA (by kernel_rfl) (by kernel_rfl) (by kernel_rfl) (Rd.load (b := b1) (i := 0) (by kernel_rfl) (fun _ hw => (hw.1).cel 2 rfl) (by kernel_rfl)) ?_; clear hA ac; intro ac hA
        refine sq_rd (v := Value.int .i64 ((L.length : Nat) : Int)) hA (by kernel_rfl) (by kernel_rfl) (by kernel_rfl) (Rd.pure fun _ => by kernel_rfl) ?_; clear hA ac; intro ac hA
        refine sq_rd (v := Value.bool ((many : Int) != (((L.length : Nat) : Int) : Int))) hA (by kernel_rfl) (by kernel_rfl) (by kernel_rfl) (Rd.pure fun _ => by kernel_rfl) ?_; clear hA ac; intro ac hA
        refine sq_rd (v := Value.bool ((many : Int) != (((L.length : Nat) : Int) : Int))) hA (by kernel_rfl) (by kernel_rfl) (by kernel_rfl) (Rd.pure fun _ => by kernel_rfl) ?_; clear hA ac; intro ac hA
        refine sq_nil ?_; intro w19 hww19; have hW := hww19.1; have hfw19 := hww19.2; clear hww19
        refine thenN ?_
        refine wpIn_cond_split (t := (many : Int) != (((L.length : Nat) : Int) : Int)) (hA.eval (by kernel_rfl)) (fun h20 => ?_) (fun h20 => ?_)
        · skip
          have h20 := bne_iff_ne.1 h20
          first
          | (exfalso; clear hA hW; omega)
          | (exfalso; clear hA hW; rw [hR.holder] at h20; exact absurd rfl h20; done)
          | (exfalso; clear hA hW; rw [hrh] at h20; exact absurd rfl h20; done)
          | (exfalso; clear hA hW; rw [hrh] at h20; cases h20; done)
          | (
              refine wpIn_seq ?_
              refine wpIn_region_lit ?_
              refine stF hA (by kernel_rfl) (by kernel_rfl) (by kernel_rfl) (by kernel_rfl) (RunsF.of (Runs.store (v := Value.bool false) (b := b5) (j := 0) (n := 1) (cs' := #[Value.bool false]) (H' := [Cel b5 #[Value.bool false] 4, Cel b3 #[Value.int .i64 lim] 3, Cel b1 #[Value.slice A_L L.length c_L] 40]) (by kernel_rfl) (by kernel_rfl) (by kernel_rfl) (by kernel_rfl) (by kernel_rfl) hW 0 (by rfl) (Nat.le_of_ble_eq_true (by kernel_rfl)) (by kernel_rfl) (by rfl) ?_)); clear hA ac hW; intro w21 hW ac hA
              refine wpListIn_nil ?_
              refine thenN ?_
              refine wpIn_ret ?_
              refine thenR ?_
              refine retF (.inl rfl) hA ?_
              refine leave1 (v := Value.bool false) (by rfl) (GotF.cell (b := b5) (i := 0) hA (by kernel_rfl) (by kernel_rfl) (hW.cel 0 rfl) (by kernel_rfl)) ?_
              clear hA
              exact ⟨retv (by (refine congrArg Value.bool (beq_iff_eq.2 ?_); omega)), hW.fr⟩)
        · skip
          have h20 := of_bne_f h20
          first
          | (exfalso; clear hA hW; omega)
          | (exfalso; clear hA hW; rw [hR.holder] at h20; exact absurd rfl h20; done)
          | (exfalso; clear hA hW; rw [hrh] at h20; exact absurd rfl h20; done)
          | (exfalso; clear hA hW; rw [hrh] at h20; cases h20; done)
          | (
              refine wpIn_skip ?_
              refine thenN ?_
              refine wpIn_seq ?_
              refine wpIn_region_lit ?_
              refine stF hA (by kernel_rfl) (by kernel_rfl) (by kernel_rfl) (by kernel_rfl) (RunsF.of (Runs.cells (fun b => Value.pointer (some ⟨b, 0, none⟩)) #[Value.int .i64 0] 3 (fun _ => by kernel_rfl) hW ?_)); clear hA ac hW; intro b22 w23 hW hb22 hfw23 ac hA
              refine stF hA (by kernel_rfl) (by kernel_rfl) (by kernel_rfl) (by kernel_rfl) (RunsF.of (Runs.cells (fun b => Value.pointer (some ⟨b, 0, none⟩)) #[Value.int .i64 0] 3 (fun _ => by kernel_rfl) hW ?_)); clear hA ac hW; intro b24 w25 hW hb24 hfw25 ac hA
              refine stF hA (by kernel_rfl) (by kernel_rfl) (by kernel_rfl) (by kernel_rfl) (RunsF.of (Runs.store (v := Value.int .i64 0) (b := b22) (j := 0) (n := 1) (cs' := #[Value.int .i64 0]) (H' := [Cel b24 #[Value.int .i64 0] 3, Cel b22 #[Value.int .i64 0] 3, Cel b5 #[Value.bool false] 4, Cel b3 #[Value.int .i64 lim] 3, Cel b1 #[Value.slice A_L L.length c_L] 40]) (by kernel_rfl) (by kernel_rfl) (by kernel_rfl) (by kernel_rfl) (by kernel_rfl) hW 1 (by rfl) (Nat.le_of_ble_eq_true (by kernel_rfl)) (by kernel_rfl) (by rfl) ?_)); clear hA ac hW; intro w26 hW ac hA
              refine stF hA (by kernel_rfl) (by kernel_rfl) (by kernel_rfl) (by kernel_rfl) (RunsF.of (Runs.store (v := Value.int .i64 (-1)) (b := b24) (j := 0) (n := 1) (cs' := #[Value.int .i64 (-1)]) (H' := [Cel b24 #[Value.int .i64 (-1)] 3, Cel b22 #[Value.int .i64 0] 3, Cel b5 #[Value.bool false] 4, Cel b3 #[Value.int .i64 lim] 3, Cel b1 #[Value.slice A_L L.length c_L] 40]) (by kernel_rfl) (by kernel_rfl) (by kernel_rfl) (by kernel_rfl) (by kernel_rfl) hW 0 (by rfl) (Nat.le_of_ble_eq_true (by kernel_rfl)) (by kernel_rfl) (by rfl) ?_)); clear hA ac hW; intro w27 hW ac hA
              refine wpListIn_nil ?_
              refine thenN ?_
              refine wpIn_seq ?_
              refine wpIn_seq ?_
              refine wpIn_region_lit ?_
              refine st_rdF (v := Value.func (.func 32) #[] lb17) hA (by kernel_rfl) (by kernel_rfl) (by kernel_rfl) (by kernel_rfl) hW.cls (Rd.pure fun _ => by kernel_rfl) ?_; clear hA ac; intro ac hA
              refine wpListIn_nil ?_
              refine thenN ?_
              refine wpIn_block ?_
              have hW := hW.share 4 rfl (H' := [Cel b24 #[Value.int .i64 (-1)] 3, Cel b22 #[Value.int .i64 0] 3, Cel b5 #[Value.bool false] 4, Cel b3 #[Value.int .i64 lim] 3]) rfl
              have hW := hW.share 3 rfl (H' := [Cel b24 #[Value.int .i64 (-1)] 3, Cel b22 #[Value.int .i64 0] 3, Cel b5 #[Value.bool false] 4]) rfl
              refine wp_range (encs := (fun x_ : Two => #[Value.int .i64 x_.a, Value.int .i64 x_.b])) (Sx := (HeldOf h)) hA (by kernel_rfl) (by kernel_rfl) (enters_of Try.func32 (by kernel_rfl) rfl) (by kernel_rfl) (fun _ => rfl) hIg18 (List.forall_mem_singleton.2 (List.mem_of_getElem? (i := 2) rfl)) (fun pre_ H_ => ∃ n : Int, ∃ last : Int, True ∧ (n = (pre_.length : Nat)) ∧ (last = lastA pre_) ∧ (n = 0 ∨ n < lim) ∧ H_ = [Cel b22 #[Value.int .i64 n] 3, Cel b24 #[Value.int .i64 last] 3]) (fun c_ _ H_ => (c_ = .exit 2 ∧ ∃ n : Int, ∃ last : Int, (n ≤ h.length ∧ n ≥ lim ∧ 1 ≤ n ∧ (n = 1 ∨ n ≤ lim)) ∧ H_ = [Cel b22 #[Value.int .i64 n] 3, Cel b24 #[Value.int .i64 last] 3])) (H := [Cel b22 #[Value.int .i64 0] 3, Cel b24 #[Value.int .i64 (-1)] 3]) (K := [Cel b5 #[Value.bool false] 4]) (hW.pick [1, 0, 2] (by decide) rfl) ⟨0, -1, trivial, by rfl, by rfl, by omega, rfl⟩ ?_ ?_ ?_
              · skip
                clear hA ac hW; intro l_28 rd_28 bs_28 pre_ x_ Hk_ w29 T_28 ac hrd_28 hbs_28 hbr_28 hok_ hJ_ hA hW hB_28 hT_28
                obtain ⟨n, last, _, hn, hl_, hm, rfl⟩ := hJ_
                obtain ⟨y30, h_⟩ : ∃ y_, y_ = x_ := ⟨_, rfl⟩; subst h_; obtain ⟨hrh, hla, hln⟩ := held_comes hR hok_
                replace hA : Fm 92 [] [(0, Value.pointer (some ⟨m, 0, none⟩)), (4, Value.pointer (some ⟨b1, 0, none⟩)), (5, Value.pointer (some ⟨b3, 0, none⟩)), (6, Value.pointer (some ⟨b5, 0, none⟩)), (7, Value.int .i64 a), (8, Value.int .i64 i), (13, Value.func (.func 32) #[] lb17), (14, Value.pointer (some ⟨b22, 0, none⟩)), (15, Value.pointer (some ⟨b24, 0, none⟩)), (20, Value.int .i64 i), (21, Value.bool (decide ((i : Int) ≤ (64 : Int)))), (47, Value.pointer (some ⟨m, 0, none⟩)), (48, Value.func (.func 32) #[] lb17), (49, Value.func (.func 32) #[] lb17), (50, Value.bool false), (51, Value.bool false), (52, Value.pointer (some ⟨m, 0, none⟩)), (53, Value.int .i64 many), (54, Value.pointer (some ⟨b1, 0, none⟩)), (55, Value.slice A_L L.length c_L), (56, Value.int .i64 ((L.length : Nat) : Int)), (57, Value.bool ((many : Int) != (((L.length : Nat) : Int) : Int))), (58, Value.bool ((many : Int) != (((L.length : Nat) : Int) : Int))), (59, Value.func (.func 32) #[] lb17), (60, Value.int .i64 y30.a), (61, Value.int .i64 y30.b)] ac := hA.sub ⟨⟨by kernel_rfl, by kernel_rfl⟩, ⟨by kernel_rfl, by kernel_rfl⟩, ⟨by kernel_rfl, by kernel_rfl⟩, ⟨by kernel_rfl, by kernel_rfl⟩, ⟨by kernel_rfl, by kernel_rfl⟩, ⟨by kernel_rfl, by kernel_rfl⟩, ⟨by kernel_rfl, by kernel_rfl⟩, ⟨by kernel_rfl, by kernel_rfl⟩, ⟨by kernel_rfl, by kernel_rfl⟩, ⟨by kernel_rfl, by kernel_rfl⟩, ⟨by kernel_rfl, by kernel_rfl⟩, ⟨by kernel_rfl, by kernel_rfl⟩, ⟨by kernel_rfl, by kernel_rfl⟩, ⟨by kernel_rfl, by kernel_rfl⟩, ⟨by kernel_rfl, by kernel_rfl⟩, ⟨by kernel_rfl, by kernel_rfl⟩, ⟨by kernel_rfl, by kernel_rfl⟩, ⟨by kernel_rfl, by kernel_rfl⟩, ⟨by kernel_rfl, by kernel_rfl⟩, ⟨by kernel_rfl, by kernel_rfl⟩, ⟨by kernel_rfl, by kernel_rfl⟩, ⟨by kernel_rfl, by kernel_rfl⟩, ⟨by kernel_rfl, by kernel_rfl⟩, ⟨by kernel_rfl, by kernel_rfl⟩, ⟨by kernel_rfl, by kernel_rfl⟩, ⟨by kernel_rfl, by kernel_rfl⟩, trivial⟩
                refine wpIn_seq ?_
                refine wpIn_region_lit ?_
                refine st_rdF (v := Value.int .i64 y30.a) hA (by kernel_rfl) (by kernel_rfl) (by kernel_rfl) (by kernel_rfl) hW.cls (Rd.pure fun _ => by kernel_rfl) ?_; clear hA ac; intro ac hA
                refine wpListIn_nil ?_
                refine thenN ?_
                refine wpIn_region_lit ?_
                refine st_rdF (v := Value.int .i64 y30.b) hA (by kernel_rfl) (by kernel_rfl) (by kernel_rfl) (by kernel_rfl) hW.cls (Rd.pure fun _ => by kernel_rfl) ?_; clear hA ac; intro ac hA
                refine wpListIn_nil ?_
                refine thenN ?_
                refine begun (bs := bs_28) (H' := [bs_28, Cel b22 #[Value.int .i64 n] 3, Cel b24 #[Value.int .i64 last] 3]) hW 0 rfl (fun b hb => by rw [hbs_28] at hb; rw [hrd_28]; exact hb) rfl ?_; clear hW; intro w31 hW
                refine wpIn_block ?_
                refine wpIn_seq ?_
                refine wpIn_region_lit ?_
                refine st_rdF (v := Value.agg #[Value.slice A_L L.length c_L]) hA (by kernel_rfl) (by kernel_rfl) (by kernel_rfl) (by kernel_rfl) hW.cls (Rd.load (b := b1) (i := 0) (by kernel_rfl) (fun _ hw => show _ = _ from (hw.1).getG 1 rfl) (by kernel_rfl)) ?_; clear hA ac; intro ac hA
                refine st_rdF (v := Value.int .i64 y30.a) hA (by kernel_rfl) (by kernel_rfl) (by kernel_rfl) (by kernel_rfl) hW.cls (Rd.pure fun _ => by kernel_rfl) ?_; clear hA ac; intro ac hA
                refine stF hA (by kernel_rfl) (by kernel_rfl) (by kernel_rfl) (by kernel_rfl) (RunsF.of (Runs.callN (v := Value.tuple #[Value.int .i64 (rHolder L (y30.a)).1, Value.bool (rHolder L (y30.a)).2]) (fun _ => by kernel_rfl) hW (e_rholder A_L c_L L (y30.a) w31 ((hW).getG 4 rfl) (by first | assumption | omega | (simp; omega) | simp) (by first | omega | exact hR.bound | assumption | exact fun x hx => ⟨(hR.key x hx).1, by have h1_ := (hR.key x hx).2; have h2_ := hR.most; omega⟩) (by first | omega | exact hR.bound | assumption | exact fun x hx => ⟨(hR.key x hx).1, by have h1_ := (hR.key x hx).2; have h2_ := hR.most; omega⟩)) ?_)); clear hA ac hW; intro w32 hW hfw32 ac hA
                refine st_rdF (v := Value.tuple #[Value.int .i64 (rHolder L (y30.a)).1, Value.bool (rHolder L (y30.a)).2]) hA (by kernel_rfl) (by kernel_rfl) (by kernel_rfl) (by kernel_rfl) hW.cls (Rd.pure fun _ => by kernel_rfl) ?_; clear hA ac; intro ac hA
                refine st_rdF (v := Value.int .i64 (rHolder L (y30.a)).1) hA (by kernel_rfl) (by kernel_rfl) (by kernel_rfl) (by kernel_rfl) hW.cls (Rd.pure fun _ => by kernel_rfl) ?_; clear hA ac; intro ac hA
                refine st_rdF (v := Value.bool (rHolder L (y30.a)).2) hA (by kernel_rfl) (by kernel_rfl) (by kernel_rfl) (by kernel_rfl) hW.cls (Rd.pure fun _ => by kernel_rfl) ?_; clear hA ac; intro ac hA
                refine st_rdF (v := Value.int .i64 (rHolder L (y30.a)).1) hA (by kernel_rfl) (by kernel_rfl) (by kernel_rfl) (by kernel_rfl) hW.cls (Rd.pure fun _ => by kernel_rfl) ?_; clear hA ac; intro ac hA
                refine st_rdF (v := Value.bool (rHolder L (y30.a)).2) hA (by kernel_rfl) (by kernel_rfl) (by kernel_rfl) (by kernel_rfl) hW.cls (Rd.pure fun _ => by kernel_rfl) ?_; clear hA ac; intro ac hA
                refine wpListIn_nil ?_
                refine thenN ?_
                refine wpIn_seq ?_
                refine wpIn_seq ?_
                refine wpIn_region_lit ?_
                refine st_rdF (v := Value.int .i64 y30.a) hA (by kernel_rfl) (by kernel_rfl) (by kernel_rfl) (by kernel_rfl) hW.cls (Rd.pure fun _ => by kernel_rfl) ?_; clear hA ac; intro ac hA
                refine st_rdF (v := Value.int .i64 last) hA (by kernel_rfl) (by kernel_rfl) (by kernel_rfl) (by kernel_rfl) hW.cls (Rd.load (b := b24) (i := 0) (by kernel_rfl) (fun _ hw => (hw.1).cel 2 rfl) (by kernel_rfl)) ?_; clear hA ac; intro ac hA
                refine st_rdF (v := Value.bool (decide ((y30.a : Int) ≤ (last : Int)))) hA (by kernel_rfl) (by kernel_rfl) (by kernel_rfl) (by kernel_rfl) hW.cls (Rd.pure fun _ => by kernel_rfl) ?_; clear hA ac; intro ac hA
                refine st_rdF (v := Value.bool (decide ((y30.a : Int) ≤ (last : Int)))) hA (by kernel_rfl) (by kernel_rfl) (by kernel_rfl) (by kernel_rfl) hW.cls (Rd.pure fun _ => by kernel_rfl) ?_; clear hA ac; intro ac hA
                rcases Bool.eq_false_or_eq_true (decide ((y30.a : Int) ≤ (last : Int))) with h33 | h33
                · skip
                  rw [h33] at hA
                  have h33 := of_decide_eq_true h33
                  first
                  | (exfalso; clear hA hW; omega)
                  | (exfalso; clear hA hW; rw [hR.holder] at h33; exact absurd rfl h33; done)
                  | (exfalso; clear hA hW; rw [hrh] at h33; exact absurd rfl h33; done)
                  | (exfalso; clear hA hW; rw [hrh] at h33; cases h33; done)
                  | (
                      fail)
                · skip
                  rw [h33] at hA
                  have h33 := of_decide_eq_false h33
                  first
                  | (exfalso; clear hA hW; omega)
                  | (exfalso; clear hA hW; rw [hR.holder] at h33; exact absurd rfl h33; done)
                  | (exfalso; clear hA hW; rw [hrh] at h33; exact absurd rfl h33; done)
                  | (exfalso; clear hA hW; rw [hrh] at h33; cases h33; done)
                  | (
                      refine st_rdF (v := Value.bool (rHolder L (y30.a)).2) hA (by kernel_rfl) (by kernel_rfl) (by kernel_rfl) (by kernel_rfl) hW.cls (Rd.pure fun _ => by kernel_rfl) ?_; clear hA ac; intro ac hA
                      refine st_rdF (v := Value.bool (!(rHolder L (y30.a)).2)) hA (by kernel_rfl) (by kernel_rfl) (by kernel_rfl) (by kernel_rfl) hW.cls (Rd.pure fun _ => by kernel_rfl) ?_; clear hA ac; intro ac hA
                      refine st_rdF (v := Value.bool (!(rHolder L (y30.a)).2)) hA (by kernel_rfl) (by kernel_rfl) (by kernel_rfl) (by kernel_rfl) hW.cls (Rd.pure fun _ => by kernel_rfl) ?_; clear hA ac; intro ac hA
                      refine st_rdF (v := Value.bool (!(rHolder L (y30.a)).2)) hA (by kernel_rfl) (by kernel_rfl) (by kernel_rfl) (by kernel_rfl) hW.cls (Rd.pure fun _ => by kernel_rfl) ?_; clear hA ac; intro ac hA
                      rcases Bool.eq_false_or_eq_true (!(rHolder L (y30.a)).2) with h34 | h34
                      · skip
                        rw [h34] at hA
                        have h34 := not_t h34
                        first
                        | (exfalso; clear hA hW; omega)
                        | (exfalso; clear hA hW; rw [hR.holder] at h34; exact absurd rfl h34; done)
                        | (exfalso; clear hA hW; rw [hrh] at h34; exact absurd rfl h34; done)
                        | (exfalso; clear hA hW; rw [hrh] at h34; cases h34; done)
                        | (
                            fail)
                      · skip
                        rw [h34] at hA
                        have h34 := not_f h34
                        first
                        | (exfalso; clear hA hW; omega)
                        | (exfalso; clear hA hW; rw [hR.holder] at h34; exact absurd rfl h34; done)
                        | (exfalso; clear hA hW; rw [hrh] at h34; exact absurd rfl h34; done)
                        | (exfalso; clear hA hW; rw [hrh] at h34; cases h34; done)
                        | (
                            refine st_rdF (v := Value.int .i64 y30.b) hA (by kernel_rfl) (by kernel_rfl) (by kernel_rfl) (by kernel_rfl) hW.cls (Rd.pure fun _ => by kernel_rfl) ?_; clear hA ac; intro ac hA
                            refine st_rdF (v := Value.int .i64 (rHolder L (y30.a)).1) hA (by kernel_rfl) (by kernel_rfl) (by kernel_rfl) (by kernel_rfl) hW.cls (Rd.pure fun _ => by kernel_rfl) ?_; clear hA ac; intro ac hA
                            refine st_rdF (v := Value.bool ((y30.b : Int) != ((rHolder L (y30.a)).1 : Int))) hA (by kernel_rfl) (by kernel_rfl) (by kernel_rfl) (by kernel_rfl) hW.cls (Rd.pure fun _ => by kernel_rfl) ?_; clear hA ac; intro ac hA
                            refine st_rdF (v := Value.bool ((y30.b : Int) != ((rHolder L (y30.a)).1 : Int))) hA (by kernel_rfl) (by kernel_rfl) (by kernel_rfl) (by kernel_rfl) hW.cls (Rd.pure fun _ => by kernel_rfl) ?_; clear hA ac; intro ac hA
                            refine wpListIn_nil ?_
                            refine thenN ?_
                            refine wpIn_cond_split (t := (y30.b : Int) != ((rHolder L (y30.a)).1 : Int)) (hA.eval (by kernel_rfl)) (fun h35 => ?_) (fun h35 => ?_)
                            · skip
                              have h35 := bne_iff_ne.1 h35
                              first
                              | (exfalso; clear hA hW; omega)
                              | (exfalso; clear hA hW; rw [hR.holder] at h35; exact absurd rfl h35; done)
                              | (exfalso; clear hA hW; rw [hrh] at h35; exact absurd rfl h35; done)
                              | (exfalso; clear hA hW; rw [hrh] at h35; cases h35; done)
                              | (
                                  fail)
                            · skip
                              have h35 := of_bne_f h35
                              first
                              | (exfalso; clear hA hW; omega)
                              | (exfalso; clear hA hW; rw [hR.holder] at h35; exact absurd rfl h35; done)
                              | (exfalso; clear hA hW; rw [hrh] at h35; exact absurd rfl h35; done)
                              | (exfalso; clear hA hW; rw [hrh] at h35; cases h35; done)
                              | (
                                  refine wpIn_skip ?_
                                  refine thenN ?_
                                  refine wpIn_seq ?_
                                  refine wpIn_region_lit ?_
                                  refine st_rdF (v := Value.int .i64 y30.a) hA (by kernel_rfl) (by kernel_rfl) (by kernel_rfl) (by kernel_rfl) hW.cls (Rd.pure fun _ => by kernel_rfl) ?_; clear hA ac; intro ac hA
                                  refine stF hA (by kernel_rfl) (by kernel_rfl) (by kernel_rfl) (by kernel_rfl) (RunsF.of (Runs.store (v := Value.int .i64 y30.a) (b := b24) (j := 0) (n := 1) (cs' := #[Value.int .i64 y30.a]) (H' := [bs_28, Cel b22 #[Value.int .i64 n] 3, Cel b24 #[Value.int .i64 y30.a] 3]) (by kernel_rfl) (by kernel_rfl) (by kernel_rfl) (by kernel_rfl) (by kernel_rfl) hW 2 (by rfl) (Nat.le_of_ble_eq_true (by kernel_rfl)) (by kernel_rfl) (by rfl) ?_)); clear hA ac hW; intro w36 hW ac hA
                                  refine wpListIn_nil ?_
                                  refine thenN ?_
                                  refine wpIn_seq ?_
                                  refine wpIn_region_lit ?_
                                  refine st_rdF (v := Value.int .i64 n) hA (by kernel_rfl) (by kernel_rfl) (by kernel_rfl) (by kernel_rfl) hW.cls (Rd.load (b := b22) (i := 0) (by kernel_rfl) (fun _ hw => (hw.1).cel 1 rfl) (by kernel_rfl)) ?_; clear hA ac; intro ac hA
                                  refine st_rdF (v := Value.int .i64 ((n : Int) + 1)) hA (by kernel_rfl) (by kernel_rfl) (by kernel_rfl) (by kernel_rfl) hW.cls (Rd.pureE (v0 := Value.int .i64 (IntKind.i64.wrap ((n : Int) + 1))) (fun _ => by kernel_rfl) (congrArg (Value.int .i64) ((w_i64 (x := (n : Int) + 1) (by omega) (by omega)).trans (by omega)))) ?_; clear hA ac; intro ac hA
                                  refine stF hA (by kernel_rfl) (by kernel_rfl) (by kernel_rfl) (by kernel_rfl) (RunsF.of (Runs.store (v := Value.int .i64 ((n : Int) + 1)) (b := b22) (j := 0) (n := 1) (cs' := #[Value.int .i64 ((n : Int) + 1)]) (H' := [bs_28, Cel b22 #[Value.int .i64 ((n : Int) + 1)] 3, Cel b24 #[Value.int .i64 y30.a] 3]) (by kernel_rfl) (by kernel_rfl) (by kernel_rfl) (by kernel_rfl) (by kernel_rfl) hW 1 (by rfl) (Nat.le_of_ble_eq_true (by kernel_rfl)) (by kernel_rfl) (by rfl) ?_)); clear hA ac hW; intro w37 hW ac hA
                                  refine wpListIn_nil ?_
                                  refine thenN ?_
                                  refine wpIn_seq ?_
                                  refine wpIn_region_lit ?_
                                  refine st_rdF (v := Value.int .i64 ((n : Int) + 1)) hA (by kernel_rfl) (by kernel_rfl) (by kernel_rfl) (by kernel_rfl) hW.cls (Rd.load (b := b22) (i := 0) (by kernel_rfl) (fun _ hw => (hw.1).cel 1 rfl) (by kernel_rfl)) ?_; clear hA ac; intro ac hA
                                  refine st_rdF (v := Value.int .i64 lim) hA (by kernel_rfl) (by kernel_rfl) (by kernel_rfl) (by kernel_rfl) hW.cls (Rd.load (b := b3) (i := 0) (by kernel_rfl) (fun _ hw => show _ = _ from (hw.1).getG 0 rfl) (by kernel_rfl)) ?_; clear hA ac; intro ac hA
                                  refine st_rdF (v := Value.bool (decide (((n : Int) + 1 : Int) ≥ (lim : Int)))) hA (by kernel_rfl) (by kernel_rfl) (by kernel_rfl) (by kernel_rfl) hW.cls (Rd.pure fun _ => by kernel_rfl) ?_; clear hA ac; intro ac hA
                                  refine wpListIn_nil ?_
                                  refine thenN ?_
                                  refine wpIn_cond_split (t := decide (((n : Int) + 1 : Int) ≥ (lim : Int))) (hA.eval (by kernel_rfl)) (fun h38 => ?_) (fun h38 => ?_)
                                  · skip
                                    have h38 := of_decide_eq_true h38
                                    first
                                    | (exfalso; clear hA hW; omega)
                                    | (exfalso; clear hA hW; rw [hR.holder] at h38; exact absurd rfl h38; done)
                                    | (exfalso; clear hA hW; rw [hrh] at h38; exact absurd rfl h38; done)
                                    | (exfalso; clear hA hW; rw [hrh] at h38; cases h38; done)
                                    | (
                                        refine wpIn_exit ?_
                                        refine blkY (by kernel_rfl) ?_
                                        exact ⟨_, ⟨rfl, (n : Int) + 1, y30.a, by omega, rfl⟩, (hW.pick [0, 1, 2] (by decide) rfl).pickG [0, 1, 2, 3, 4] rfl⟩)
                                  · skip
                                    have h38 := of_decide_eq_false h38
                                    first
                                    | (exfalso; clear hA hW; omega)
                                    | (exfalso; clear hA hW; rw [hR.holder] at h38; exact absurd rfl h38; done)
                                    | (exfalso; clear hA hW; rw [hrh] at h38; exact absurd rfl h38; done)
                                    | (exfalso; clear hA hW; rw [hrh] at h38; cases h38; done)
                                    | (
                                        refine wpIn_skip ?_
                                        refine blkN ?_
                                        exact ⟨_, ⟨(n : Int) + 1, y30.a, trivial, by simp; omega, by exact (lastA_snoc _ _).symm, by omega, rfl⟩, (hW.pick [0, 1, 2] (by decide) rfl).pickG [0, 1, 2, 3, 4] rfl⟩))))
              · skip
                clear hA ac hW; intro D39 xs_ Hk_ w40 ac hS_ hJ_ hA hW
                obtain ⟨n, last, _, hn, hl_, hm, rfl⟩ := hJ_
                replace hW : Ws w No [Cel b22 #[Value.int .i64 n] 3, Cel b24 #[Value.int .i64 last] 3, DefR D39, Cel b5 #[Value.bool false] 4] [Cel b3 #[Value.int .i64 lim] 3, Cel b1 #[Value.slice A_L L.length c_L] 40, g18, MutR m b h many, roR A_L 1 enI L] w40 := hW
                have hall_ := held_all hS_
                refine blkN ?_
                refine thenN ?_
                refine wpIn_seq ?_
                refine wpIn_region_lit ?_
                refine st_rdF (v := Value.int .i64 n) hA (by kernel_rfl) (by kernel_rfl) (by kernel_rfl) (by kernel_rfl) hW.cls (Rd.load (b := b22) (i := 0) (by kernel_rfl) (fun _ hw => (hw.1).cel 0 rfl) (by kernel_rfl)) ?_; clear hA ac; intro ac hA
                refine st_rdF (v := Value.int .i64 a) hA (by kernel_rfl) (by kernel_rfl) (by kernel_rfl) (by kernel_rfl) hW.cls (Rd.pure fun _ => by kernel_rfl) ?_; clear hA ac; intro ac hA
                refine st_rdF (v := Value.int .i64 lim) hA (by kernel_rfl) (by kernel_rfl) (by kernel_rfl) (by kernel_rfl) hW.cls (Rd.load (b := b3) (i := 0) (by kernel_rfl) (fun _ hw => show _ = _ from (hw.1).getG 0 rfl) (by kernel_rfl)) ?_; clear hA ac; intro ac hA
                refine st_rdF (v := Value.int .i64 (max (1 : Int) (lim : Int))) hA (by kernel_rfl) (by kernel_rfl) (by kernel_rfl) (by kernel_rfl) hW.cls (Rd.pureE (v0 := Value.int .i64 (if (lim : Int) > (1 : Int) then (lim : Int) else (1 : Int))) (fun _ => by kernel_rfl) (congrArg (Value.int .i64) (max_ _ _))) ?_; clear hA ac; intro ac hA
                refine st_rdF (v := Value.int .i64 (min (a : Int) (max (1 : Int) (lim : Int) : Int))) hA (by kernel_rfl) (by kernel_rfl) (by kernel_rfl) (by kernel_rfl) hW.cls (Rd.pureE (v0 := Value.int .i64 (if (max (1 : Int) (lim : Int) : Int) < (a : Int) then (max (1 : Int) (lim : Int) : Int) else (a : Int))) (fun _ => by kernel_rfl) (congrArg (Value.int .i64) (min_ _ _))) ?_; clear hA ac; intro ac hA
                refine st_rdF (v := Value.bool ((n : Int) == (min (a : Int) (max (1 : Int) (lim : Int) : Int) : Int))) hA (by kernel_rfl) (by kernel_rfl) (by kernel_rfl) (by kernel_rfl) hW.cls (Rd.pure fun _ => by kernel_rfl) ?_; clear hA ac; intro ac hA
                refine stF hA (by kernel_rfl) (by kernel_rfl) (by kernel_rfl) (by kernel_rfl) (RunsF.of (Runs.store (v := Value.bool ((n : Int) == (min (a : Int) (max (1 : Int) (lim : Int) : Int) : Int))) (b := b5) (j := 0) (n := 1) (cs' := #[Value.bool ((n : Int) == (min (a : Int) (max (1 : Int) (lim : Int) : Int) : Int))]) (H' := [Cel b22 #[Value.int .i64 n] 3, Cel b24 #[Value.int .i64 last] 3, DefR D39, Cel b5 #[Value.bool ((n : Int) == (min (a : Int) (max (1 : Int) (lim : Int) : Int) : Int))] 4]) (by kernel_rfl) (by kernel_rfl) (by kernel_rfl) (by kernel_rfl) (by kernel_rfl) hW 3 (by rfl) (Nat.le_of_ble_eq_true (by kernel_rfl)) (by kernel_rfl) (by rfl) ?_)); clear hA ac hW; intro w41 hW ac hA
                refine wpListIn_nil ?_
                refine thenN ?_
                refine wpIn_ret ?_
                refine retF (.inl rfl) hA ?_
                refine leaveD (H' := [Cel b22 #[Value.int .i64 n] 3, Cel b24 #[Value.int .i64 last] 3, Cel b5 #[Value.bool ((n : Int) == (min (a : Int) (max (1 : Int) (lim : Int) : Int) : Int))] 4]) hW 2 rfl rfl ?_; clear hW; intro w42 hW
                refine leave1 (v := Value.bool ((n : Int) == (min (a : Int) (max (1 : Int) (lim : Int) : Int) : Int))) (by rfl) (GotF.cell (b := b5) (i := 0) hA (by kernel_rfl) (by kernel_rfl) (hW.cel 2 rfl) (by kernel_rfl)) ?_
                clear hA
                exact ⟨retv (by (refine congrArg Value.bool (beq_iff_eq.2 ?_); omega)), hW.fr⟩
              · skip
                clear hA ac hW; intro D43 c_ pre_ Hk_ w44 ac hJ_ hA hW
                rcases hJ_ with ⟨rfl, n, last, hx, rfl⟩
                · skip
                  replace hW : Ws w No [Cel b22 #[Value.int .i64 n] 3, Cel b24 #[Value.int .i64 last] 3, DefR D43, Cel b5 #[Value.bool false] 4] [Cel b3 #[Value.int .i64 lim] 3, Cel b1 #[Value.slice A_L L.length c_L] 40, g18, MutR m b h many, roR A_L 1 enI L] w44 := hW
                  refine wpIn_exit ?_
                  refine blkX ?_
                  refine thenN ?_
                  refine wpIn_seq ?_
                  refine wpIn_region_lit ?_
                  refine st_rdF (v := Value.int .i64 n) hA (by kernel_rfl) (by kernel_rfl) (by kernel_rfl) (by kernel_rfl) hW.cls (Rd.load (b := b22) (i := 0) (by kernel_rfl) (fun _ hw => (hw.1).cel 0 rfl) (by kernel_rfl)) ?_; clear hA ac; intro ac hA
                  refine st_rdF (v := Value.int .i64 a) hA (by kernel_rfl) (by kernel_rfl) (by kernel_rfl) (by kernel_rfl) hW.cls (Rd.pure fun _ => by kernel_rfl) ?_; clear hA ac; intro ac hA
                  refine st_rdF (v := Value.int .i64 lim) hA (by kernel_rfl) (by kernel_rfl) (by kernel_rfl) (by kernel_rfl) hW.cls (Rd.load (b := b3) (i := 0) (by kernel_rfl) (fun _ hw => show _ = _ from (hw.1).getG 0 rfl) (by kernel_rfl)) ?_; clear hA ac; intro ac hA
                  refine st_rdF (v := Value.int .i64 (max (1 : Int) (lim : Int))) hA (by kernel_rfl) (by kernel_rfl) (by kernel_rfl) (by kernel_rfl) hW.cls (Rd.pureE (v0 := Value.int .i64 (if (lim : Int) > (1 : Int) then (lim : Int) else (1 : Int))) (fun _ => by kernel_rfl) (congrArg (Value.int .i64) (max_ _ _))) ?_; clear hA ac; intro ac hA
                  refine st_rdF (v := Value.int .i64 (min (a : Int) (max (1 : Int) (lim : Int) : Int))) hA (by kernel_rfl) (by kernel_rfl) (by kernel_rfl) (by kernel_rfl) hW.cls (Rd.pureE (v0 := Value.int .i64 (if (max (1 : Int) (lim : Int) : Int) < (a : Int) then (max (1 : Int) (lim : Int) : Int) else (a : Int))) (fun _ => by kernel_rfl) (congrArg (Value.int .i64) (min_ _ _))) ?_; clear hA ac; intro ac hA
                  refine st_rdF (v := Value.bool ((n : Int) == (min (a : Int) (max (1 : Int) (lim : Int) : Int) : Int))) hA (by kernel_rfl) (by kernel_rfl) (by kernel_rfl) (by kernel_rfl) hW.cls (Rd.pure fun _ => by kernel_rfl) ?_; clear hA ac; intro ac hA
                  refine stF hA (by kernel_rfl) (by kernel_rfl) (by kernel_rfl) (by kernel_rfl) (RunsF.of (Runs.store (v := Value.bool ((n : Int) == (min (a : Int) (max (1 : Int) (lim : Int) : Int) : Int))) (b := b5) (j := 0) (n := 1) (cs' := #[Value.bool ((n : Int) == (min (a : Int) (max (1 : Int) (lim : Int) : Int) : Int))]) (H' := [Cel b22 #[Value.int .i64 n] 3, Cel b24 #[Value.int .i64 last] 3, DefR D43, Cel b5 #[Value.bool ((n : Int) == (min (a : Int) (max (1 : Int) (lim : Int) : Int) : Int))] 4]) (by kernel_rfl) (by kernel_rfl) (by kernel_rfl) (by kernel_rfl) (by kernel_rfl) hW 3 (by rfl) (Nat.le_of_ble_eq_true (by kernel_rfl)) (by kernel_rfl) (by rfl) ?_)); clear hA ac hW; intro w45 hW ac hA
                  refine wpListIn_nil ?_
                  refine thenN ?_
                  refine wpIn_ret ?_
                  refine retF (.inl rfl) hA ?_
                  refine leaveD (H' := [Cel b22 #[Value.int .i64 n] 3, Cel b24 #[Value.int .i64 last] 3, Cel b5 #[Value.bool ((n : Int) == (min (a : Int) (max (1 : Int) (lim : Int) : Int) : Int))] 4]) hW 2 rfl rfl ?_; clear hW; intro w46 hW
                  refine leave1 (v := Value.bool ((n : Int) == (min (a : Int) (max (1 : Int) (lim : Int) : Int) : Int))) (by rfl) (GotF.cell (b := b5) (i := 0) hA (by kernel_rfl) (by kernel_rfl) (hW.cel 2 rfl) (by kernel_rfl)) ?_
                  clear hA
                  exact ⟨retv (by (refine congrArg Value.bool (beq_iff_eq.2 ?_); omega)), hW.fr⟩))

end Go.Proofs.Ytgeikokmhkfkgaa.L
