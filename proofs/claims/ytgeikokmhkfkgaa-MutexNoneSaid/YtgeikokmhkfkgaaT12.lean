/- Contracts, walked by program over the engine's laws. -/
import Derived.Test.YtgeikokmhkfkgaaProg
import Derived.Test.YtgeikokmhkfkgaaT11
namespace Go.Proofs.Ytgeikokmhkfkgaa.L
open Go.RowKit

structure Acts2 where
  a : Act13
  b : Act13
deriving DecidableEq
def Acts2.v (x : Acts2) : Value := .agg #[.int .i64 x.a.what, .int .i64 x.a.i, .int .i64 x.a.by_, .int .i64 x.b.what, .int .i64 x.b.i, .int .i64 x.b.by_]
def enActs2 (x : Acts2) : List Value := [.int .i64 x.a.what, .int .i64 x.a.i, .int .i64 x.a.by_, .int .i64 x.b.what, .int .i64 x.b.i, .int .i64 x.b.by_]
def deActs2 : List Value → Acts2
  | [.int _ a0, .int _ a1, .int _ a2, .int _ a3, .int _ a4, .int _ a5] => ⟨⟨a0, a1, a2⟩, ⟨a3, a4, a5⟩⟩
  | _ => ⟨⟨0, 0, 0⟩, ⟨0, 0, 0⟩⟩
def wfActs2 (x : Acts2) : Prop := (Lit.int .i64 x.a.what).wf = true ∧ (Lit.int .i64 x.a.i).wf = true ∧ (Lit.int .i64 x.a.by_).wf = true ∧ (Lit.int .i64 x.b.what).wf = true ∧ (Lit.int .i64 x.b.i).wf = true ∧ (Lit.int .i64 x.b.by_).wf = true ∧ True
theorem deActs2_ok (cs : List Value) (h : cksOk [.int .i64, .int .i64, .int .i64, .int .i64, .int .i64, .int .i64] cs) : enActs2 (deActs2 cs) = cs ∧ wfActs2 (deActs2 cs) := by
  have hl := cksOk_length h
  match cs, hl, h with
  | [c0, c1, c2, c3, c4, c5], _, ⟨⟨_, h0, w0⟩, ⟨_, h1, w1⟩, ⟨_, h2, w2⟩, ⟨_, h3, w3⟩, ⟨_, h4, w4⟩, ⟨_, h5, w5⟩, _⟩ =>
    subst h0 h1 h2 h3 h4 h5
    exact ⟨rfl, w0, w1, w2, w3, w4, w5, trivial⟩
theorem flatActs2 {v : Value} (h : cksOk [.int .i64, .int .i64, .int .i64, .int .i64, .int .i64, .int .i64] v.cells.toList) : ∃ x : Acts2, v = x.v ∧ wfActs2 x := by
  have hl := cksOk_length h
  cases v with
  | agg a => exact ⟨deActs2 a.toList, by have := (deActs2_ok _ h).1; have h2 := congrArg List.toArray this; exact congrArg Value.agg (h2.symm), (deActs2_ok _ h).2⟩
  | _ => simp [Value.cells] at hl

theorem Rel13.some_at {L : List Int} {h : List (Int × Int)} {many : Int} (r : Rel13 L h many) {x : Int × Int} (hx : x ∈ h) : look h x.1 = some x.2 := look_of_mem r.nodup hx
theorem Rel13.back {L L2 : List Int} {h h2 : List (Int × Int)} {many : Int} (r : Rel13 L h many) (r2 : Rel13 L2 h2 many) (e : L = L2) : ∀ x ∈ h, look h2 x.1 = some x.2 := by
  subst e
  intro x hx
  have hk := r.key x hx
  have h1 := r.at_ x.1 hk.1 hk.2
  have h2' := r2.at_ x.1 hk.1 hk.2
  rw [h1] at h2'
  rw [r.some_at hx] at h2'
  have hv := r.val x hx
  cases q : look h2 x.1 with
  | none => rw [q] at h2'; simp only [Option.some.injEq] at h2'; omega
  | some v => rw [q] at h2'; simp only [Option.some.injEq] at h2'; congr 1; omega
/-- Maps without a key twice, one within the other. -/
theorem map_len {h g : List (Int × Int)} (hd : (h.map (·.1)).Nodup) (hs : ∀ x ∈ h, look g x.1 = some x.2) : h.length ≤ g.length := by
  have h1 := hd.length_le_of_subset (l₂ := g.map (·.1)) (fun a ha => by
    obtain ⟨x, hx, rfl⟩ := List.mem_map.1 ha
    exact List.mem_map.2 ⟨_, look_mem (hs x hx), rfl⟩)
  simpa using h1
theorem map_sur {h g : List (Int × Int)} (hd : (h.map (·.1)).Nodup) (hs : ∀ x ∈ h, look g x.1 = some x.2) (hl : h.length = g.length) : ∀ i, look h i = look g i := by
  intro i
  cases e : look h i with
  | some v => exact (hs _ (look_mem e)).symm
  | none =>
    cases q : look g i with
    | none => rfl
    | some v =>
      exfalso
      have h1 := (List.nodup_cons.2 ⟨look_none.1 e, hd⟩ : (i :: h.map (·.1)).Nodup).length_le_of_subset (l₂ := g.map (·.1)) (fun a ha => by
        rcases List.mem_cons.1 ha with rfl | ha
        · exact List.mem_map.2 ⟨_, look_mem q, rfl⟩
        · obtain ⟨x, hx, rfl⟩ := List.mem_map.1 ha
          exact List.mem_map.2 ⟨_, look_mem (hs x hx), rfl⟩)
      simp at h1; omega
theorem same13 {L L2 : List Int} {h h2 : List (Int × Int)} {many : Int} (r : Rel13 L h many) (r2 : Rel13 L2 h2 many) : (decide (many = many) && decide (mEq h h2)) = decide (L = L2) := by
  rw [decide_eq_true rfl, Bool.true_and]
  congr 1
  refine propext ⟨fun e => ?_, fun e => ⟨?_, r.back r2 e⟩⟩
  · have hl := map_sur r.nodup e.2 e.1
    refine List.ext_getElem? fun i => ?_
    have h1 := r.len
    have h2' := r2.len
    by_cases q : (i : Int) < many
    · have a := r.at_ i (by omega) q
      have b := r2.at_ i (by omega) q
      rw [hl] at a
      rw [show ((i : Int)).toNat = i from by omega] at a b
      rw [a, b]
    · rw [List.getElem?_eq_none (by omega), List.getElem?_eq_none (by omega)]
  · have h1 := map_len r.nodup (r.back r2 e)
    have h2' := map_len r2.nodup (r2.back r e.symm)
    omega
theorem same13' {L L2 : List Int} {h h2 : List (Int × Int)} {many : Int} (r : Rel13 L h many) (r2 : Rel13 L2 h2 many) : (decide (many = many) && decide (mEq h2 h)) = decide (L = L2) := by rw [same13 r2 r]; congr 1; exact propext ⟨Eq.symm, Eq.symm⟩
set_option maxRecDepth 100000 in
theorem e_copies (many : Int) (A_l : Option Addr) (c_l : Nat) (l : List Act13) (two : Acts2) (w : World) (hr_l : RowAt w A_l 3 enAct13 l) (hc_l : l.length ≤ c_l) : Calls Try.prog 5 #[Value.int .i64 many, Value.slice A_l l.length c_l, two.v] w (fun e w' => e = .returned (Value.bool true) ∧ Fr No w w') := by
  have _hu := hc_l; have _hv := hr_l; clear _hu _hv
  refine enter_E 134 Try.func5 rfl rfl (by kernel_rfl) (L := [(0, Value.int .i64 many), (1, Value.slice A_l l.length c_l), (2, two.v)]) (by kernel_rfl) ?_
  intro ac hA
  have hW := Ws.start w No
  have hW := hW.arg hr_l
  refine wp_seq ?_
  refine wp_region_lit ?_
  refine st hA (by kernel_rfl) (by kernel_rfl) (by kernel_rfl) (Runs.cells (fun b => Value.pointer (some ⟨b, 0, none⟩)) #[Value.int .i64 two.a.what, Value.int .i64 two.a.i, Value.int .i64 two.a.by_, Value.int .i64 two.b.what, Value.int .i64 two.b.i, Value.int .i64 two.b.by_] 46 (fun _ => by kernel_rfl) hW ?_); clear hA ac hW; intro b1 w2 hW hb1 hfw2 ac hA
  refine st_rd (v := Value.bool false) hA (by kernel_rfl) (by kernel_rfl) (by kernel_rfl) hW.cls (Rd.pure fun _ => by kernel_rfl) ?_; clear hA ac; intro ac hA
  refine wpList_nil ?_
  refine thenN ?_
  refine wp_seq ?_
  refine wp_seq ?_
  refine wp_region_lit ?_
  refine st_rd (v := Value.int .i64 many) hA (by kernel_rfl) (by kernel_rfl) (by kernel_rfl) hW.cls (Rd.pure fun _ => by kernel_rfl) ?_; clear hA ac; intro ac hA
  refine st_rd (v := Value.bool (decide ((many : Int) < (0 : Int)))) hA (by kernel_rfl) (by kernel_rfl) (by kernel_rfl) hW.cls (Rd.pure fun _ => by kernel_rfl) ?_; clear hA ac; intro ac hA
  refine st_rd (v := Value.bool (decide ((many : Int) < (0 : Int)))) hA (by kernel_rfl) (by kernel_rfl) (by kernel_rfl) hW.cls (Rd.pure fun _ => by kernel_rfl) ?_; clear hA ac; intro ac hA
  rcases Bool.eq_false_or_eq_true (decide ((many : Int) < (0 : Int))) with h3 | h3
  · skip
    rw [h3] at hA
    have h3 := of_decide_eq_true h3
    first
    | (exfalso; clear hA hW; omega)
    | (exfalso; clear hA hW; have q_ := of_decide_eq_true (Bool.and_eq_true_iff.1 h3).1; omega; done)
    | (
        refine st_skip hA (by kernel_rfl) (by kernel_rfl) ?_; clear hA ac; intro ac hA
        refine st_skip hA (by kernel_rfl) (by kernel_rfl) ?_; clear hA ac; intro ac hA
        refine st_rd (v := Value.bool true) hA (by kernel_rfl) (by kernel_rfl) (by kernel_rfl) hW.cls (Rd.pure fun _ => by kernel_rfl) ?_; clear hA ac; intro ac hA
        refine st_rd (v := Value.bool true) hA (by kernel_rfl) (by kernel_rfl) (by kernel_rfl) hW.cls (Rd.pure fun _ => by kernel_rfl) ?_; clear hA ac; intro ac hA
        refine st_skip hA (by kernel_rfl) (by kernel_rfl) ?_; clear hA ac; intro ac hA
        refine st_skip hA (by kernel_rfl) (by kernel_rfl) ?_; clear hA ac; intro ac hA
        refine st_skip hA (by kernel_rfl) (by kernel_rfl) ?_; clear hA ac; intro ac hA
        refine st_rd (v := Value.bool true) hA (by kernel_rfl) (by kernel_rfl) (by kernel_rfl) hW.cls (Rd.pure fun _ => by kernel_rfl) ?_; clear hA ac; intro ac hA
        refine wpList_nil ?_
        refine thenN ?_
        refine wp_cond_true (hA.eval (by kernel_rfl)) ?_
        refine wp_seq ?_
        refine wp_region_lit ?_
        refine st hA (by kernel_rfl) (by kernel_rfl) (by kernel_rfl) (Runs.callN (v := Value.bool true) (fun _ => by kernel_rfl) hW (e_works13 w2) ?_); clear hA ac hW; intro w4 hW hfw4 ac hA
        refine st_rd (v := Value.bool true) hA (by kernel_rfl) (by kernel_rfl) (by kernel_rfl) hW.cls (Rd.pure fun _ => by kernel_rfl) ?_; clear hA ac; intro ac hA
        refine wpList_nil ?_
        refine thenN ?_
        refine wp_ret ?_
        refine thenR ?_
        refine ret1 (v := Value.bool true) (by rfl) hA (Got.tmp hA (by kernel_rfl) (by kernel_rfl)) ?_
        clear hA
        exact ⟨retv (by rfl), hW.fr⟩)
  · skip
    rw [h3] at hA
    have h3 := of_decide_eq_false h3
    first
    | (exfalso; clear hA hW; omega)
    | (exfalso; clear hA hW; have q_ := of_decide_eq_true (Bool.and_eq_true_iff.1 h3).1; omega; done)
    | (
        refine st_rd (v := Value.int .i64 many) hA (by kernel_rfl) (by kernel_rfl) (by kernel_rfl) hW.cls (Rd.pure fun _ => by kernel_rfl) ?_; clear hA ac; intro ac hA
        refine st_rd (v := Value.bool (decide ((many : Int) > (64 : Int)))) hA (by kernel_rfl) (by kernel_rfl) (by kernel_rfl) hW.cls (Rd.pure fun _ => by kernel_rfl) ?_; clear hA ac; intro ac hA
        refine st_rd (v := Value.bool (decide ((many : Int) > (64 : Int)))) hA (by kernel_rfl) (by kernel_rfl) (by kernel_rfl) hW.cls (Rd.pure fun _ => by kernel_rfl) ?_; clear hA ac; intro ac hA
        refine st_rd (v := Value.bool (decide ((many : Int) > (64 : Int)))) hA (by kernel_rfl) (by kernel_rfl) (by kernel_rfl) hW.cls (Rd.pure fun _ => by kernel_rfl) ?_; clear hA ac; intro ac hA
        rcases Bool.eq_false_or_eq_true (decide ((many : Int) > (64 : Int))) with h5 | h5
        · skip
          rw [h5] at hA
          have h5 := of_decide_eq_true h5
          first
          | (exfalso; clear hA hW; omega)
          | (exfalso; clear hA hW; have q_ := of_decide_eq_true (Bool.and_eq_true_iff.1 h5).1; omega; done)
          | (
              refine st_skip hA (by kernel_rfl) (by kernel_rfl) ?_; clear hA ac; intro ac hA
              refine st_skip hA (by kernel_rfl) (by kernel_rfl) ?_; clear hA ac; intro ac hA
              refine st_skip hA (by kernel_rfl) (by kernel_rfl) ?_; clear hA ac; intro ac hA
              refine st_rd (v := Value.bool true) hA (by kernel_rfl) (by kernel_rfl) (by kernel_rfl) hW.cls (Rd.pure fun _ => by kernel_rfl) ?_; clear hA ac; intro ac hA
              refine wpList_nil ?_
              refine thenN ?_
              refine wp_cond_true (hA.eval (by kernel_rfl)) ?_
              refine wp_seq ?_
              refine wp_region_lit ?_
              refine st hA (by kernel_rfl) (by kernel_rfl) (by kernel_rfl) (Runs.callN (v := Value.bool true) (fun _ => by kernel_rfl) hW (e_works13 w2) ?_); clear hA ac hW; intro w6 hW hfw6 ac hA
              refine st_rd (v := Value.bool true) hA (by kernel_rfl) (by kernel_rfl) (by kernel_rfl) hW.cls (Rd.pure fun _ => by kernel_rfl) ?_; clear hA ac; intro ac hA
              refine wpList_nil ?_
              refine thenN ?_
              refine wp_ret ?_
              refine thenR ?_
              refine ret1 (v := Value.bool true) (by rfl) hA (Got.tmp hA (by kernel_rfl) (by kernel_rfl)) ?_
              clear hA
              exact ⟨retv (by rfl), hW.fr⟩)
        · skip
          rw [h5] at hA
          have h5 := of_decide_eq_false h5
          first
          | (exfalso; clear hA hW; omega)
          | (exfalso; clear hA hW; have q_ := of_decide_eq_true (Bool.and_eq_true_iff.1 h5).1; omega; done)
          | (
              refine st_rd (v := Value.slice A_l l.length c_l) hA (by kernel_rfl) (by kernel_rfl) (by kernel_rfl) hW.cls (Rd.pure fun _ => by kernel_rfl) ?_; clear hA ac; intro ac hA
              refine st_rd (v := Value.int .i64 ((l.length : Nat) : Int)) hA (by kernel_rfl) (by kernel_rfl) (by kernel_rfl) hW.cls (Rd.pure fun _ => by kernel_rfl) ?_; clear hA ac; intro ac hA
              refine st_rd (v := Value.bool (decide ((((l.length : Nat) : Int) : Int) > (30 : Int)))) hA (by kernel_rfl) (by kernel_rfl) (by kernel_rfl) hW.cls (Rd.pure fun _ => by kernel_rfl) ?_; clear hA ac; intro ac hA
              refine st_rd (v := Value.bool (decide ((((l.length : Nat) : Int) : Int) > (30 : Int)))) hA (by kernel_rfl) (by kernel_rfl) (by kernel_rfl) hW.cls (Rd.pure fun _ => by kernel_rfl) ?_; clear hA ac; intro ac hA
              refine wpList_nil ?_
              refine thenN ?_
              refine wp_cond_split (t := decide ((((l.length : Nat) : Int) : Int) > (30 : Int))) (hA.eval (by kernel_rfl)) (fun h7 => ?_) (fun h7 => ?_)
              · skip
                have h7 := of_decide_eq_true h7
                first
                | (exfalso; clear hA hW; omega)
                | (exfalso; clear hA hW; have q_ := of_decide_eq_true (Bool.and_eq_true_iff.1 h7).1; omega; done)
                | (
                    refine wp_seq ?_
                    refine wp_region_lit ?_
                    refine st hA (by kernel_rfl) (by kernel_rfl) (by kernel_rfl) (Runs.callN (v := Value.bool true) (fun _ => by kernel_rfl) hW (e_works13 w2) ?_); clear hA ac hW; intro w8 hW hfw8 ac hA
                    refine st_rd (v := Value.bool true) hA (by kernel_rfl) (by kernel_rfl) (by kernel_rfl) hW.cls (Rd.pure fun _ => by kernel_rfl) ?_; clear hA ac; intro ac hA
                    refine wpList_nil ?_
                    refine thenN ?_
                    refine wp_ret ?_
                    refine thenR ?_
                    refine ret1 (v := Value.bool true) (by rfl) hA (Got.tmp hA (by kernel_rfl) (by kernel_rfl)) ?_
                    clear hA
                    exact ⟨retv (by rfl), hW.fr⟩)
              · skip
                have h7 := of_decide_eq_false h7
                first
                | (exfalso; clear hA hW; omega)
                | (exfalso; clear hA hW; have q_ := of_decide_eq_true (Bool.and_eq_true_iff.1 h7).1; omega; done)
                | (
                    refine wp_skip ?_
                    refine thenN ?_
                    refine wp_seq ?_
                    refine wp_region_lit ?_
                    refine st_rd (v := Value.int .i64 many) hA (by kernel_rfl) (by kernel_rfl) (by kernel_rfl) hW.cls (Rd.pure fun _ => by kernel_rfl) ?_; clear hA ac; intro ac hA
                    refine st hA (by kernel_rfl) (by kernel_rfl) (by kernel_rfl) (Runs.call (fun _ => by kernel_rfl) (e_newY (many) w2 (by first | omega | assumption | exact hR.bound | (simp; omega) | simp)) ?_)
                    rintro _ w9 ⟨n10, n11, rfl, hu_⟩; refine ⟨_, rfl, ?_⟩; replace hW := hW.made hu_; clear hA ac; intro ac hA
                    refine st_rd (v := Value.tuple #[Value.pointer (some ⟨n10, 0, none⟩), Value.int .i64 0]) hA (by kernel_rfl) (by kernel_rfl) (by kernel_rfl) hW.cls (Rd.pure fun _ => by kernel_rfl) ?_; clear hA ac; intro ac hA
                    refine st_rd (v := Value.pointer (some ⟨n10, 0, none⟩)) hA (by kernel_rfl) (by kernel_rfl) (by kernel_rfl) hW.cls (Rd.pure fun _ => by kernel_rfl) ?_; clear hA ac; intro ac hA
                    refine st_rd (v := Value.int .i64 0) hA (by kernel_rfl) (by kernel_rfl) (by kernel_rfl) hW.cls (Rd.pure fun _ => by kernel_rfl) ?_; clear hA ac; intro ac hA
                    refine st_rd (v := Value.pointer (some ⟨n10, 0, none⟩)) hA (by kernel_rfl) (by kernel_rfl) (by kernel_rfl) hW.cls (Rd.pure fun _ => by kernel_rfl) ?_; clear hA ac; intro ac hA
                    refine st_rd (v := Value.int .i64 0) hA (by kernel_rfl) (by kernel_rfl) (by kernel_rfl) hW.cls (Rd.pure fun _ => by kernel_rfl) ?_; clear hA ac; intro ac hA
                    refine wpList_nil ?_
                    refine thenN ?_
                    refine wp_seq ?_
                    refine wp_region_lit ?_
                    refine st_rd (v := Value.int .i64 many) hA (by kernel_rfl) (by kernel_rfl) (by kernel_rfl) hW.cls (Rd.pure fun _ => by kernel_rfl) ?_; clear hA ac; intro ac hA
                    refine st hA (by kernel_rfl) (by kernel_rfl) (by kernel_rfl) (Runs.call (fun _ => by kernel_rfl) (e_rnewY (many) w9 (by first | omega | assumption | exact hR.bound | (simp; omega) | simp)) ?_)
                    rintro _ w12 ⟨Ao13, co14, rfl, hcco14, hfco14, hfw12⟩; refine ⟨_, rfl, ?_⟩; have hW0 := hW; have hW := hW0.call hfw12
                    have hW := hW0.addFromAt hW hfco14 in_nil
                    clear hW0 hA ac; intro ac hA
                    refine st_rd (v := Value.tuple #[Value.agg #[Value.slice Ao13 (List.replicate (Int.toNat ((many))) (0 : Int)).length co14], Value.int .i64 0]) hA (by kernel_rfl) (by kernel_rfl) (by kernel_rfl) hW.cls (Rd.pure fun _ => by kernel_rfl) ?_; clear hA ac; intro ac hA
                    refine st_rd (v := Value.agg #[Value.slice Ao13 (List.replicate (Int.toNat ((many))) (0 : Int)).length co14]) hA (by kernel_rfl) (by kernel_rfl) (by kernel_rfl) hW.cls (Rd.pure fun _ => by kernel_rfl) ?_; clear hA ac; intro ac hA
                    refine st_rd (v := Value.int .i64 0) hA (by kernel_rfl) (by kernel_rfl) (by kernel_rfl) hW.cls (Rd.pure fun _ => by kernel_rfl) ?_; clear hA ac; intro ac hA
                    refine st hA (by kernel_rfl) (by kernel_rfl) (by kernel_rfl) (Runs.cells (fun b => Value.pointer (some ⟨b, 0, none⟩)) #[Value.slice none 0 0] 40 (fun _ => by kernel_rfl) hW ?_); clear hA ac hW; intro b15 w16 hW hb15 hfw16 ac hA
                    refine st hA (by kernel_rfl) (by kernel_rfl) (by kernel_rfl) (Runs.store (v := Value.agg #[Value.slice Ao13 (List.replicate (Int.toNat ((many))) (0 : Int)).length co14]) (b := b15) (j := 0) (n := 1) (cs' := #[Value.slice Ao13 (List.replicate (Int.toNat ((many))) (0 : Int)).length co14]) (H' := [Cel b15 #[Value.slice Ao13 (List.replicate (Int.toNat ((many))) (0 : Int)).length co14] 40, MutR n10 n11 ([]) (many), Cel b1 #[Value.int .i64 two.a.what, Value.int .i64 two.a.i, Value.int .i64 two.a.by_, Value.int .i64 two.b.what, Value.int .i64 two.b.i, Value.int .i64 two.b.by_] 46]) (by kernel_rfl) (by kernel_rfl) (by kernel_rfl) (by kernel_rfl) (by kernel_rfl) hW 0 (by rfl) (Nat.le_of_ble_eq_true (by kernel_rfl)) (by kernel_rfl) (by rfl) ?_); clear hA ac hW; intro w17 hW ac hA
                    refine st_rd (v := Value.int .i64 0) hA (by kernel_rfl) (by kernel_rfl) (by kernel_rfl) hW.cls (Rd.pure fun _ => by kernel_rfl) ?_; clear hA ac; intro ac hA
                    refine wpList_nil ?_
                    refine thenN ?_
                    refine wp_seq ?_
                    refine wp_seq ?_
                    refine wp_region_lit ?_
                    refine st_rd (v := Value.int .i64 0) hA (by kernel_rfl) (by kernel_rfl) (by kernel_rfl) hW.cls (Rd.pure fun _ => by kernel_rfl) ?_; clear hA ac; intro ac hA
                    refine wpList_nil ?_
                    refine thenN ?_
                    refine wp_block ?_
                    refine wp_loop_m (fun m_ ac_ wl_ => ∃ k : Nat, ∃ m : Nat, ∃ b : Nat, ∃ h : List (Int × Int), ∃ L : List Int, ∃ A : Option Addr, ∃ c : Nat, m_ = l.length - k ∧ (k ≤ l.length) ∧ (Rel13 L h many) ∧ (L.length ≤ c) ∧ Fm 134 [] [(0, Value.int .i64 many), (1, Value.slice A_l l.length c_l), (5, Value.pointer (some ⟨b1, 0, none⟩)), (7, Value.pointer (some ⟨m, 0, none⟩)), (8, Value.int .i64 0), (9, Value.pointer (some ⟨b15, 0, none⟩)), (11, Value.int .i64 ((k : Nat) : Int))] ac_ ∧ Ws w No [Cel b15 #[Value.slice A L.length c] 40, MutR m b h many, Cel b1 #[Value.int .i64 two.a.what, Value.int .i64 two.a.i, Value.int .i64 two.a.by_, Value.int .i64 two.b.what, Value.int .i64 two.b.i, Value.int .i64 two.b.by_] 46] [roR A 1 enI L, roR A_l 3 enAct13 l] wl_) _ ⟨0, n10, n11, [], List.replicate (Int.toNat ((many))) (0 : Int), Ao13, co14, rfl, by omega, by exact Rel13.start (by omega) (by omega), by exact hcco14, hA.sub ⟨⟨by kernel_rfl, by kernel_rfl⟩, ⟨by kernel_rfl, by kernel_rfl⟩, ⟨by kernel_rfl, by kernel_rfl⟩, ⟨by kernel_rfl, by kernel_rfl⟩, ⟨by kernel_rfl, by kernel_rfl⟩, ⟨by kernel_rfl, by kernel_rfl⟩, ⟨by kernel_rfl, by kernel_rfl⟩, trivial⟩, (hW.pick [0, 1, 2] (by decide) rfl).pickG [0, 1] rfl⟩ ?_
                    clear hA ac hW; rintro m_ ac w18 ⟨k, m, b, h, L, A, c, rfl, hk, hR, hcc, hA, hW⟩
                    have hs1 := hR.small; have hs2 := hR.len64
                    refine wp_seq ?_
                    refine wp_seq ?_
                    refine wp_region_lit ?_
                    refine st_rd (v := Value.int .i64 ((k : Nat) : Int)) hA (by kernel_rfl) (by kernel_rfl) (by kernel_rfl) hW.cls (Rd.pure fun _ => by kernel_rfl) ?_; clear hA ac; intro ac hA
                    refine st_rd (v := Value.slice A_l l.length c_l) hA (by kernel_rfl) (by kernel_rfl) (by kernel_rfl) hW.cls (Rd.pure fun _ => by kernel_rfl) ?_; clear hA ac; intro ac hA
                    refine st_rd (v := Value.int .i64 ((l.length : Nat) : Int)) hA (by kernel_rfl) (by kernel_rfl) (by kernel_rfl) hW.cls (Rd.pure fun _ => by kernel_rfl) ?_; clear hA ac; intro ac hA
                    refine st_rd (v := Value.bool (decide ((((k : Nat) : Int) : Int) < (((l.length : Nat) : Int) : Int)))) hA (by kernel_rfl) (by kernel_rfl) (by kernel_rfl) hW.cls (Rd.pure fun _ => by kernel_rfl) ?_; clear hA ac; intro ac hA
                    refine wpList_nil ?_
                    refine thenN ?_
                    refine wp_cond_split (t := decide ((((k : Nat) : Int) : Int) < (((l.length : Nat) : Int) : Int))) (hA.eval (by kernel_rfl)) (fun h19 => ?_) (fun h19 => ?_)
                    · skip
                      have h19 := of_decide_eq_true h19
                      first
                      | (exfalso; clear hA hW; omega)
                      | (exfalso; clear hA hW; have q_ := of_decide_eq_true (Bool.and_eq_true_iff.1 h19).1; omega; done)
                      | (
                          refine wp_skip ?_
                          refine thenN ?_
                          refine wp_seq ?_
                          refine wp_block ?_
                          obtain ⟨y20, hy20⟩ : ∃ y, l[k]? = some y := ⟨_, List.getElem?_eq_getElem (by omega)⟩
                          obtain ⟨b21, o22, rfl, hbb21⟩ := row_some ((hW).getG 1 rfl) hy20
                          refine wp_cut (fun ac_ wl_ => ∃ Aor8_6 : Option Addr, ∃ cor8_6 : Nat, ∃ g0r8_6 : Nat, ∃ g1r8_6 : Nat, ∃ g2r8_6 : List (Int × Int), ∃ g3r8_6 : List Int, ((g3r8_6).length ≤ cor8_6) ∧ (Rel13 g3r8_6 g2r8_6 many) ∧ Fm 134 [] [(0, Value.int .i64 many), (1, Value.slice (some ⟨b21, o22, none⟩) l.length c_l), (5, Value.pointer (some ⟨b1, 0, none⟩)), (7, Value.pointer (some ⟨g0r8_6, 0, none⟩)), (8, Value.int .i64 0), (9, Value.pointer (some ⟨b15, 0, none⟩)), (11, Value.int .i64 ((k : Nat) : Int)), (42, Value.int .i64 ((k : Nat) : Int)), (43, Value.slice (some ⟨b21, o22, none⟩) l.length c_l), (44, Value.int .i64 ((l.length : Nat) : Int)), (45, Value.bool (decide ((((k : Nat) : Int) : Int) < (((l.length : Nat) : Int) : Int))))] ac_ ∧ Ws w No [Cel b15 #[Value.slice Aor8_6 (g3r8_6).length cor8_6] 40, MutR g0r8_6 g1r8_6 g2r8_6 many, Cel b1 #[Value.int .i64 two.a.what, Value.int .i64 two.a.i, Value.int .i64 two.a.by_, Value.int .i64 two.b.what, Value.int .i64 two.b.i, Value.int .i64 two.b.by_] 46] [roR Aor8_6 1 enI g3r8_6, roR A 1 enI L, roR (some ⟨b21, o22, none⟩) 3 enAct13 l] wl_) ?_ ?_
                          · refine sr_region (m := 13) (C := Ws w No [Cel b15 #[Value.slice A L.length c] 40, Cel b1 #[Value.int .i64 two.a.what, Value.int .i64 two.a.i, Value.int .i64 two.a.by_, Value.int .i64 two.b.what, Value.int .i64 two.b.i, Value.int .i64 two.b.by_] 46] [roR A 1 enI L, roR (some ⟨b21, o22, none⟩) 3 enAct13 l]) (fun i => [1, 5].contains i) (fun i => [1, 5].contains i) (fun i => [0, 2, 3, 4, 7, 8, 9, 10, 11].contains i) (by kernel_rfl) (by kernel_rfl) (by kernel_rfl) (by kernel_rfl) hW ?_; clear hW; intro w23 hW hfw23 hR; have hC : Ws w No [Cel b15 #[Value.slice A L.length c] 40, Cel b1 #[Value.int .i64 two.a.what, Value.int .i64 two.a.i, Value.int .i64 two.a.by_, Value.int .i64 two.b.what, Value.int .i64 two.b.i, Value.int .i64 two.b.by_] 46] [roR A 1 enI L, roR (some ⟨b21, o22, none⟩) 3 enAct13 l] w23 := hW.pick [0, 2] (by decide) rfl
                            refine sr_pure (i := 0) (v := Value.pointer (some ⟨m, 0, none⟩)) hR (by kernel_rfl) rfl (by kernel_rfl) (by kernel_rfl) (fun _ _ _ h => h.elim) hA (by kernel_rfl) (by kernel_rfl) (by kernel_rfl) (Rd.pure fun _ => by kernel_rfl) ?_; clear hA ac; intro ac hA
                            refine sr_take (i := 1) (v := Value.agg #[Value.slice A L.length c]) hR (by kernel_rfl) rfl (by kernel_rfl) (by kernel_rfl) (by kernel_rfl) (fun _ _ _ h => h.elim) hA (by kernel_rfl) (by kernel_rfl) (by kernel_rfl) hC (Rd.load (b := b15) (i := 0) (by kernel_rfl) (fun _ hw => (hw).cel 0 rfl) (by kernel_rfl)) ?_; clear hA ac; intro ac hA
                            refine sr_pure (i := 2) (v := Value.slice (some ⟨b21, o22, none⟩) l.length c_l) hR (by kernel_rfl) rfl (by kernel_rfl) (by kernel_rfl) (fun _ _ _ h => h.elim) hA (by kernel_rfl) (by kernel_rfl) (by kernel_rfl) (Rd.pure fun _ => by kernel_rfl) ?_; clear hA ac; intro ac hA
                            refine sr_pure (i := 3) (v := Value.int .i64 ((k : Nat) : Int)) hR (by kernel_rfl) rfl (by kernel_rfl) (by kernel_rfl) (fun _ _ _ h => h.elim) hA (by kernel_rfl) (by kernel_rfl) (by kernel_rfl) (Rd.pure fun _ => by kernel_rfl) ?_; clear hA ac; intro ac hA
                            refine sr_pure (i := 4) (v := Value.pointer (some ⟨b21, o22 + k * 3, none⟩)) hR (by kernel_rfl) rfl (by kernel_rfl) (by kernel_rfl) (fun _ _ _ h => h.elim) hA (by kernel_rfl) (by kernel_rfl) (by kernel_rfl) (Rd.indexAddr (e := 30) (sz := 3) (b := b21) (off := o22) (n := l.length) (c := c_l) (k := k) (by kernel_rfl) (by kernel_rfl) (by first | omega | (simp; done) | (simp; omega)) (fun _ => by kernel_rfl) (fun _ => by kernel_rfl)) ?_; clear hA ac; intro ac hA
                            refine sr_take (i := 5) (v := Value.agg #[Value.int .i64 y20.what, Value.int .i64 y20.i, Value.int .i64 y20.by_]) hR (by kernel_rfl) rfl (by kernel_rfl) (by kernel_rfl) (by kernel_rfl) (fun _ _ _ h => h.elim) hA (by kernel_rfl) (by kernel_rfl) (by kernel_rfl) hC (Rd.loadRow (b := b21) (i := o22 + k * 3) (xs := [Value.int .i64 y20.what, Value.int .i64 y20.i, Value.int .i64 y20.by_]) (by kernel_rfl) (fun _ hw => row_ld ((hw).getG 1 rfl) hy20 (Fr.refl No _) (fun h => h) 0 3 (by kernel_rfl)) (by kernel_rfl)) ?_; clear hA ac; intro ac hA
                            refine sr_one (i := 6) (by kernel_rfl) (sr_do rfl hA (by kernel_rfl) (by kernel_rfl) (by kernel_rfl) (Runs.call (fun _ => by kernel_rfl) (e_act m b h many A c L y20 w23 ((hW).get 1 rfl) ((hW).lt _ (List.mem_of_getElem? (i := 1) rfl)) ((hW).getG 0 rfl) (by first | assumption | omega | (simp; omega) | simp) ((hW).gd _ (List.mem_of_getElem? (i := 0) rfl) _ (List.mem_of_getElem? (i := 1) rfl)) (by first | omega | assumption | exact hR.bound | (simp; omega) | simp) (by first | omega | assumption | exact hR.bound | (simp; omega) | simp)) ?_))
                            rintro _ w24 ⟨g0r8_6, g1r8_6, g2r8_6, g3r8_6, Aor8_6, cor8_6, rfl, hr8_6_hR, hccor8_6, hfcor8_6, hdcor8_6, hu_⟩; refine ⟨_, rfl, ?_⟩; have hW0 := hW; have hW := hW.upd (H' := [Cel b15 #[Value.slice A L.length c] 40, MutR g0r8_6 g1r8_6 g2r8_6 many, Cel b1 #[Value.int .i64 two.a.what, Value.int .i64 two.a.i, Value.int .i64 two.a.by_, Value.int .i64 two.b.what, Value.int .i64 two.b.i, Value.int .i64 two.b.by_] 46]) 1 rfl hu_ rfl
                            have hW := hW0.addFromU hW 1 rfl rfl hfcor8_6 (in_cons (in_at 0 rfl) in_nil) hdcor8_6
                            clear hW0 hu_ hfcor8_6 hdcor8_6 hA ac; intro ac hA
                            refine ⟨⟨fun h => absurd h (by decide), fun h => absurd h (by decide)⟩, ?_⟩
                            refine sr_pure (i := 7) (v := Value.tuple #[Value.pointer (some ⟨g0r8_6, 0, none⟩), Value.agg #[Value.slice Aor8_6 (g3r8_6).length cor8_6], Value.bool true]) hR (by kernel_rfl) rfl (by kernel_rfl) (by kernel_rfl) (fun _ _ _ h => h.elim) hA (by kernel_rfl) (by kernel_rfl) (by kernel_rfl) (Rd.pure fun _ => by kernel_rfl) ?_; clear hA ac; intro ac hA
                            refine sr_pure (i := 8) (v := Value.pointer (some ⟨g0r8_6, 0, none⟩)) hR (by kernel_rfl) rfl (by kernel_rfl) (by kernel_rfl) (fun _ _ _ h => h.elim) hA (by kernel_rfl) (by kernel_rfl) (by kernel_rfl) (Rd.pure fun _ => by kernel_rfl) ?_; clear hA ac; intro ac hA
                            refine sr_pure (i := 9) (v := Value.agg #[Value.slice Aor8_6 (g3r8_6).length cor8_6]) hR (by kernel_rfl) rfl (by kernel_rfl) (by kernel_rfl) (fun _ _ _ h => h.elim) hA (by kernel_rfl) (by kernel_rfl) (by kernel_rfl) (Rd.pure fun _ => by kernel_rfl) ?_; clear hA ac; intro ac hA
                            refine sr_pure (i := 10) (v := Value.bool true) hR (by kernel_rfl) rfl (by kernel_rfl) (by kernel_rfl) (fun _ _ _ h => h.elim) hA (by kernel_rfl) (by kernel_rfl) (by kernel_rfl) (Rd.pure fun _ => by kernel_rfl) ?_; clear hA ac; intro ac hA
                            refine sr_pure (i := 11) (v := Value.pointer (some ⟨g0r8_6, 0, none⟩)) hR (by kernel_rfl) rfl (by kernel_rfl) (by kernel_rfl) (fun _ _ _ h => h.elim) hA (by kernel_rfl) (by kernel_rfl) (by kernel_rfl) (Rd.pure fun _ => by kernel_rfl) ?_; clear hA ac; intro ac hA
                            refine sr_one (i := 12) (by kernel_rfl) (sr_do rfl hA (by kernel_rfl) (by kernel_rfl) (by kernel_rfl) (Runs.store (v := Value.agg #[Value.slice Aor8_6 (g3r8_6).length cor8_6]) (b := b15) (j := 0) (n := 1) (cs' := #[Value.slice Aor8_6 (g3r8_6).length cor8_6]) (H' := [Cel b15 #[Value.slice Aor8_6 (g3r8_6).length cor8_6] 40, MutR g0r8_6 g1r8_6 g2r8_6 many, Cel b1 #[Value.int .i64 two.a.what, Value.int .i64 two.a.i, Value.int .i64 two.a.by_, Value.int .i64 two.b.what, Value.int .i64 two.b.i, Value.int .i64 two.b.by_] 46]) (by kernel_rfl) (by kernel_rfl) (by kernel_rfl) (by kernel_rfl) (by kernel_rfl) hW 0 (by rfl) (Nat.le_of_ble_eq_true (by kernel_rfl)) (by kernel_rfl) (by rfl) ?_)); clear hA ac hW; intro w25 hW ac hA
                            refine ⟨⟨fun h => absurd h (by decide), fun h => absurd h (by decide)⟩, ?_⟩
                            refine sr_done (by kernel_rfl) ?_ _
                            exact ⟨Aor8_6, cor8_6, g0r8_6, g1r8_6, g2r8_6, g3r8_6, hccor8_6, hr8_6_hR, hA.sub ⟨⟨by kernel_rfl, by kernel_rfl⟩, ⟨by kernel_rfl, by kernel_rfl⟩, ⟨by kernel_rfl, by kernel_rfl⟩, ⟨by kernel_rfl, by kernel_rfl⟩, ⟨by kernel_rfl, by kernel_rfl⟩, ⟨by kernel_rfl, by kernel_rfl⟩, ⟨by kernel_rfl, by kernel_rfl⟩, ⟨by kernel_rfl, by kernel_rfl⟩, ⟨by kernel_rfl, by kernel_rfl⟩, ⟨by kernel_rfl, by kernel_rfl⟩, ⟨by kernel_rfl, by kernel_rfl⟩, trivial⟩, (hW.pick [0, 1, 2] (by decide) rfl).pickG [0, 1, 2] rfl⟩
                          clear hA ac hW; rintro ac w26 ⟨Aor8_6, cor8_6, g0r8_6, g1r8_6, g2r8_6, g3r8_6, hccor8_6, hr8_6_hR, hA, hW⟩
                          refine blkN ?_
                          refine thenN ?_
                          refine wp_region_lit ?_
                          refine st_rd (v := Value.int .i64 ((k : Nat) : Int)) hA (by kernel_rfl) (by kernel_rfl) (by kernel_rfl) hW.cls (Rd.pure fun _ => by kernel_rfl) ?_; clear hA ac; intro ac hA
                          refine st_rd (v := Value.int .i64 ((k + 1 : Nat) : Int)) hA (by kernel_rfl) (by kernel_rfl) (by kernel_rfl) hW.cls (Rd.pureE (v0 := Value.int .i64 (IntKind.i64.wrap ((((k : Nat) : Int) : Int) + 1))) (fun _ => by kernel_rfl) (congrArg (Value.int .i64) ((w_i64 (x := (((k : Nat) : Int) : Int) + 1) (by omega) (by omega)).trans (by omega)))) ?_; clear hA ac; intro ac hA
                          refine st_rd (v := Value.int .i64 ((k + 1 : Nat) : Int)) hA (by kernel_rfl) (by kernel_rfl) (by kernel_rfl) hW.cls (Rd.pure fun _ => by kernel_rfl) ?_; clear hA ac; intro ac hA
                          refine wpList_nil ?_
                          refine thenN ?_
                          exact ⟨l.length - (k + 1), by omega, k + 1, g0r8_6, g1r8_6, g2r8_6, g3r8_6, Aor8_6, cor8_6, rfl, by omega, by exact hr8_6_hR, by exact hccor8_6, hA.sub ⟨⟨by kernel_rfl, by kernel_rfl⟩, ⟨by kernel_rfl, by kernel_rfl⟩, ⟨by kernel_rfl, by kernel_rfl⟩, ⟨by kernel_rfl, by kernel_rfl⟩, ⟨by kernel_rfl, by kernel_rfl⟩, ⟨by kernel_rfl, by kernel_rfl⟩, ⟨by kernel_rfl, by kernel_rfl⟩, trivial⟩, (hW.pick [0, 1, 2] (by decide) rfl).pickG [0, 2] rfl⟩)
                    · skip
                      have h19 := of_decide_eq_false h19
                      first
                      | (exfalso; clear hA hW; omega)
                      | (exfalso; clear hA hW; have q_ := of_decide_eq_true (Bool.and_eq_true_iff.1 h19).1; omega; done)
                      | (
                          refine wp_exit ?_
                          refine thenX ?_
                          refine thenX ?_
                          refine blkX ?_
                          refine thenN ?_
                          refine wp_seq ?_
                          refine wp_region_lit ?_
                          refine st_rd (v := Value.pointer (some ⟨m, 0, none⟩)) hA (by kernel_rfl) (by kernel_rfl) (by kernel_rfl) hW.cls (Rd.pure fun _ => by kernel_rfl) ?_; clear hA ac; intro ac hA
                          refine st hA (by kernel_rfl) (by kernel_rfl) (by kernel_rfl) (Runs.call (fun _ => by kernel_rfl) (e_copy m b h many w18 ((hW).get 1 rfl) ((hW).lt _ (List.mem_of_getElem? (i := 1) rfl))) ?_)
                          rintro _ w27 ⟨n28, n29, rfl, hu_⟩; refine ⟨_, rfl, ?_⟩; replace hW := hW.made hu_; clear hA ac; intro ac hA
                          refine st_rd (v := Value.pointer (some ⟨n28, 0, none⟩)) hA (by kernel_rfl) (by kernel_rfl) (by kernel_rfl) hW.cls (Rd.pure fun _ => by kernel_rfl) ?_; clear hA ac; intro ac hA
                          refine wpList_nil ?_
                          refine thenN ?_
                          refine wp_seq ?_
                          refine wp_region_lit ?_
                          refine st_rd (v := Value.pointer (some ⟨m, 0, none⟩)) hA (by kernel_rfl) (by kernel_rfl) (by kernel_rfl) hW.cls (Rd.pure fun _ => by kernel_rfl) ?_; clear hA ac; intro ac hA
                          refine st_rd (v := Value.agg #[Value.slice A L.length c]) hA (by kernel_rfl) (by kernel_rfl) (by kernel_rfl) hW.cls (Rd.load (b := b15) (i := 0) (by kernel_rfl) (fun _ hw => (hw.1).cel 1 rfl) (by kernel_rfl)) ?_; clear hA ac; intro ac hA
                          refine st_rd (v := Value.pointer (some ⟨b1, 0, none⟩)) hA (by kernel_rfl) (by kernel_rfl) (by kernel_rfl) hW.cls (Rd.pure fun _ => by kernel_rfl) ?_; clear hA ac; intro ac hA
                          refine st_rd (v := Value.agg #[Value.int .i64 two.a.what, Value.int .i64 two.a.i, Value.int .i64 two.a.by_]) hA (by kernel_rfl) (by kernel_rfl) (by kernel_rfl) hW.cls (Rd.load (b := b1) (i := 0) (by kernel_rfl) (fun _ hw => (hw.1).cel 3 rfl) (by kernel_rfl)) ?_; clear hA ac; intro ac hA
                          refine st hA (by kernel_rfl) (by kernel_rfl) (by kernel_rfl) (Runs.call (fun _ => by kernel_rfl) (e_act m b h many A c L two.a w27 ((hW).get 2 rfl) ((hW).lt _ (List.mem_of_getElem? (i := 2) rfl)) ((hW).getG 0 rfl) (by first | assumption | omega | (simp; omega) | simp) ((hW).gd _ (List.mem_of_getElem? (i := 0) rfl) _ (List.mem_of_getElem? (i := 2) rfl)) (by first | omega | assumption | exact hR.bound | (simp; omega) | simp) (by first | omega | assumption | exact hR.bound | (simp; omega) | simp)) ?_)
                          rintro _ w30 ⟨g31, g32, g33, g34, Ao35, co36, rfl, hw30_hR, hcco36, hfco36, hdco36, hu_⟩; refine ⟨_, rfl, ?_⟩; have hW0 := hW; have hW := hW.upd (H' := [MutR n28 n29 h many, Cel b15 #[Value.slice A L.length c] 40, MutR g31 g32 g33 many, Cel b1 #[Value.int .i64 two.a.what, Value.int .i64 two.a.i, Value.int .i64 two.a.by_, Value.int .i64 two.b.what, Value.int .i64 two.b.i, Value.int .i64 two.b.by_] 46]) 2 rfl hu_ rfl
                          have hW := hW0.addFromU hW 2 rfl rfl hfco36 (in_cons (in_at 0 rfl) in_nil) hdco36
                          clear hW0 hu_ hfco36 hdco36 hA ac; intro ac hA
                          refine st_rd (v := Value.tuple #[Value.pointer (some ⟨g31, 0, none⟩), Value.agg #[Value.slice Ao35 (g34).length co36], Value.bool true]) hA (by kernel_rfl) (by kernel_rfl) (by kernel_rfl) hW.cls (Rd.pure fun _ => by kernel_rfl) ?_; clear hA ac; intro ac hA
                          refine st_rd (v := Value.pointer (some ⟨g31, 0, none⟩)) hA (by kernel_rfl) (by kernel_rfl) (by kernel_rfl) hW.cls (Rd.pure fun _ => by kernel_rfl) ?_; clear hA ac; intro ac hA
                          refine st_rd (v := Value.agg #[Value.slice Ao35 (g34).length co36]) hA (by kernel_rfl) (by kernel_rfl) (by kernel_rfl) hW.cls (Rd.pure fun _ => by kernel_rfl) ?_; clear hA ac; intro ac hA
                          refine st_rd (v := Value.bool true) hA (by kernel_rfl) (by kernel_rfl) (by kernel_rfl) hW.cls (Rd.pure fun _ => by kernel_rfl) ?_; clear hA ac; intro ac hA
                          refine st hA (by kernel_rfl) (by kernel_rfl) (by kernel_rfl) (Runs.cells (fun b => Value.pointer (some ⟨b, 0, none⟩)) #[Value.slice none 0 0] 40 (fun _ => by kernel_rfl) hW ?_); clear hA ac hW; intro b37 w38 hW hb37 hfw38 ac hA
                          refine st_rd (v := Value.pointer (some ⟨g31, 0, none⟩)) hA (by kernel_rfl) (by kernel_rfl) (by kernel_rfl) hW.cls (Rd.pure fun _ => by kernel_rfl) ?_; clear hA ac; intro ac hA
                          refine st hA (by kernel_rfl) (by kernel_rfl) (by kernel_rfl) (Runs.store (v := Value.agg #[Value.slice Ao35 (g34).length co36]) (b := b37) (j := 0) (n := 1) (cs' := #[Value.slice Ao35 (g34).length co36]) (H' := [Cel b37 #[Value.slice Ao35 (g34).length co36] 40, MutR n28 n29 h many, Cel b15 #[Value.slice A L.length c] 40, MutR g31 g32 g33 many, Cel b1 #[Value.int .i64 two.a.what, Value.int .i64 two.a.i, Value.int .i64 two.a.by_, Value.int .i64 two.b.what, Value.int .i64 two.b.i, Value.int .i64 two.b.by_] 46]) (by kernel_rfl) (by kernel_rfl) (by kernel_rfl) (by kernel_rfl) (by kernel_rfl) hW 0 (by rfl) (Nat.le_of_ble_eq_true (by kernel_rfl)) (by kernel_rfl) (by rfl) ?_); clear hA ac hW; intro w39 hW ac hA
                          refine st_rd (v := Value.bool true) hA (by kernel_rfl) (by kernel_rfl) (by kernel_rfl) hW.cls (Rd.pure fun _ => by kernel_rfl) ?_; clear hA ac; intro ac hA
                          refine wpList_nil ?_
                          refine thenN ?_
                          refine wp_seq ?_
                          refine wp_region_lit ?_
                          refine st_rd (v := Value.pointer (some ⟨n28, 0, none⟩)) hA (by kernel_rfl) (by kernel_rfl) (by kernel_rfl) hW.cls (Rd.pure fun _ => by kernel_rfl) ?_; clear hA ac; intro ac hA
                          refine st_rd (v := Value.agg #[Value.slice A L.length c]) hA (by kernel_rfl) (by kernel_rfl) (by kernel_rfl) hW.cls (Rd.load (b := b15) (i := 0) (by kernel_rfl) (fun _ hw => (hw.1).cel 2 rfl) (by kernel_rfl)) ?_; clear hA ac; intro ac hA
                          refine st_rd (v := Value.pointer (some ⟨b1, 3, none⟩)) hA (by kernel_rfl) (by kernel_rfl) (by kernel_rfl) hW.cls (Rd.pure fun _ => by kernel_rfl) ?_; clear hA ac; intro ac hA
                          refine st_rd (v := Value.agg #[Value.int .i64 two.b.what, Value.int .i64 two.b.i, Value.int .i64 two.b.by_]) hA (by kernel_rfl) (by kernel_rfl) (by kernel_rfl) hW.cls (Rd.load (b := b1) (i := 3) (by kernel_rfl) (fun _ hw => (hw.1).cel 4 rfl) (by kernel_rfl)) ?_; clear hA ac; intro ac hA
                          refine st hA (by kernel_rfl) (by kernel_rfl) (by kernel_rfl) (Runs.call (fun _ => by kernel_rfl) (e_act n28 n29 h many A c L two.b w39 ((hW).get 1 rfl) ((hW).lt _ (List.mem_of_getElem? (i := 1) rfl)) ((hW).getG 1 rfl) (by first | assumption | omega | (simp; omega) | simp) ((hW).gd _ (List.mem_of_getElem? (i := 1) rfl) _ (List.mem_of_getElem? (i := 1) rfl)) (by first | omega | assumption | exact hR.bound | (simp; omega) | simp) (by first | omega | assumption | exact hR.bound | (simp; omega) | simp)) ?_)
                          rintro _ w40 ⟨g41, g42, g43, g44, Ao45, co46, rfl, hw40_hR, hcco46, hfco46, hdco46, hu_⟩; refine ⟨_, rfl, ?_⟩; have hW0 := hW; have hW := hW.upd (H' := [Cel b37 #[Value.slice Ao35 (g34).length co36] 40, MutR g41 g42 g43 many, Cel b15 #[Value.slice A L.length c] 40, MutR g31 g32 g33 many, Cel b1 #[Value.int .i64 two.a.what, Value.int .i64 two.a.i, Value.int .i64 two.a.by_, Value.int .i64 two.b.what, Value.int .i64 two.b.i, Value.int .i64 two.b.by_] 46]) 1 rfl hu_ rfl
                          have hW := hW0.addFromU hW 1 rfl rfl hfco46 (in_cons (in_at 1 rfl) in_nil) hdco46
                          clear hW0 hu_ hfco46 hdco46 hA ac; intro ac hA
                          refine st_rd (v := Value.tuple #[Value.pointer (some ⟨g41, 0, none⟩), Value.agg #[Value.slice Ao45 (g44).length co46], Value.bool true]) hA (by kernel_rfl) (by kernel_rfl) (by kernel_rfl) hW.cls (Rd.pure fun _ => by kernel_rfl) ?_; clear hA ac; intro ac hA
                          refine st_rd (v := Value.pointer (some ⟨g41, 0, none⟩)) hA (by kernel_rfl) (by kernel_rfl) (by kernel_rfl) hW.cls (Rd.pure fun _ => by kernel_rfl) ?_; clear hA ac; intro ac hA
                          refine st_rd (v := Value.agg #[Value.slice Ao45 (g44).length co46]) hA (by kernel_rfl) (by kernel_rfl) (by kernel_rfl) hW.cls (Rd.pure fun _ => by kernel_rfl) ?_; clear hA ac; intro ac hA
                          refine st_rd (v := Value.bool true) hA (by kernel_rfl) (by kernel_rfl) (by kernel_rfl) hW.cls (Rd.pure fun _ => by kernel_rfl) ?_; clear hA ac; intro ac hA
                          refine st hA (by kernel_rfl) (by kernel_rfl) (by kernel_rfl) (Runs.cells (fun b => Value.pointer (some ⟨b, 0, none⟩)) #[Value.slice none 0 0] 40 (fun _ => by kernel_rfl) hW ?_); clear hA ac hW; intro b47 w48 hW hb47 hfw48 ac hA
                          refine st_rd (v := Value.pointer (some ⟨g41, 0, none⟩)) hA (by kernel_rfl) (by kernel_rfl) (by kernel_rfl) hW.cls (Rd.pure fun _ => by kernel_rfl) ?_; clear hA ac; intro ac hA
                          refine st hA (by kernel_rfl) (by kernel_rfl) (by kernel_rfl) (Runs.store (v := Value.agg #[Value.slice Ao45 (g44).length co46]) (b := b47) (j := 0) (n := 1) (cs' := #[Value.slice Ao45 (g44).length co46]) (H' := [Cel b47 #[Value.slice Ao45 (g44).length co46] 40, Cel b37 #[Value.slice Ao35 (g34).length co36] 40, MutR g41 g42 g43 many, Cel b15 #[Value.slice A L.length c] 40, MutR g31 g32 g33 many, Cel b1 #[Value.int .i64 two.a.what, Value.int .i64 two.a.i, Value.int .i64 two.a.by_, Value.int .i64 two.b.what, Value.int .i64 two.b.i, Value.int .i64 two.b.by_] 46]) (by kernel_rfl) (by kernel_rfl) (by kernel_rfl) (by kernel_rfl) (by kernel_rfl) hW 0 (by rfl) (Nat.le_of_ble_eq_true (by kernel_rfl)) (by kernel_rfl) (by rfl) ?_); clear hA ac hW; intro w49 hW ac hA
                          refine st_rd (v := Value.bool true) hA (by kernel_rfl) (by kernel_rfl) (by kernel_rfl) hW.cls (Rd.pure fun _ => by kernel_rfl) ?_; clear hA ac; intro ac hA
                          refine wpList_nil ?_
                          refine thenN ?_
                          refine wp_seq ?_
                          have hs_hw30_hR := (hw30_hR).small; have ht_hw30_hR := (hw30_hR).len64
                          have hs_hw40_hR := (hw40_hR).small; have ht_hw40_hR := (hw40_hR).len64
                          refine wp_region_lit ?_
                          refine st_rd (v := Value.agg #[Value.slice Ao35 (g34).length co36]) hA (by kernel_rfl) (by kernel_rfl) (by kernel_rfl) hW.cls (Rd.load (b := b37) (i := 0) (by kernel_rfl) (fun _ hw => (hw.1).cel 1 rfl) (by kernel_rfl)) ?_; clear hA ac; intro ac hA
                          refine st_rd (v := Value.agg #[Value.slice Ao45 (g44).length co46]) hA (by kernel_rfl) (by kernel_rfl) (by kernel_rfl) hW.cls (Rd.load (b := b47) (i := 0) (by kernel_rfl) (fun _ hw => (hw.1).cel 0 rfl) (by kernel_rfl)) ?_; clear hA ac; intro ac hA
                          refine st hA (by kernel_rfl) (by kernel_rfl) (by kernel_rfl) (Runs.callN (v := Value.bool (decide (g34 = g44))) (fun _ => by kernel_rfl) hW (e_rsame Ao35 co36 g34 Ao45 co46 g44 w49 ((hW).getG 1 rfl) (by first | assumption | omega | (simp; omega) | simp) ((hW).getG 0 rfl) (by first | assumption | omega | (simp; omega) | simp) (by first | omega | assumption | exact hR.bound | (simp; omega) | simp)) ?_); clear hA ac hW; intro w50 hW hfw50 ac hA
                          refine st_rd (v := Value.bool (decide (g34 = g44))) hA (by kernel_rfl) (by kernel_rfl) (by kernel_rfl) hW.cls (Rd.pure fun _ => by kernel_rfl) ?_; clear hA ac; intro ac hA
                          refine wpList_nil ?_
                          refine thenN ?_
                          refine wp_seq ?_
                          refine wp_region_lit ?_
                          refine st_rd (v := Value.int .i64 many) hA (by kernel_rfl) (by kernel_rfl) (by kernel_rfl) hW.cls (Rd.pure fun _ => by kernel_rfl) ?_; clear hA ac; intro ac hA
                          refine st_rd (v := Value.int .i64 ((many : Int) + 1)) hA (by kernel_rfl) (by kernel_rfl) (by kernel_rfl) hW.cls (Rd.pureE (v0 := Value.int .i64 (IntKind.i64.wrap ((many : Int) + 1))) (fun _ => by kernel_rfl) (congrArg (Value.int .i64) ((w_i64 (x := (many : Int) + 1) (by omega) (by omega)).trans (by omega)))) ?_; clear hA ac; intro ac hA
                          refine st_rd (v := Value.int .i64 (((many : Int) + 1 : Int) % 65)) hA (by kernel_rfl) (by kernel_rfl) (by kernel_rfl) hW.cls (Rd.pureE (v0 := Value.int .i64 (Int.tmod ((many : Int) + 1 : Int) 65)) (fun _ => by kernel_rfl) (congrArg (Value.int .i64) (rem_ (x := (many : Int) + 1) (by omega)))) ?_; clear hA ac; intro ac hA
                          refine st hA (by kernel_rfl) (by kernel_rfl) (by kernel_rfl) (Runs.call (fun _ => by kernel_rfl) (e_newY (((many : Int) + 1 : Int) % 65) w50 (by first | omega | assumption | exact hR.bound | (simp; omega) | simp)) ?_)
                          rintro _ w51 ⟨n52, n53, rfl, hu_⟩; refine ⟨_, rfl, ?_⟩; replace hW := hW.made hu_; clear hA ac; intro ac hA
                          refine st_rd (v := Value.tuple #[Value.pointer (some ⟨n52, 0, none⟩), Value.int .i64 0]) hA (by kernel_rfl) (by kernel_rfl) (by kernel_rfl) hW.cls (Rd.pure fun _ => by kernel_rfl) ?_; clear hA ac; intro ac hA
                          refine st_rd (v := Value.pointer (some ⟨n52, 0, none⟩)) hA (by kernel_rfl) (by kernel_rfl) (by kernel_rfl) hW.cls (Rd.pure fun _ => by kernel_rfl) ?_; clear hA ac; intro ac hA
                          refine st_rd (v := Value.int .i64 0) hA (by kernel_rfl) (by kernel_rfl) (by kernel_rfl) hW.cls (Rd.pure fun _ => by kernel_rfl) ?_; clear hA ac; intro ac hA
                          refine st_rd (v := Value.pointer (some ⟨n52, 0, none⟩)) hA (by kernel_rfl) (by kernel_rfl) (by kernel_rfl) hW.cls (Rd.pure fun _ => by kernel_rfl) ?_; clear hA ac; intro ac hA
                          refine st_rd (v := Value.int .i64 0) hA (by kernel_rfl) (by kernel_rfl) (by kernel_rfl) hW.cls (Rd.pure fun _ => by kernel_rfl) ?_; clear hA ac; intro ac hA
                          refine wpList_nil ?_
                          refine thenN ?_
                          refine wp_seq ?_
                          refine wp_region_lit ?_
                          refine st_rd (v := Value.int .i64 0) hA (by kernel_rfl) (by kernel_rfl) (by kernel_rfl) hW.cls (Rd.pure fun _ => by kernel_rfl) ?_; clear hA ac; intro ac hA
                          refine st hA (by kernel_rfl) (by kernel_rfl) (by kernel_rfl) (Runs.callS (v := Value.int .i64 (0)) (fun _ => by kernel_rfl) (e_num13 (0) w51) ?_); clear hA ac; intro  ac hA
                          refine st_rd (v := Value.int .i64 0) hA (by kernel_rfl) (by kernel_rfl) (by kernel_rfl) hW.cls (Rd.pure fun _ => by kernel_rfl) ?_; clear hA ac; intro ac hA
                          refine st hA (by kernel_rfl) (by kernel_rfl) (by kernel_rfl) (Runs.callS (v := Value.int .i64 (0)) (fun _ => by kernel_rfl) (e_num13 (0) w51) ?_); clear hA ac; intro  ac hA
                          refine st_rd (v := Value.int .i64 (((0) : Int) + (0))) hA (by kernel_rfl) (by kernel_rfl) (by kernel_rfl) hW.cls (Rd.pureE (v0 := Value.int .i64 (IntKind.i64.wrap (((0) : Int) + (0)))) (fun _ => by kernel_rfl) (congrArg (Value.int .i64) ((w_i64 (x := ((0) : Int) + (0)) (by omega) (by omega)).trans (by omega)))) ?_; clear hA ac; intro ac hA
                          refine st_rd (v := Value.bool ((((0) : Int) + (0) : Int) == (0 : Int))) hA (by kernel_rfl) (by kernel_rfl) (by kernel_rfl) hW.cls (Rd.pure fun _ => by kernel_rfl) ?_; clear hA ac; intro ac hA
                          refine st_rd (v := Value.bool ((((0) : Int) + (0) : Int) == (0 : Int))) hA (by kernel_rfl) (by kernel_rfl) (by kernel_rfl) hW.cls (Rd.pure fun _ => by kernel_rfl) ?_; clear hA ac; intro ac hA
                          rcases Bool.eq_false_or_eq_true ((((0) : Int) + (0) : Int) == (0 : Int)) with h54 | h54
                          · skip
                            rw [h54] at hA
                            have h54 := eq_of_beq h54
                            first
                            | (exfalso; clear hA hW; omega)
                            | (exfalso; clear hA hW; exact absurd (same13 hw30_hR hw40_hR) h54; done)
                            | (exfalso; clear hA hW; exact absurd (same13' hw30_hR hw40_hR) h54; done)
                            | (exfalso; clear hA hW; exact absurd (same13 hw40_hR hw30_hR) h54; done)
                            | (exfalso; clear hA hW; exact absurd (same13' hw40_hR hw30_hR) h54; done)
                            | (exfalso; clear hA hW; have q_ := of_decide_eq_true (Bool.and_eq_true_iff.1 h54).1; omega; done)
                            | (
                                refine st_rd (v := Value.bool true) hA (by kernel_rfl) (by kernel_rfl) (by kernel_rfl) hW.cls (Rd.pure fun _ => by kernel_rfl) ?_; clear hA ac; intro ac hA
                                refine st_rd (v := Value.bool true) hA (by kernel_rfl) (by kernel_rfl) (by kernel_rfl) hW.cls (Rd.pure fun _ => by kernel_rfl) ?_; clear hA ac; intro ac hA
                                refine st_rd (v := Value.bool true) hA (by kernel_rfl) (by kernel_rfl) (by kernel_rfl) hW.cls (Rd.pure fun _ => by kernel_rfl) ?_; clear hA ac; intro ac hA
                                refine st_rd (v := Value.bool true) hA (by kernel_rfl) (by kernel_rfl) (by kernel_rfl) hW.cls (Rd.pure fun _ => by kernel_rfl) ?_; clear hA ac; intro ac hA
                                refine st_rd (v := Value.bool true) hA (by kernel_rfl) (by kernel_rfl) (by kernel_rfl) hW.cls (Rd.pure fun _ => by kernel_rfl) ?_; clear hA ac; intro ac hA
                                refine st_rd (v := Value.bool true) hA (by kernel_rfl) (by kernel_rfl) (by kernel_rfl) hW.cls (Rd.pure fun _ => by kernel_rfl) ?_; clear hA ac; intro ac hA
                                refine st_rd (v := Value.pointer (some ⟨g31, 0, none⟩)) hA (by kernel_rfl) (by kernel_rfl) (by kernel_rfl) hW.cls (Rd.pure fun _ => by kernel_rfl) ?_; clear hA ac; intro ac hA
                                refine st_rd (v := Value.agg #[Value.slice Ao35 (g34).length co36]) hA (by kernel_rfl) (by kernel_rfl) (by kernel_rfl) hW.cls (Rd.load (b := b37) (i := 0) (by kernel_rfl) (fun _ hw => (hw.1).cel 2 rfl) (by kernel_rfl)) ?_; clear hA ac; intro ac hA
                                refine st hA (by kernel_rfl) (by kernel_rfl) (by kernel_rfl) (Runs.callN (v := Value.bool true) (fun _ => by kernel_rfl) hW (e_is13 g31 g32 g33 many Ao35 co36 g34 (99) w51 ((hW).get 5 rfl) ((hW).lt _ (List.mem_of_getElem? (i := 5) rfl)) ((hW).getG 1 rfl) (by first | assumption | omega | (simp; omega) | simp) (by first | omega | assumption | exact hR.bound | (simp; omega) | simp) (by first | omega | assumption | exact hR.bound | (simp; omega) | simp) (by first | omega | assumption | exact hR.bound | (simp; omega) | simp)) ?_); clear hA ac hW; intro w55 hW hfw55 ac hA
                                refine st_rd (v := Value.bool true) hA (by kernel_rfl) (by kernel_rfl) (by kernel_rfl) hW.cls (Rd.pure fun _ => by kernel_rfl) ?_; clear hA ac; intro ac hA
                                refine st_rd (v := Value.bool true) hA (by kernel_rfl) (by kernel_rfl) (by kernel_rfl) hW.cls (Rd.pure fun _ => by kernel_rfl) ?_; clear hA ac; intro ac hA
                                refine st_rd (v := Value.pointer (some ⟨g41, 0, none⟩)) hA (by kernel_rfl) (by kernel_rfl) (by kernel_rfl) hW.cls (Rd.pure fun _ => by kernel_rfl) ?_; clear hA ac; intro ac hA
                                refine st_rd (v := Value.agg #[Value.slice Ao45 (g44).length co46]) hA (by kernel_rfl) (by kernel_rfl) (by kernel_rfl) hW.cls (Rd.load (b := b47) (i := 0) (by kernel_rfl) (fun _ hw => (hw.1).cel 1 rfl) (by kernel_rfl)) ?_; clear hA ac; intro ac hA
                                refine st hA (by kernel_rfl) (by kernel_rfl) (by kernel_rfl) (Runs.callN (v := Value.bool true) (fun _ => by kernel_rfl) hW (e_is13 g41 g42 g43 many Ao45 co46 g44 (99) w55 ((hW).get 3 rfl) ((hW).lt _ (List.mem_of_getElem? (i := 3) rfl)) ((hW).getG 0 rfl) (by first | assumption | omega | (simp; omega) | simp) (by first | omega | assumption | exact hR.bound | (simp; omega) | simp) (by first | omega | assumption | exact hR.bound | (simp; omega) | simp) (by first | omega | assumption | exact hR.bound | (simp; omega) | simp)) ?_); clear hA ac hW; intro w56 hW hfw56 ac hA
                                refine st_rd (v := Value.bool true) hA (by kernel_rfl) (by kernel_rfl) (by kernel_rfl) hW.cls (Rd.pure fun _ => by kernel_rfl) ?_; clear hA ac; intro ac hA
                                refine st_rd (v := Value.bool true) hA (by kernel_rfl) (by kernel_rfl) (by kernel_rfl) hW.cls (Rd.pure fun _ => by kernel_rfl) ?_; clear hA ac; intro ac hA
                                refine st_rd (v := Value.pointer (some ⟨g31, 0, none⟩)) hA (by kernel_rfl) (by kernel_rfl) (by kernel_rfl) hW.cls (Rd.pure fun _ => by kernel_rfl) ?_; clear hA ac; intro ac hA
                                refine st_rd (v := Value.pointer (some ⟨g41, 0, none⟩)) hA (by kernel_rfl) (by kernel_rfl) (by kernel_rfl) hW.cls (Rd.pure fun _ => by kernel_rfl) ?_; clear hA ac; intro ac hA
                                refine st hA (by kernel_rfl) (by kernel_rfl) (by kernel_rfl) (Runs.callN (v := Value.bool (decide (many = many) && decide (mEq g33 g43))) (fun _ => by kernel_rfl) hW (e_same g31 g32 g33 many g41 g42 g43 many w56 ((hW).get 5 rfl) ((hW).lt _ (List.mem_of_getElem? (i := 5) rfl)) ((hW).get 3 rfl) ((hW).lt _ (List.mem_of_getElem? (i := 3) rfl)) (by first | omega | assumption | exact hR.bound | (simp; omega) | simp)) ?_); clear hA ac hW; intro w57 hW hfw57 ac hA
                                refine st_rd (v := Value.bool (decide (g34 = g44))) hA (by kernel_rfl) (by kernel_rfl) (by kernel_rfl) hW.cls (Rd.pure fun _ => by kernel_rfl) ?_; clear hA ac; intro ac hA
                                refine st_rd (v := Value.bool ((decide (many = many) && decide (mEq g33 g43)) == (decide (g34 = g44)))) hA (by kernel_rfl) (by kernel_rfl) (by kernel_rfl) hW.cls (Rd.pure fun _ => by kernel_rfl) ?_; clear hA ac; intro ac hA
                                refine st_rd (v := Value.bool ((decide (many = many) && decide (mEq g33 g43)) == (decide (g34 = g44)))) hA (by kernel_rfl) (by kernel_rfl) (by kernel_rfl) hW.cls (Rd.pure fun _ => by kernel_rfl) ?_; clear hA ac; intro ac hA
                                refine st_rd (v := Value.bool ((decide (many = many) && decide (mEq g33 g43)) == (decide (g34 = g44)))) hA (by kernel_rfl) (by kernel_rfl) (by kernel_rfl) hW.cls (Rd.pure fun _ => by kernel_rfl) ?_; clear hA ac; intro ac hA
                                rcases Bool.eq_false_or_eq_true ((decide (many = many) && decide (mEq g33 g43)) == (decide (g34 = g44))) with h58 | h58
                                · skip
                                  rw [h58] at hA
                                  have h58 := bbeq_t h58
                                  first
                                  | (exfalso; clear hA hW; omega)
                                  | (exfalso; clear hA hW; exact absurd (same13 hw30_hR hw40_hR) h58; done)
                                  | (exfalso; clear hA hW; exact absurd (same13' hw30_hR hw40_hR) h58; done)
                                  | (exfalso; clear hA hW; exact absurd (same13 hw40_hR hw30_hR) h58; done)
                                  | (exfalso; clear hA hW; exact absurd (same13' hw40_hR hw30_hR) h58; done)
                                  | (exfalso; clear hA hW; have q_ := of_decide_eq_true (Bool.and_eq_true_iff.1 h58).1; omega; done)
                                  | (
                                      refine st_rd (v := Value.pointer (some ⟨g41, 0, none⟩)) hA (by kernel_rfl) (by kernel_rfl) (by kernel_rfl) hW.cls (Rd.pure fun _ => by kernel_rfl) ?_; clear hA ac; intro ac hA
                                      refine st_rd (v := Value.pointer (some ⟨g31, 0, none⟩)) hA (by kernel_rfl) (by kernel_rfl) (by kernel_rfl) hW.cls (Rd.pure fun _ => by kernel_rfl) ?_; clear hA ac; intro ac hA
                                      refine st hA (by kernel_rfl) (by kernel_rfl) (by kernel_rfl) (Runs.callN (v := Value.bool (decide (many = many) && decide (mEq g43 g33))) (fun _ => by kernel_rfl) hW (e_same g41 g42 g43 many g31 g32 g33 many w57 ((hW).get 3 rfl) ((hW).lt _ (List.mem_of_getElem? (i := 3) rfl)) ((hW).get 5 rfl) ((hW).lt _ (List.mem_of_getElem? (i := 5) rfl)) (by first | omega | assumption | exact hR.bound | (simp; omega) | simp)) ?_); clear hA ac hW; intro w59 hW hfw59 ac hA
                                      refine st_rd (v := Value.bool (decide (g34 = g44))) hA (by kernel_rfl) (by kernel_rfl) (by kernel_rfl) hW.cls (Rd.pure fun _ => by kernel_rfl) ?_; clear hA ac; intro ac hA
                                      refine st_rd (v := Value.bool ((decide (many = many) && decide (mEq g43 g33)) == (decide (g34 = g44)))) hA (by kernel_rfl) (by kernel_rfl) (by kernel_rfl) hW.cls (Rd.pure fun _ => by kernel_rfl) ?_; clear hA ac; intro ac hA
                                      refine st_rd (v := Value.bool ((decide (many = many) && decide (mEq g43 g33)) == (decide (g34 = g44)))) hA (by kernel_rfl) (by kernel_rfl) (by kernel_rfl) hW.cls (Rd.pure fun _ => by kernel_rfl) ?_; clear hA ac; intro ac hA
                                      refine st_rd (v := Value.bool ((decide (many = many) && decide (mEq g43 g33)) == (decide (g34 = g44)))) hA (by kernel_rfl) (by kernel_rfl) (by kernel_rfl) hW.cls (Rd.pure fun _ => by kernel_rfl) ?_; clear hA ac; intro ac hA
                                      rcases Bool.eq_false_or_eq_true ((decide (many = many) && decide (mEq g43 g33)) == (decide (g34 = g44))) with h60 | h60
                                      · skip
                                        rw [h60] at hA
                                        have h60 := bbeq_t h60
                                        first
                                        | (exfalso; clear hA hW; omega)
                                        | (exfalso; clear hA hW; exact absurd (same13 hw30_hR hw40_hR) h60; done)
                                        | (exfalso; clear hA hW; exact absurd (same13' hw30_hR hw40_hR) h60; done)
                                        | (exfalso; clear hA hW; exact absurd (same13 hw40_hR hw30_hR) h60; done)
                                        | (exfalso; clear hA hW; exact absurd (same13' hw40_hR hw30_hR) h60; done)
                                        | (exfalso; clear hA hW; have q_ := of_decide_eq_true (Bool.and_eq_true_iff.1 h60).1; omega; done)
                                        | (
                                            refine st_rd (v := Value.pointer (some ⟨g31, 0, none⟩)) hA (by kernel_rfl) (by kernel_rfl) (by kernel_rfl) hW.cls (Rd.pure fun _ => by kernel_rfl) ?_; clear hA ac; intro ac hA
                                            refine st_rd (v := Value.pointer (some ⟨n52, 0, none⟩)) hA (by kernel_rfl) (by kernel_rfl) (by kernel_rfl) hW.cls (Rd.pure fun _ => by kernel_rfl) ?_; clear hA ac; intro ac hA
                                            refine st hA (by kernel_rfl) (by kernel_rfl) (by kernel_rfl) (Runs.callN (v := Value.bool (decide (many = (((many : Int) + 1 : Int) % 65)) && decide (mEq g33 ([])))) (fun _ => by kernel_rfl) hW (e_same g31 g32 g33 many n52 n53 ([]) (((many : Int) + 1 : Int) % 65) w59 ((hW).get 5 rfl) ((hW).lt _ (List.mem_of_getElem? (i := 5) rfl)) ((hW).get 0 rfl) ((hW).lt _ (List.mem_of_getElem? (i := 0) rfl)) (by first | omega | assumption | exact hR.bound | (simp; omega) | simp)) ?_); clear hA ac hW; intro w61 hW hfw61 ac hA
                                            refine st_rd (v := Value.bool (!(decide (many = (((many : Int) + 1 : Int) % 65)) && decide (mEq g33 ([]))))) hA (by kernel_rfl) (by kernel_rfl) (by kernel_rfl) hW.cls (Rd.pure fun _ => by kernel_rfl) ?_; clear hA ac; intro ac hA
                                            refine st_rd (v := Value.bool (!(decide (many = (((many : Int) + 1 : Int) % 65)) && decide (mEq g33 ([]))))) hA (by kernel_rfl) (by kernel_rfl) (by kernel_rfl) hW.cls (Rd.pure fun _ => by kernel_rfl) ?_; clear hA ac; intro ac hA
                                            refine st_rd (v := Value.bool (!(decide (many = (((many : Int) + 1 : Int) % 65)) && decide (mEq g33 ([]))))) hA (by kernel_rfl) (by kernel_rfl) (by kernel_rfl) hW.cls (Rd.pure fun _ => by kernel_rfl) ?_; clear hA ac; intro ac hA
                                            rcases Bool.eq_false_or_eq_true (!(decide (many = (((many : Int) + 1 : Int) % 65)) && decide (mEq g33 ([])))) with h62 | h62
                                            · skip
                                              rw [h62] at hA
                                              have h62 := not_t h62
                                              first
                                              | (exfalso; clear hA hW; omega)
                                              | (exfalso; clear hA hW; exact absurd (same13 hw30_hR hw40_hR) h62; done)
                                              | (exfalso; clear hA hW; exact absurd (same13' hw30_hR hw40_hR) h62; done)
                                              | (exfalso; clear hA hW; exact absurd (same13 hw40_hR hw30_hR) h62; done)
                                              | (exfalso; clear hA hW; exact absurd (same13' hw40_hR hw30_hR) h62; done)
                                              | (exfalso; clear hA hW; have q_ := of_decide_eq_true (Bool.and_eq_true_iff.1 h62).1; omega; done)
                                              | (
                                                  refine st hA (by kernel_rfl) (by kernel_rfl) (by kernel_rfl) (Runs.callN (v := Value.bool true) (fun _ => by kernel_rfl) hW (e_works13 w61) ?_); clear hA ac hW; intro w63 hW hfw63 ac hA
                                                  refine st_rd (v := Value.bool true) hA (by kernel_rfl) (by kernel_rfl) (by kernel_rfl) hW.cls (Rd.pure fun _ => by kernel_rfl) ?_; clear hA ac; intro ac hA
                                                  refine st_rd (v := Value.bool true) hA (by kernel_rfl) (by kernel_rfl) (by kernel_rfl) hW.cls (Rd.pure fun _ => by kernel_rfl) ?_; clear hA ac; intro ac hA
                                                  refine wpList_nil ?_
                                                  refine thenN ?_
                                                  refine wp_ret ?_
                                                  refine ret1 (v := Value.bool true) (by rfl) hA (Got.tmp hA (by kernel_rfl) (by kernel_rfl)) ?_
                                                  clear hA
                                                  exact ⟨retv (by rfl), hW.fr⟩)
                                            · skip
                                              rw [h62] at hA
                                              have h62 := not_f h62
                                              first
                                              | (exfalso; clear hA hW; omega)
                                              | (exfalso; clear hA hW; exact absurd (same13 hw30_hR hw40_hR) h62; done)
                                              | (exfalso; clear hA hW; exact absurd (same13' hw30_hR hw40_hR) h62; done)
                                              | (exfalso; clear hA hW; exact absurd (same13 hw40_hR hw30_hR) h62; done)
                                              | (exfalso; clear hA hW; exact absurd (same13' hw40_hR hw30_hR) h62; done)
                                              | (exfalso; clear hA hW; have q_ := of_decide_eq_true (Bool.and_eq_true_iff.1 h62).1; omega; done)
                                              | (
                                                  refine st_skip hA (by kernel_rfl) (by kernel_rfl) ?_; clear hA ac; intro ac hA
                                                  refine st_rd (v := Value.bool false) hA (by kernel_rfl) (by kernel_rfl) (by kernel_rfl) hW.cls (Rd.pure fun _ => by kernel_rfl) ?_; clear hA ac; intro ac hA
                                                  refine st_rd (v := Value.bool false) hA (by kernel_rfl) (by kernel_rfl) (by kernel_rfl) hW.cls (Rd.pure fun _ => by kernel_rfl) ?_; clear hA ac; intro ac hA
                                                  refine wpList_nil ?_
                                                  refine thenN ?_
                                                  refine wp_ret ?_
                                                  refine ret1 (v := Value.bool false) (by rfl) hA (Got.tmp hA (by kernel_rfl) (by kernel_rfl)) ?_
                                                  clear hA
                                                  exact ⟨retv (by rfl), hW.fr⟩))
                                      · skip
                                        rw [h60] at hA
                                        have h60 := bbeq_f h60
                                        first
                                        | (exfalso; clear hA hW; omega)
                                        | (exfalso; clear hA hW; exact absurd (same13 hw30_hR hw40_hR) h60; done)
                                        | (exfalso; clear hA hW; exact absurd (same13' hw30_hR hw40_hR) h60; done)
                                        | (exfalso; clear hA hW; exact absurd (same13 hw40_hR hw30_hR) h60; done)
                                        | (exfalso; clear hA hW; exact absurd (same13' hw40_hR hw30_hR) h60; done)
                                        | (exfalso; clear hA hW; have q_ := of_decide_eq_true (Bool.and_eq_true_iff.1 h60).1; omega; done)
                                        | (
                                            refine st_skip hA (by kernel_rfl) (by kernel_rfl) ?_; clear hA ac; intro ac hA
                                            refine st_skip hA (by kernel_rfl) (by kernel_rfl) ?_; clear hA ac; intro ac hA
                                            refine st_skip hA (by kernel_rfl) (by kernel_rfl) ?_; clear hA ac; intro ac hA
                                            refine st_skip hA (by kernel_rfl) (by kernel_rfl) ?_; clear hA ac; intro ac hA
                                            refine st_rd (v := Value.bool false) hA (by kernel_rfl) (by kernel_rfl) (by kernel_rfl) hW.cls (Rd.pure fun _ => by kernel_rfl) ?_; clear hA ac; intro ac hA
                                            refine st_rd (v := Value.bool false) hA (by kernel_rfl) (by kernel_rfl) (by kernel_rfl) hW.cls (Rd.pure fun _ => by kernel_rfl) ?_; clear hA ac; intro ac hA
                                            refine st_skip hA (by kernel_rfl) (by kernel_rfl) ?_; clear hA ac; intro ac hA
                                            refine st_rd (v := Value.bool false) hA (by kernel_rfl) (by kernel_rfl) (by kernel_rfl) hW.cls (Rd.pure fun _ => by kernel_rfl) ?_; clear hA ac; intro ac hA
                                            refine st_rd (v := Value.bool false) hA (by kernel_rfl) (by kernel_rfl) (by kernel_rfl) hW.cls (Rd.pure fun _ => by kernel_rfl) ?_; clear hA ac; intro ac hA
                                            refine wpList_nil ?_
                                            refine thenN ?_
                                            refine wp_ret ?_
                                            refine ret1 (v := Value.bool false) (by rfl) hA (Got.tmp hA (by kernel_rfl) (by kernel_rfl)) ?_
                                            clear hA
                                            exact ⟨retv (by rfl), hW.fr⟩))
                                · skip
                                  rw [h58] at hA
                                  have h58 := bbeq_f h58
                                  first
                                  | (exfalso; clear hA hW; omega)
                                  | (exfalso; clear hA hW; exact absurd (same13 hw30_hR hw40_hR) h58; done)
                                  | (exfalso; clear hA hW; exact absurd (same13' hw30_hR hw40_hR) h58; done)
                                  | (exfalso; clear hA hW; exact absurd (same13 hw40_hR hw30_hR) h58; done)
                                  | (exfalso; clear hA hW; exact absurd (same13' hw40_hR hw30_hR) h58; done)
                                  | (exfalso; clear hA hW; have q_ := of_decide_eq_true (Bool.and_eq_true_iff.1 h58).1; omega; done)
                                  | (
                                      refine st_skip hA (by kernel_rfl) (by kernel_rfl) ?_; clear hA ac; intro ac hA
                                      refine st_skip hA (by kernel_rfl) (by kernel_rfl) ?_; clear hA ac; intro ac hA
                                      refine st_skip hA (by kernel_rfl) (by kernel_rfl) ?_; clear hA ac; intro ac hA
                                      refine st_skip hA (by kernel_rfl) (by kernel_rfl) ?_; clear hA ac; intro ac hA
                                      refine st_skip hA (by kernel_rfl) (by kernel_rfl) ?_; clear hA ac; intro ac hA
                                      refine st_rd (v := Value.bool false) hA (by kernel_rfl) (by kernel_rfl) (by kernel_rfl) hW.cls (Rd.pure fun _ => by kernel_rfl) ?_; clear hA ac; intro ac hA
                                      refine st_rd (v := Value.bool false) hA (by kernel_rfl) (by kernel_rfl) (by kernel_rfl) hW.cls (Rd.pure fun _ => by kernel_rfl) ?_; clear hA ac; intro ac hA
                                      refine st_skip hA (by kernel_rfl) (by kernel_rfl) ?_; clear hA ac; intro ac hA
                                      refine st_skip hA (by kernel_rfl) (by kernel_rfl) ?_; clear hA ac; intro ac hA
                                      refine st_skip hA (by kernel_rfl) (by kernel_rfl) ?_; clear hA ac; intro ac hA
                                      refine st_skip hA (by kernel_rfl) (by kernel_rfl) ?_; clear hA ac; intro ac hA
                                      refine st_rd (v := Value.bool false) hA (by kernel_rfl) (by kernel_rfl) (by kernel_rfl) hW.cls (Rd.pure fun _ => by kernel_rfl) ?_; clear hA ac; intro ac hA
                                      refine st_rd (v := Value.bool false) hA (by kernel_rfl) (by kernel_rfl) (by kernel_rfl) hW.cls (Rd.pure fun _ => by kernel_rfl) ?_; clear hA ac; intro ac hA
                                      refine st_skip hA (by kernel_rfl) (by kernel_rfl) ?_; clear hA ac; intro ac hA
                                      refine st_rd (v := Value.bool false) hA (by kernel_rfl) (by kernel_rfl) (by kernel_rfl) hW.cls (Rd.pure fun _ => by kernel_rfl) ?_; clear hA ac; intro ac hA
                                      refine st_rd (v := Value.bool false) hA (by kernel_rfl) (by kernel_rfl) (by kernel_rfl) hW.cls (Rd.pure fun _ => by kernel_rfl) ?_; clear hA ac; intro ac hA
                                      refine wpList_nil ?_
                                      refine thenN ?_
                                      refine wp_ret ?_
                                      refine ret1 (v := Value.bool false) (by rfl) hA (Got.tmp hA (by kernel_rfl) (by kernel_rfl)) ?_
                                      clear hA
                                      exact ⟨retv (by rfl), hW.fr⟩))
                          · skip
                            rw [h54] at hA
                            have h54 := ne_of_beq_false h54
                            first
                            | (exfalso; clear hA hW; omega)
                            | (exfalso; clear hA hW; exact absurd (same13 hw30_hR hw40_hR) h54; done)
                            | (exfalso; clear hA hW; exact absurd (same13' hw30_hR hw40_hR) h54; done)
                            | (exfalso; clear hA hW; exact absurd (same13 hw40_hR hw30_hR) h54; done)
                            | (exfalso; clear hA hW; exact absurd (same13' hw40_hR hw30_hR) h54; done)
                            | (exfalso; clear hA hW; have q_ := of_decide_eq_true (Bool.and_eq_true_iff.1 h54).1; omega; done)
                            | (
                                refine st_skip hA (by kernel_rfl) (by kernel_rfl) ?_; clear hA ac; intro ac hA
                                refine st_rd (v := Value.bool false) hA (by kernel_rfl) (by kernel_rfl) (by kernel_rfl) hW.cls (Rd.pure fun _ => by kernel_rfl) ?_; clear hA ac; intro ac hA
                                refine st_rd (v := Value.bool false) hA (by kernel_rfl) (by kernel_rfl) (by kernel_rfl) hW.cls (Rd.pure fun _ => by kernel_rfl) ?_; clear hA ac; intro ac hA
                                refine st_skip hA (by kernel_rfl) (by kernel_rfl) ?_; clear hA ac; intro ac hA
                                refine st_rd (v := Value.bool false) hA (by kernel_rfl) (by kernel_rfl) (by kernel_rfl) hW.cls (Rd.pure fun _ => by kernel_rfl) ?_; clear hA ac; intro ac hA
                                refine st_rd (v := Value.bool false) hA (by kernel_rfl) (by kernel_rfl) (by kernel_rfl) hW.cls (Rd.pure fun _ => by kernel_rfl) ?_; clear hA ac; intro ac hA
                                refine st_skip hA (by kernel_rfl) (by kernel_rfl) ?_; clear hA ac; intro ac hA
                                refine st_skip hA (by kernel_rfl) (by kernel_rfl) ?_; clear hA ac; intro ac hA
                                refine st_skip hA (by kernel_rfl) (by kernel_rfl) ?_; clear hA ac; intro ac hA
                                refine st_rd (v := Value.bool false) hA (by kernel_rfl) (by kernel_rfl) (by kernel_rfl) hW.cls (Rd.pure fun _ => by kernel_rfl) ?_; clear hA ac; intro ac hA
                                refine st_rd (v := Value.bool false) hA (by kernel_rfl) (by kernel_rfl) (by kernel_rfl) hW.cls (Rd.pure fun _ => by kernel_rfl) ?_; clear hA ac; intro ac hA
                                refine st_skip hA (by kernel_rfl) (by kernel_rfl) ?_; clear hA ac; intro ac hA
                                refine st_skip hA (by kernel_rfl) (by kernel_rfl) ?_; clear hA ac; intro ac hA
                                refine st_skip hA (by kernel_rfl) (by kernel_rfl) ?_; clear hA ac; intro ac hA
                                refine st_rd (v := Value.bool false) hA (by kernel_rfl) (by kernel_rfl) (by kernel_rfl) hW.cls (Rd.pure fun _ => by kernel_rfl) ?_; clear hA ac; intro ac hA
                                refine st_rd (v := Value.bool false) hA (by kernel_rfl) (by kernel_rfl) (by kernel_rfl) hW.cls (Rd.pure fun _ => by kernel_rfl) ?_; clear hA ac; intro ac hA
                                refine st_skip hA (by kernel_rfl) (by kernel_rfl) ?_; clear hA ac; intro ac hA
                                refine st_skip hA (by kernel_rfl) (by kernel_rfl) ?_; clear hA ac; intro ac hA
                                refine st_skip hA (by kernel_rfl) (by kernel_rfl) ?_; clear hA ac; intro ac hA
                                refine st_skip hA (by kernel_rfl) (by kernel_rfl) ?_; clear hA ac; intro ac hA
                                refine st_skip hA (by kernel_rfl) (by kernel_rfl) ?_; clear hA ac; intro ac hA
                                refine st_rd (v := Value.bool false) hA (by kernel_rfl) (by kernel_rfl) (by kernel_rfl) hW.cls (Rd.pure fun _ => by kernel_rfl) ?_; clear hA ac; intro ac hA
                                refine st_rd (v := Value.bool false) hA (by kernel_rfl) (by kernel_rfl) (by kernel_rfl) hW.cls (Rd.pure fun _ => by kernel_rfl) ?_; clear hA ac; intro ac hA
                                refine st_skip hA (by kernel_rfl) (by kernel_rfl) ?_; clear hA ac; intro ac hA
                                refine st_skip hA (by kernel_rfl) (by kernel_rfl) ?_; clear hA ac; intro ac hA
                                refine st_skip hA (by kernel_rfl) (by kernel_rfl) ?_; clear hA ac; intro ac hA
                                refine st_skip hA (by kernel_rfl) (by kernel_rfl) ?_; clear hA ac; intro ac hA
                                refine st_skip hA (by kernel_rfl) (by kernel_rfl) ?_; clear hA ac; intro ac hA
                                refine st_rd (v := Value.bool false) hA (by kernel_rfl) (by kernel_rfl) (by kernel_rfl) hW.cls (Rd.pure fun _ => by kernel_rfl) ?_; clear hA ac; intro ac hA
                                refine st_rd (v := Value.bool false) hA (by kernel_rfl) (by kernel_rfl) (by kernel_rfl) hW.cls (Rd.pure fun _ => by kernel_rfl) ?_; clear hA ac; intro ac hA
                                refine st_skip hA (by kernel_rfl) (by kernel_rfl) ?_; clear hA ac; intro ac hA
                                refine st_skip hA (by kernel_rfl) (by kernel_rfl) ?_; clear hA ac; intro ac hA
                                refine st_skip hA (by kernel_rfl) (by kernel_rfl) ?_; clear hA ac; intro ac hA
                                refine st_skip hA (by kernel_rfl) (by kernel_rfl) ?_; clear hA ac; intro ac hA
                                refine st_rd (v := Value.bool false) hA (by kernel_rfl) (by kernel_rfl) (by kernel_rfl) hW.cls (Rd.pure fun _ => by kernel_rfl) ?_; clear hA ac; intro ac hA
                                refine st_rd (v := Value.bool false) hA (by kernel_rfl) (by kernel_rfl) (by kernel_rfl) hW.cls (Rd.pure fun _ => by kernel_rfl) ?_; clear hA ac; intro ac hA
                                refine st_skip hA (by kernel_rfl) (by kernel_rfl) ?_; clear hA ac; intro ac hA
                                refine st_rd (v := Value.bool false) hA (by kernel_rfl) (by kernel_rfl) (by kernel_rfl) hW.cls (Rd.pure fun _ => by kernel_rfl) ?_; clear hA ac; intro ac hA
                                refine st_rd (v := Value.bool false) hA (by kernel_rfl) (by kernel_rfl) (by kernel_rfl) hW.cls (Rd.pure fun _ => by kernel_rfl) ?_; clear hA ac; intro ac hA
                                refine wpList_nil ?_
                                refine thenN ?_
                                refine wp_ret ?_
                                refine ret1 (v := Value.bool false) (by rfl) hA (Got.tmp hA (by kernel_rfl) (by kernel_rfl)) ?_
                                clear hA
                                exact ⟨retv (by rfl), hW.fr⟩)))))

theorem copies_walk (many : Int) (A : Option Addr) (len cap : Nat) (l : List Act13) (two : Acts2) (w : World) (_ : (Lit.int .i64 many).wf = true) (hl : l.length = len) (hc : len ≤ cap) (_ : cap ≤ maxLen) (_ : ∀ x ∈ l, wfAct13 x) (hr : RowAt w A 3 enAct13 l) (_ : wfActs2 two) :
    Calls Try.prog 5 #[.int .i64 many, .slice A len cap, two.v] w fun e w' => e = .returned (.bool true) ∧ Fr No w w' := by
  subst hl
  exact e_copies many A cap l two w hr hc
end Go.Proofs.Ytgeikokmhkfkgaa.L
