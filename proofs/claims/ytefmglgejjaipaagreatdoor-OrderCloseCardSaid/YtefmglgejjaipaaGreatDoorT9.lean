/- Contracts, walked by program over the engine's laws. -/
import Derived.Test.YtefmglgejjaipaaGreatDoorProg
import Derived.Test.YtefmglgejjaipaaGreatDoorT8
namespace Go.Proofs.YtefmglgejjaipaaGreatDoor.L
open Go.RowKit

theorem mem_trim {c : List Int} {n : Int} (h : n ∈ trimC c) : n ∈ c := by
  unfold trimC at h; exact List.mem_reverse.1 ((List.dropWhile_sublist _).mem (List.mem_reverse.1 h))
theorem mem_join : ∀ {a b : List Int} {n N : Int}, (∀ x ∈ a, 0 ≤ x ∧ x ≤ N) → (∀ x ∈ b, 0 ≤ x ∧ x ≤ N) → n ∈ joinC a b → 0 ≤ n ∧ n ≤ N
  | s, [], n, N, ha, _, h => by rw [joinC_nil] at h; exact ha n h
  | [], m :: c, n, N, _, hb, h => by
    simp only [joinC, List.mem_cons] at h
    rcases h with rfl | h
    · have := hb m (.head _); omega
    · exact mem_join (a := []) (b := c) (by simp) (fun x hx => hb x (.tail _ hx)) h
  | y :: s, m :: c, n, N, ha, hb, h => by
    simp only [joinC, List.mem_cons] at h
    rcases h with rfl | h
    · have := hb m (.head _); have := ha y (.head _); omega
    · exact mem_join (a := s) (b := c) (fun x hx => ha x (.tail _ hx)) (fun x hx => hb x (.tail _ hx)) h
/-- A clock of so many at most. -/
def Bd (N : Int) (c : List Int) : Prop := c.length ≤ 65536 ∧ ∀ n ∈ c, 0 ≤ n ∧ n ≤ N
theorem Bd.mono {N M : Int} {c : List Int} (h : Bd N c) (hm : N ≤ M) : Bd M c := ⟨h.1, fun n hn => ⟨(h.2 n hn).1, by have := (h.2 n hn).2; omega⟩⟩
theorem join2_bd {a b : List Int} {N : Int} (ha : Bd N a) (hb : Bd N b) : Bd N (join2 a b) := by
  unfold join2
  refine ⟨Nat.le_trans (trim_len _) ?_, fun n hn => mem_join (mem_join_nil ha.2) hb.2 (mem_trim hn)⟩
  rw [joinC_len, joinC_len]; have := ha.1; have := hb.1; simp; omega
where mem_join_nil {a : List Int} {N : Int} (h : ∀ x ∈ a, 0 ≤ x ∧ x ≤ N) : ∀ x ∈ joinC [] a, 0 ≤ x ∧ x ≤ N := fun x hx => mem_join (a := []) (by simp) h hx
theorem getC_bd {c : List Int} {N : Int} (h : ∀ n ∈ c, 0 ≤ n ∧ n ≤ N) (hN : 0 ≤ N) (i : Int) : 0 ≤ getC c i ∧ getC c i ≤ N := by
  unfold getC
  split
  · omega
  · cases e : c[i.toNat]? with
    | none => simpa using hN
    | some y => exact h y (List.mem_of_getElem? e)
theorem pad_len {c : List Int} {id : Int} : (padC c id).length = max c.length (id.toNat + 1) := by unfold padC; simp; omega
theorem tick1_bd {c : List Int} {N id : Int} (h : Bd N c) (hN : 0 ≤ N) (h0 : 0 ≤ id) (h1 : id ≤ 65535) : Bd (N + 1) (tick1 c id) := by
  unfold tick1
  refine ⟨Nat.le_trans (trim_len _) ?_, fun n hn => ?_⟩
  · rw [List.length_set, pad_len]; have := h.1; omega
  · rcases List.mem_or_eq_of_mem_set (mem_trim hn) with hn | rfl
    · unfold padC at hn
      rcases List.mem_append.1 hn with hn | hn
      · have := h.2 n hn; omega
      · have := (List.mem_replicate.1 hn).2; omega
    · have := getC_bd h.2 hN id; omega
theorem tick_eq {c : List Int} {N id : Int} (h : Bd N c) (hN : 0 ≤ N) (hN2 : N ≤ 4096) (h0 : 0 ≤ id) (h1 : id ≤ 65535) : tickC c id 281474976710655 = (tick1 c id, 0) := by
  have hg := getC_bd h.2 hN id
  have hv : vecOk c = true := by
    unfold vecOk; rw [decide_eq_true h.1, Bool.true_and, List.all_eq_true]; intro n hn; have := h.2 n hn; unfold big48; simp; omega
  have hp : packOk id (getC c id) = true := by unfold packOk; exact decide_eq_true (by omega)
  have he : epochE c id = 0 := by unfold epochE; rw [if_pos hv, hp]; rfl
  have hev : epochV c id = id * 281474976710656 + getC c id := by unfold epochV packV; rw [if_pos hv, if_pos hp]
  have hn : nextErr (epochV c id) 281474976710655 = 0 := by unfold nextErr; rw [if_neg (by omega), if_neg (by rw [hev]; omega)]
  unfold tickC tick1; rw [if_neg (by rw [he]; decide), if_neg (by rw [hn]; decide), hev, show (id * 281474976710656 + getC c id + 1) % 281474976710656 = getC c id + 1 from by omega]
theorem jn_hx {a b : SV} (ha : a.l.length ≤ 65536) (hb : b.l.length ≤ 65536) : ∀ x ∈ [a, b], x.l.length ≤ 100000 := by intro x hx; simp at hx; rcases hx with rfl | rfl <;> omega
theorem jn_hf {a b : SV} (ha : a.l.length ≤ 65536) (hb : b.l.length ≤ 65536) : (foldJ [a, b]).length ≤ 100000 := by
  show (joinC (joinC [] a.l) b.l).length ≤ 100000; rw [joinC_len, joinC_len]; simp; omega
/-! ### pieces that come back -/
theorem Ws.back {w0 w : World} {S : Nat → Prop} {H G : List Res} (h : Ws w0 S H G w) (j : Nat) {r r0 : Res} (hj : G[j]? = some r) (hs : r.src [r0] w0) (hS : ∀ b ∈ r0.fp, S b) : Ws w0 S (r :: H) [] w := by
  have hm := List.mem_of_getElem? hj
  refine ⟨h.fr, fun x hx => ?_, fun x hx => ?_, List.pairwise_cons.2 ⟨fun x hx b hb hb' => h.gd r hm x hx b hb' hb, h.nd⟩, fun x hx b hb => ?_, by simp, by simp, by simp⟩
  · rcases List.mem_cons.1 hx with rfl | hx
    · exact h.gat _ hm
    · exact h.at_ x hx
  · rcases List.mem_cons.1 hx with rfl | hx
    · exact h.glt _ hm
    · exact h.lt x hx
  · rcases List.mem_cons.1 hx with rfl | hx
    · rcases hs b hb with ⟨y, hy, hb'⟩ | hb'
      · rw [List.mem_singleton] at hy; subst hy; exact .inl (hS b hb')
      · exact .inr hb'
    · exact h.may x hx b hb
theorem mem_nv {C : List SV} {G : List (Int × SV)} {T : List (Thing × SV)} {x : SV} : x ∈ NV C G T ↔ x = nilSV ∨ x ∈ C ∨ x ∈ G.map (·.2) ∨ x ∈ T.map (·.2) := by unfold NV; simp only [List.mem_cons, List.mem_append]
theorem nvs1 {C : List SV} {G : List (Int × SV)} {T : List (Thing × SV)} {u : SV} {g : Int} : ∀ x ∈ NV (C ++ [u]) (put G g u) T, x ∈ u :: NV C G T := by
  intro x hx; rw [List.mem_cons, mem_nv]; rcases mem_nv.1 hx with h | h | h | h
  · exact .inr (.inl h)
  · rcases List.mem_append.1 h with h | h
    · exact .inr (.inr (.inl h))
    · exact .inl (List.mem_singleton.1 h)
  · rcases put_vals h with h | h
    · exact .inl h
    · exact .inr (.inr (.inr (.inl h)))
  · exact .inr (.inr (.inr (.inr h)))
theorem nvs2 {C : List SV} {G : List (Int × SV)} {T : List (Thing × SV)} {u v : SV} {g k : Int} : ∀ x ∈ NV (C ++ [u]) (put (put G g u) k v) T, x ∈ v :: u :: NV C G T := by
  intro x hx; rw [List.mem_cons]; rcases mem_nv.1 hx with h | h | h | h
  · exact .inr (nvs1 (g := g) x (mem_nv.2 (.inl h)))
  · exact .inr (nvs1 (g := g) x (mem_nv.2 (.inr (.inl h))))
  · rcases put_vals h with h | h
    · exact .inl h
    · exact .inr (nvs1 (g := g) x (mem_nv.2 (.inr (.inr (.inl h)))))
  · exact .inr (nvs1 (g := g) x (mem_nv.2 (.inr (.inr (.inr h)))))
theorem nvs3 {C : List SV} {G : List (Int × SV)} {T : List (Thing × SV)} {u v : SV} {g : Int} {k : Thing} : ∀ x ∈ NV (C ++ [u]) (put G g u) (put T k v), x ∈ v :: u :: NV C G T := by
  intro x hx; rw [List.mem_cons]; rcases mem_nv.1 hx with h | h | h | h
  · exact .inr (nvs1 (g := g) x (mem_nv.2 (.inl h)))
  · exact .inr (nvs1 (g := g) x (mem_nv.2 (.inr (.inl h))))
  · exact .inr (nvs1 (g := g) x (mem_nv.2 (.inr (.inr (.inl h)))))
  · rcases put_vals h with h | h
    · exact .inl h
    · exact .inr (nvs1 (g := g) x (mem_nv.2 (.inr (.inr (.inr h)))))
def addE (E : List Event) (x : Event) : Int × List Event := if 4096 ≤ E.length then (3, E) else if EvOk x then (0, E ++ [x]) else (2, E)
theorem addE_no3 {E : List Event} {x : Event} (h : 4096 ≤ E.length) : (3, E) = addE E x := by unfold addE; rw [if_pos h]
theorem addE_no2 {E : List Event} {x : Event} (h : ¬ 4096 ≤ E.length) (hx : ¬ EvOk x) : (2, E) = addE E x := by unfold addE; rw [if_neg h, if_neg hx]
theorem addE_yes {E : List Event} {x : Event} (h : ¬ 4096 ≤ E.length) (hx : EvOk x) : (0, E ++ [x]) = addE E x := by unfold addE; rw [if_neg h, if_pos hx]
theorem fromL_len (k : Int) : (fromL k).length ≤ 2 := by unfold fromL; (repeat' split) <;> decide
theorem ev_of {x : Event} (h : argErr (evOk x) = 0) : EvOk x := by
  unfold evOk at h; by_cases q : EvOk x
  · exact q
  · rw [decide_eq_false q] at h; exact absurd h (by decide)
theorem ev_no {x : Event} (h : argErr (evOk x) ≠ 0) : ¬ EvOk x ∧ argErr (evOk x) = 2 := by
  unfold evOk at h ⊢; by_cases q : EvOk x
  · rw [decide_eq_true q] at h; exact absurd (by decide) h
  · rw [decide_eq_false q]; exact ⟨q, rfl⟩
theorem OrdOk.snoc {E C G T} (hok : OrdOk E C G T) {x : Event} (hn : ¬ 4096 ≤ E.length) (hx : EvOk x) {u : SV} {G' T'} {L : List SV} (hu : u.l = tick1 (accS (stOf E) x) x.g) (hg : ∀ g, ((look G' g).getD nilSV).l = (addS (stOf E) x).g g) (ht : ∀ k o, ((look T' ⟨k, o⟩).getD nilSV).l = (addS (stOf E) x).t k o)
    (hsub : ∀ y ∈ NV (C ++ [u]) G' T', y ∈ L) (hc : ∀ y ∈ L, capSV y) (hL : ∀ y ∈ L, Bd (E.length + 1) y.l) : OrdOk (E ++ [x]) (C ++ [u]) G' T' where
  len := by simp; omega
  ev e he := by
    rcases List.mem_append.1 he with he | he
    · exact hok.ev e he
    · rw [List.mem_singleton.1 he]; exact hx
  ck := by rw [stOf_snoc, List.map_append, hok.ck]; simp [addS, hu]
  g := by rw [stOf_snoc]; exact hg
  t := by rw [stOf_snoc]; exact ht
  cap y hy := hc y (hsub y hy)
  bd y hy := by have := hL y (hsub y hy); simpa [Bd] using this
theorem OrdOk.bdN {E C G T} (hok : OrdOk E C G T) : ∀ y ∈ NV C G T, Bd (E.length + 1) y.l := fun y hy => Bd.mono (N := E.length) (hok.bd y hy) (by omega)
theorem bd_cons {N : Int} {u : SV} {L : List SV} (hu : Bd N u.l) (h : ∀ y ∈ L, Bd N y.l) : ∀ y ∈ u :: L, Bd N y.l := by
  intro y hy; rcases List.mem_cons.1 hy with rfl | hy
  · exact hu
  · exact h y hy
theorem g_put {E C G T} (hok : OrdOk E C G T) {x : Event} {u : SV} (hu : u.l = tick1 (accS (stOf E) x) x.g) (g : Int) : ((look (put G x.g u) g).getD nilSV).l = if g = x.g then tick1 (accS (stOf E) x) x.g else (stOf E).g g := by
  rw [look_put]
  by_cases h : x.g = g
  · rw [if_pos h, if_pos h.symm]; exact hu
  · rw [if_neg h, if_neg (fun e => h e.symm)]; exact hok.g g
theorem add_g1 {E C G T} (hok : OrdOk E C G T) {x : Event} {u : SV} (hu : u.l = tick1 (accS (stOf E) x) x.g) (hk : ¬ x.kind = 4) (g : Int) : ((look (put G x.g u) g).getD nilSV).l = (addS (stOf E) x).g g := by
  rw [g_put hok hu]; unfold addS; simp only; rw [if_neg hk]
theorem add_g4 {E C G T} (hok : OrdOk E C G T) {x : Event} {u v : SV} (hu : u.l = tick1 (accS (stOf E) x) x.g) (hk : x.kind = 4) (hx : x.child ≠ x.g) (hv : v.l = join2 ((stOf E).g x.child) (tick1 (accS (stOf E) x) x.g)) (g : Int) : ((look (put (put G x.g u) x.child v) g).getD nilSV).l = (addS (stOf E) x).g g := by
  rw [look_put]; unfold addS; simp only; rw [if_pos hk]
  by_cases h : x.child = g
  · rw [if_pos h, if_pos h.symm, if_neg hx]; exact hv
  · rw [if_neg h, if_neg (fun e => h e.symm)]; exact g_put hok hu g
theorem add_t0 {E C G T} (hok : OrdOk E C G T) {x : Event} (hk : ¬ (x.kind ≠ 4 ∧ EvRel x)) (k o : Int) : ((look T ⟨k, o⟩).getD nilSV).l = (addS (stOf E) x).t k o := by
  unfold addS; simp only; rw [if_neg hk]; exact hok.t k o
theorem add_t1 {E C G T} (hok : OrdOk E C G T) {x : Event} {v : SV} (hk : x.kind ≠ 4 ∧ EvRel x) (hv : v.l = join2 ((stOf E).t x.kind x.obj) (tick1 (accS (stOf E) x) x.g)) (k o : Int) : ((look (put T ⟨x.kind, x.obj⟩ v) ⟨k, o⟩).getD nilSV).l = (addS (stOf E) x).t k o := by
  unfold addS; simp only; rw [if_pos hk, look_put]
  by_cases h : k = x.kind ∧ o = x.obj
  · obtain ⟨rfl, rfl⟩ := h; rw [if_pos rfl, if_pos ⟨rfl, rfl⟩]; exact hv
  · rw [if_neg (fun e => h (by cases e; exact ⟨rfl, rfl⟩)), if_neg h]; exact hok.t k o
set_option maxRecDepth 100000 in
theorem e_oadd (m : Nat) (Ae : Option Addr) (ce : Nat) (E : List Event) (Ak : Option Addr) (ck : Nat) (C : List SV) (bg : Nat) (G : List (Int × SV)) (bt : Nat) (T : List (Thing × SV)) (x : Event) (w : World) (ho_o : (OrdR m Ae ce E Ak ck C bg G bt T).p w) (hl_o : ∀ x_ ∈ (OrdR m Ae ce E Ak ck C bg G bt T).fp, x_ < w.heap.size) (hok : OrdOk E C G T) (hxa : 0 ≤ x.addr ∧ x.addr ≤ 4294967295) : Calls Tryz.prog 19 #[Value.pointer (some ⟨m, 0, none⟩), x.v] w (fun e w' => ∃ er : Int, ∃ E' : List Event, ∃ Ae' : Option Addr, ∃ ce' : Nat, ∃ C' : List SV, ∃ Ak' : Option Addr, ∃ ck' : Nat, ∃ G' : List (Int × SV), ∃ T' : List (Thing × SV), e = .returned (Value.int .i64 er) ∧ ((er, E') = addE E x) ∧ (OrdOk E' C' G' T') ∧ Upd (OrdR m Ae ce E Ak ck C bg G bt T) (OrdR m Ae' ce' E' Ak' ck' C' bg G' bt T') w w') := by
 have _hu := ho_o; have _hv := hl_o; clear _hu _hv
 have _hu := hok; clear _hu
 have _hu := hxa; clear _hu
 have hlc_ := hok.clen; have hll_ := hok.len
 refine enter_E 131 Tryz.func19 rfl rfl (by kernel_rfl) (L := [(0, Value.pointer (some ⟨m, 0, none⟩)), (1, x.v)]) (by kernel_rfl) ?_
 intro ac hA
 have hW : Ws w (· ∈ (OrdR m Ae ce E Ak ck C bg G bt T).fp) [Cel m #[Value.slice Ae E.length ce, Value.slice Ak C.length ck, Value.map (some bg), Value.map (some bt)] 75, rowR 50 9 enEvent (Value.slice Ae E.length ce) E, rowR 54 1 enSV (Value.slice Ak C.length ck) C, mapR bg (fun a : Int => Value.int .i64 a) SV.v G, mapR bt Thing.v SV.v T, nestR innerSV (NV C G T)] [] w := Ws.unpack (K := []) (objW ho_o hl_o)
 clear ho_o hl_o
 refine wp_seq ?_
 refine wp_region_lit ?_
 refine st_s hA (Runs.cells (fun b => Value.pointer (some ⟨b, 0, none⟩)) #[Value.int .i64 x.g, Value.int .i64 x.kind, Value.int .i64 x.site.f, Value.int .i64 x.site.pc, Value.int .u32 x.addr, Value.int .i64 x.child, Value.int .i64 x.obj, Value.int .i64 x.n, Value.int .i64 x.trap] 50 (fun _ => by kernel_rfl) hW ?_); clear hA ac hW; intro b1 w2 hW hb1 hfw2 ac hA
 refine st_p (Value.int .i64 0) hA ?_; clear hA ac; intro ac hA
 refine wpList_nil ?_
 refine thenN ?_
 refine wp_fwd (l := 0) rfl ?_
 refine wp_seq ?_
 refine wp_region_lit ?_
 refine st_p (Value.slice none 0 0) hA ?_; clear hA ac; intro ac hA
 refine wpList_nil ?_
 refine thenN ?_
 refine wp_seq ?_
 refine wp_seq ?_
 refine wp_region_lit ?_
 refine st_p (Value.int .i64 1) hA ?_; clear hA ac; intro ac hA
 refine wpList_nil ?_
 refine thenN ?_
 refine wp_seq ?_
 refine wp_region_lit ?_
 refine st_p (Value.pointer (some ⟨m, 0, none⟩)) hA ?_; clear hA ac; intro ac hA
 refine st_s hA (Runs.callN (v := Value.bool false) (fun _ => by kernel_rfl) hW (e_onone m (Value.slice Ae E.length ce) (Value.slice Ak C.length ck) bg bt w2 ((hW).cel 1 rfl)) ?_); clear hA ac hW; intro w3 hW hfw3 ac hA
 refine wpList_nil ?_
 refine thenN ?_
 refine wp_cond_false (hA.eval (by kernel_rfl)) ?_
 refine wp_skip ?_
 refine thenN ?_
 refine wp_seq ?_
 refine wp_seq ?_
 refine wp_region_lit ?_
 refine st_p (Value.int .i64 3) hA ?_; clear hA ac; intro ac hA
 refine wpList_nil ?_
 refine thenN ?_
 refine wp_seq ?_
 refine wp_region_lit ?_
 refine st_p (Value.pointer (some ⟨m, 0, none⟩)) hA fun ac hA => st_p (Value.pointer (some ⟨m, 0, none⟩)) hA fun ac hA => st_p (Value.pointer (some ⟨m, 0, none⟩)) hA fun ac hA => st_p (Value.pointer (some ⟨m, 0, none⟩)) hA fun ac hA => st_q (Value.slice Ae E.length ce) hA hW.cls (Rd.load (b := m) (i := 0) (by kernel_rfl) (fun _ hw => (hw.1).cel 1 rfl) (by kernel_rfl)) fun ac hA => st_p (Value.int .i64 ((E.length : Nat) : Int)) hA fun ac hA => st_p (Value.bool (decide ((((E.length : Nat) : Int) : Int) ≥ (4096 : Int)))) hA fun ac hA => ?_
 refine wpList_nil ?_
 refine thenN ?_
 refine wp_cond_split (t := decide ((((E.length : Nat) : Int) : Int) ≥ (4096 : Int))) (hA.eval (by kernel_rfl)) (fun h4 => ?_) (fun h4 => ?_)
 ·
  have h4 := of_decide_eq_true h4
  first
  | (exfalso; clear hA hW; omega)
  | (
   refine wp_goto ?_
   refine thenG ?_
   refine fwdG ?_
   refine wp_seq ?_
   refine wp_skip ?_
   refine thenN ?_
   refine wp_seq ?_
   refine wp_region_lit ?_
   refine st_p (Value.int .i64 3) hA fun ac hA => st_p (Value.int .i64 3) hA fun ac hA => ?_
   refine wpList_nil ?_
   refine thenN ?_
   refine wp_ret ?_
   refine nogR ?_
   refine ret1 (v := Value.int .i64 3) (by rfl) hA (Got.tmp hA (by kernel_rfl) (by kernel_rfl)) ?_
   clear hA
   exact ⟨3, E, Ae, ce, C, Ak, ck, G, T, rfl, by exact addE_no3 (by omega), by exact hok, (Ws.pack (K := []) (show Ws w (· ∈ (OrdR m Ae ce E Ak ck C bg G bt T).fp) ([Cel m #[Value.slice Ae E.length ce, Value.slice Ak C.length ck, Value.map (some bg), Value.map (some bt)] 75, rowR 50 9 enEvent (Value.slice Ae E.length ce) E, rowR 54 1 enSV (Value.slice Ak C.length ck) C, mapR bg (fun a : Int => Value.int .i64 a) SV.v G, mapR bt Thing.v SV.v T, nestR innerSV (NV C G T)] ++ []) [] _ from hW.pick [1, 2, 3, 4, 5, 6] (by decide) rfl)).updDone 0 rfl⟩)
 have h4 := of_decide_eq_false h4
 first
 | (exfalso; clear hA hW; omega)
 | (
  refine wp_skip ?_
  refine thenN ?_
  refine wp_seq ?_
  refine wp_seq ?_
  refine wp_region_lit ?_
  refine st_q (Value.agg #[Value.int .i64 x.g, Value.int .i64 x.kind, Value.int .i64 x.site.f, Value.int .i64 x.site.pc, Value.int .u32 x.addr, Value.int .i64 x.child, Value.int .i64 x.obj, Value.int .i64 x.n, Value.int .i64 x.trap]) hA hW.cls (Rd.load (b := b1) (i := 0) (by kernel_rfl) (fun _ hw => (hw.1).cel 0 rfl) (by kernel_rfl)) ?_; clear hA ac; intro ac hA
  refine st_s hA (Runs.callN (v := Value.int .i64 (argErr (evOk x))) (fun _ => by kernel_rfl) hW (e_echeck x w3 (by first | omega | assumption | (show (2 : Nat) ≤ 1000; decide) | exact jn_hx (by assumption) (by assumption) | exact jn_hf (by assumption) (by assumption) | exact (fun n hn => ⟨(hcb.2 n hn).1, by have := (hcb.2 n hn).2; have := hok.len; omega⟩))) ?_); clear hA ac hW; intro w5 hW hfw5 ac hA
  refine st_p (Value.int .i64 (argErr (evOk x))) hA ?_; clear hA ac; intro ac hA
  refine wpList_nil ?_
  refine thenN ?_
  refine wp_seq ?_
  refine wp_region_lit ?_
  refine st_p (Value.int .i64 (argErr (evOk x))) hA fun ac hA => st_p (Value.bool ((argErr (evOk x) : Int) != (0 : Int))) hA fun ac hA => ?_
  refine wpList_nil ?_
  refine thenN ?_
  refine wp_cond_split (t := (argErr (evOk x) : Int) != (0 : Int)) (hA.eval (by kernel_rfl)) (fun h6 => ?_) (fun h6 => ?_)
  ·
   have h6 := bne_iff_ne.1 h6
   first
   | (exfalso; clear hA hW; omega)
   | (
    refine wp_goto ?_
    refine thenG ?_
    refine fwdG ?_
    refine wp_seq ?_
    refine wp_skip ?_
    refine thenN ?_
    refine wp_seq ?_
    refine wp_region_lit ?_
    refine st_p (Value.int .i64 (argErr (evOk x))) hA fun ac hA => st_p (Value.int .i64 (argErr (evOk x))) hA fun ac hA => ?_
    refine wpList_nil ?_
    refine thenN ?_
    refine wp_ret ?_
    refine nogR ?_
    refine ret1 (v := Value.int .i64 (argErr (evOk x))) (by rfl) hA (Got.tmp hA (by kernel_rfl) (by kernel_rfl)) ?_
    clear hA
    exact ⟨argErr (evOk x), E, Ae, ce, C, Ak, ck, G, T, rfl, by rw [(ev_no h6).2]; exact addE_no2 (by omega) (ev_no h6).1, by exact hok, (Ws.pack (K := []) (show Ws w (· ∈ (OrdR m Ae ce E Ak ck C bg G bt T).fp) ([Cel m #[Value.slice Ae E.length ce, Value.slice Ak C.length ck, Value.map (some bg), Value.map (some bt)] 75, rowR 50 9 enEvent (Value.slice Ae E.length ce) E, rowR 54 1 enSV (Value.slice Ak C.length ck) C, mapR bg (fun a : Int => Value.int .i64 a) SV.v G, mapR bt Thing.v SV.v T, nestR innerSV (NV C G T)] ++ []) [] _ from hW.pick [1, 2, 3, 4, 5, 6] (by decide) rfl)).updDone 0 rfl⟩)
  have h6 := of_bne_f h6
  first
  | (exfalso; clear hA hW; omega)
  | (
   refine wp_skip ?_
   refine thenN ?_
   refine wp_seq ?_
   have hW := hW.share 6 rfl (H' := [Cel b1 #[Value.int .i64 x.g, Value.int .i64 x.kind, Value.int .i64 x.site.f, Value.int .i64 x.site.pc, Value.int .u32 x.addr, Value.int .i64 x.child, Value.int .i64 x.obj, Value.int .i64 x.n, Value.int .i64 x.trap] 50, Cel m #[Value.slice Ae E.length ce, Value.slice Ak C.length ck, Value.map (some bg), Value.map (some bt)] 75, rowR 50 9 enEvent (Value.slice Ae E.length ce) E, rowR 54 1 enSV (Value.slice Ak C.length ck) C, mapR bg (fun a : Int => Value.int .i64 a) SV.v G, mapR bt Thing.v SV.v T]) rfl
   have hxo_ := ev_of h6; have hxx_ := hxo_; unfold EvOk at hxx_; have hfl_ := fromL_len x.kind
   obtain ⟨c7_l, c7_l_A, c7_l_c, hqc7⟩ : ∃ l A c, (look G (x.g : Int)).getD nilSV = (⟨l, A, c⟩ : SV) := ⟨_, _, _, rfl⟩
   have hmc7 : (⟨c7_l, c7_l_A, c7_l_c⟩ : SV) ∈ NV C G T := hqc7 ▸ nv_g _
   have hW := Ws.nestAt (inner := innerSV) (x := ⟨c7_l, c7_l_A, c7_l_c⟩) hW 0 rfl hmc7
   replace hW : Ws w (· ∈ (OrdR m Ae ce E Ak ck C bg G bt T).fp) [Cel b1 #[Value.int .i64 x.g, Value.int .i64 x.kind, Value.int .i64 x.site.f, Value.int .i64 x.site.pc, Value.int .u32 x.addr, Value.int .i64 x.child, Value.int .i64 x.obj, Value.int .i64 x.n, Value.int .i64 x.trap] 50, Cel m #[Value.slice Ae E.length ce, Value.slice Ak C.length ck, Value.map (some bg), Value.map (some bt)] 75, rowR 50 9 enEvent (Value.slice Ae E.length ce) E, rowR 54 1 enSV (Value.slice Ak C.length ck) C, mapR bg (fun a : Int => Value.int .i64 a) SV.v G, mapR bt Thing.v SV.v T] [roR c7_l_A 1 enU8 c7_l, nestR innerSV (NV C G T)] w5 := hW
   have hc_c7_l : c7_l.length ≤ c7_l_c := hok.cap _ hmc7
   have hbc7 : Bd (E.length : Int) c7_l := hok.bd _ hmc7
   have hblc7 := hbc7.1
   have hsc7_l : Res.src (roR c7_l_A 1 enU8 c7_l) [nestR innerSV (NV C G T)] w := nsrc_at (inner := innerSV) (x := ⟨c7_l, c7_l_A, c7_l_c⟩) (src_arg (.head _)) hmc7
   have hec7 : c7_l = (stOf E).g x.g := (congrArg SV.l hqc7).symm.trans (hok.g _)
   refine q_region (by kernel_rfl) (by kernel_rfl) hW ?_
   refine sq_p (Value.pointer (some ⟨m, 0, none⟩)) hA fun ac hA => sq_p (Value.pointer (some ⟨m, 0, none⟩)) hA fun ac hA => sq_p (Value.pointer (some ⟨m, 2, none⟩)) hA fun ac hA => sq_q (Value.map (some bg)) hA (Rd.load (b := m) (i := 2) (by kernel_rfl) (fun _ hw => (hw.1).cel 1 rfl) (by kernel_rfl)) fun ac hA => sq_p (Value.pointer (some ⟨b1, 0, none⟩)) hA fun ac hA => sq_q (Value.int .i64 x.g) hA (Rd.load (b := b1) (i := 0) (by kernel_rfl) (fun _ hw => (hw.1).cel 0 rfl) (by kernel_rfl)) fun ac hA => sq_q (Value.slice c7_l_A c7_l.length c7_l_c) hA ((Rd.lookup (k := 3) (e := 54) (ek := (fun a : Int => Value.int .i64 a)) (ev := SV.v) (m := G) (z := Value.slice none 0 0) (x.g : Int) false (by kernel_rfl) (by kernel_rfl) (KeyE.int (by kernel_rfl)) (by kernel_rfl) (fun _ => by kernel_rfl) (fun _ hw => (hw.1).get 4 rfl)).cast (by have q_ := congrArg SV.v hqc7; revert q_; generalize look G (x.g : Int) = o_; intro q_; cases o_ <;> exact q_)) fun ac hA => sq_p (Value.slice c7_l_A c7_l.length c7_l_c) hA fun ac hA => ?_
   refine sq_nil ?_; intro w8 hww8; have hW := hww8.1; have hfw8 := hww8.2; clear hww8
   refine thenN ?_
   refine wp_seq ?_
   refine wp_seq ?_
   refine wp_region_lit ?_
   refine st_p (Value.pointer (some ⟨b1, 1, none⟩)) hA fun ac hA => st_q (Value.int .i64 x.kind) hA hW.cls (Rd.load (b := b1) (i := 1) (by kernel_rfl) (fun _ hw => (hw.1).cel 0 rfl) (by kernel_rfl)) fun ac hA => ?_
   refine st_s hA (Runs.call (fun _ => by kernel_rfl) (e_ofrom (x.kind) w8) ?_)
   rintro _ w9 ⟨Ao10, co11, rfl, hcco11, hfco11, hfw9⟩; refine ⟨_, rfl, ?_⟩; have hW0 := hW; have hW := hW0.call hfw9
   have hW := hW0.addFromAt hW hfco11 in_nil
   have hsco11 : Res.src (roR Ao10 1 enKd (fromL (x.kind))) [nestR innerSV (NV C G T)] w := src_call hfco11 srcs_nil hW0.fr.size
   clear hW0 hA ac; intro ac hA
   refine st_p (Value.int .i64 (((fromL (x.kind)).length : Nat) : Int)) hA fun ac hA => st_p (Value.int .i64 0) hA fun ac hA => ?_
   refine wpList_nil ?_
   refine thenN ?_
   refine wp_block ?_
   refine wp_loop_m (fun m_ ac_ wl_ => ∃ k : Nat, ∃ cl : List Int, ∃ cA : Option Addr, ∃ cc : Nat, m_ = (fromL x.kind).length - k ∧ (k ≤ (fromL x.kind).length) ∧ (cl = ((fromL x.kind).take k).foldl (fun c k => join2 c ((stOf E).t k x.obj)) ((stOf E).g x.g)) ∧ (Bd (E.length : Int) cl) ∧ (cl.length ≤ cc) ∧ (Res.src (roR cA 1 enU8 cl) [nestR innerSV (NV C G T)] w) ∧ Fm 131 [] [(0, Value.pointer (some ⟨m, 0, none⟩)), (3, Value.pointer (some ⟨b1, 0, none⟩)), (5, Value.slice cA cl.length cc), (31, Value.slice Ao10 (fromL (x.kind)).length co11), (32, Value.int .i64 (((fromL (x.kind)).length : Nat) : Int)), (33, Value.int .i64 ((k : Nat) : Int))] ac_ ∧ Ws w (· ∈ (OrdR m Ae ce E Ak ck C bg G bt T).fp) [Cel b1 #[Value.int .i64 x.g, Value.int .i64 x.kind, Value.int .i64 x.site.f, Value.int .i64 x.site.pc, Value.int .u32 x.addr, Value.int .i64 x.child, Value.int .i64 x.obj, Value.int .i64 x.n, Value.int .i64 x.trap] 50, Cel m #[Value.slice Ae E.length ce, Value.slice Ak C.length ck, Value.map (some bg), Value.map (some bt)] 75, rowR 50 9 enEvent (Value.slice Ae E.length ce) E, rowR 54 1 enSV (Value.slice Ak C.length ck) C, mapR bg (fun a : Int => Value.int .i64 a) SV.v G, mapR bt Thing.v SV.v T] [roR cA 1 enU8 cl, roR Ao10 1 enKd (fromL (x.kind)), nestR innerSV (NV C G T)] wl_) _ ⟨0, c7_l, c7_l_A, c7_l_c, rfl, by omega, by simpa using hec7, by exact hbc7, by exact hc_c7_l, by exact hsc7_l, hA.sub (by and_intros <;> first | kernel_rfl | trivial), (hW.pick [0, 1, 2, 3, 4, 5] (by decide) rfl).pickG [1, 0, 2] rfl⟩ ?_
   clear hA ac hW; rintro m_ ac w12 ⟨k, cl, cA, cc, rfl, hk, hcl, hcb, hc_acc, hsacc, hA, hW⟩
   have hcb1_ := hcb.1
   refine wp_seq ?_
   refine wp_region_lit ?_
   refine st_p (Value.bool (decide ((((k : Nat) : Int) : Int) < ((((fromL (x.kind)).length : Nat) : Int) : Int)))) hA ?_; clear hA ac; intro ac hA
   refine wpList_nil ?_
   refine thenN ?_
   refine wp_seq ?_
   refine wp_cond_split (t := decide ((((k : Nat) : Int) : Int) < ((((fromL (x.kind)).length : Nat) : Int) : Int))) (hA.eval (by kernel_rfl)) (fun h13 => ?_) (fun h13 => ?_)
   ·
    have h13 := of_decide_eq_true h13
    first
    | (exfalso; clear hA hW; omega)
    | (
     refine wp_skip ?_
     refine thenN ?_
     refine wp_seq ?_
     refine wp_block ?_
     refine wp_seq ?_
     refine wp_region_lit ?_
     obtain ⟨y14, hy14⟩ : ∃ y, (fromL (x.kind))[k]? = some y := ⟨_, List.getElem?_eq_getElem (by first | omega | (simp; done) | (simp; omega))⟩
     obtain ⟨b15, o16, rfl, hbb15⟩ := row_some ((hW).getG 1 rfl) hy14
     refine st_q (Value.pointer (some ⟨b15, o16 + k * 1, none⟩)) hA hW.cls (Rd.indexAddr (e := 44) (sz := 1) (b := b15) (off := o16) (n := (fromL (x.kind)).length) (c := co11) (k := k) (by kernel_rfl) (by kernel_rfl) (by first | omega | (simp; done) | (simp; omega)) (fun _ => by kernel_rfl) (fun _ => by kernel_rfl)) fun ac hA => st_q (Value.int .i64 y14) hA hW.cls (Rd.loadRow (b := b15) (i := o16 + k * 1) (xs := [Value.int .i64 y14]) (by kernel_rfl) (fun _ hw => row_ld ((hw.1).getG 1 rfl) hy14 (Fr.refl No _) (fun h => h) 0 1 (by kernel_rfl)) (by kernel_rfl)) fun ac hA => st_p (Value.int .i64 y14) hA fun ac hA => ?_
     refine wpList_nil ?_
     refine thenN ?_
     obtain ⟨c17_l, c17_l_A, c17_l_c, hqc17⟩ : ∃ l A c, (look T (⟨y14, x.obj⟩ : Thing)).getD nilSV = (⟨l, A, c⟩ : SV) := ⟨_, _, _, rfl⟩
     have hmc17 : (⟨c17_l, c17_l_A, c17_l_c⟩ : SV) ∈ NV C G T := hqc17 ▸ nv_t _
     have hW := Ws.nestAt (inner := innerSV) (x := ⟨c17_l, c17_l_A, c17_l_c⟩) hW 2 rfl hmc17
     replace hW : Ws w (· ∈ (OrdR m Ae ce E Ak ck C bg G bt T).fp) [Cel b1 #[Value.int .i64 x.g, Value.int .i64 x.kind, Value.int .i64 x.site.f, Value.int .i64 x.site.pc, Value.int .u32 x.addr, Value.int .i64 x.child, Value.int .i64 x.obj, Value.int .i64 x.n, Value.int .i64 x.trap] 50, Cel m #[Value.slice Ae E.length ce, Value.slice Ak C.length ck, Value.map (some bg), Value.map (some bt)] 75, rowR 50 9 enEvent (Value.slice Ae E.length ce) E, rowR 54 1 enSV (Value.slice Ak C.length ck) C, mapR bg (fun a : Int => Value.int .i64 a) SV.v G, mapR bt Thing.v SV.v T] [roR c17_l_A 1 enU8 c17_l, roR cA 1 enU8 cl, roR (some ⟨b15, o16, none⟩) 1 enKd (fromL (x.kind)), nestR innerSV (NV C G T)] w12 := hW
     have hc_c17_l : c17_l.length ≤ c17_l_c := hok.cap _ hmc17
     have hbc17 : Bd (E.length : Int) c17_l := hok.bd _ hmc17
     have hblc17 := hbc17.1
     have hsc17_l : Res.src (roR c17_l_A 1 enU8 c17_l) [nestR innerSV (NV C G T)] w := nsrc_at (inner := innerSV) (x := ⟨c17_l, c17_l_A, c17_l_c⟩) (src_arg (.head _)) hmc17
     have hec17 : c17_l = (stOf E).t y14 x.obj := (congrArg SV.l hqc17).symm.trans (hok.t _ _)
     refine wp_cut (fun ac_ wl_ => ∃ Aor12_11 : Option Addr, ∃ br12_10 : Nat, ∃ cor12_11 : Nat, ∃ g0r12_11 : List Int, ((g0r12_11).length ≤ cor12_11) ∧ (∀ x_ ∈ ([] : List SV), capSV x_) ∧ (∀ x_ ∈ ([(⟨c17_l, c17_l_A, c17_l_c⟩ : SV)] : List SV), capSV x_) ∧ (∀ x_ ∈ ([(⟨cl, cA, cc⟩ : SV), (⟨c17_l, c17_l_A, c17_l_c⟩ : SV)] : List SV), capSV x_) ∧ (g0r12_11 = trimC (foldJ ([(⟨cl, cA, cc⟩ : SV), (⟨c17_l, c17_l_A, c17_l_c⟩ : SV)] : List SV))) ∧ (Res.src (roR Aor12_11 1 enU8 g0r12_11) [nestR innerSV (NV C G T)] w) ∧ (Res.src (nestR innerSV ([] : List SV)) [nestR innerSV (NV C G T)] w) ∧ (Res.src (nestR innerSV ([(⟨c17_l, c17_l_A, c17_l_c⟩ : SV)] : List SV)) [nestR innerSV (NV C G T)] w) ∧ (Res.src (nestR innerSV ([(⟨cl, cA, cc⟩ : SV), (⟨c17_l, c17_l_A, c17_l_c⟩ : SV)] : List SV)) [nestR innerSV (NV C G T)] w) ∧ (Res.src (roR (some ⟨br12_10, 0, none⟩) 1 enSV ([(⟨cl, cA, cc⟩ : SV), (⟨c17_l, c17_l_A, c17_l_c⟩ : SV)] : List SV)) [nestR innerSV (NV C G T)] w) ∧ Fm 131 [] [(0, Value.pointer (some ⟨m, 0, none⟩)), (3, Value.pointer (some ⟨b1, 0, none⟩)), (5, Value.slice Aor12_11 (g0r12_11).length cor12_11), (31, Value.slice (some ⟨b15, o16, none⟩) (fromL (x.kind)).length co11), (32, Value.int .i64 (((fromL (x.kind)).length : Nat) : Int)), (33, Value.int .i64 ((k : Nat) : Int)), (34, Value.bool (decide ((((k : Nat) : Int) : Int) < ((((fromL (x.kind)).length : Nat) : Int) : Int)))), (35, Value.pointer (some ⟨b15, o16 + k * 1, none⟩)), (36, Value.int .i64 y14)] ac_ ∧ Ws w (· ∈ (OrdR m Ae ce E Ak ck C bg G bt T).fp) [Cel b1 #[Value.int .i64 x.g, Value.int .i64 x.kind, Value.int .i64 x.site.f, Value.int .i64 x.site.pc, Value.int .u32 x.addr, Value.int .i64 x.child, Value.int .i64 x.obj, Value.int .i64 x.n, Value.int .i64 x.trap] 50, Cel m #[Value.slice Ae E.length ce, Value.slice Ak C.length ck, Value.map (some bg), Value.map (some bt)] 75, rowR 50 9 enEvent (Value.slice Ae E.length ce) E, rowR 54 1 enSV (Value.slice Ak C.length ck) C, mapR bg (fun a : Int => Value.int .i64 a) SV.v G, mapR bt Thing.v SV.v T] [roR Aor12_11 1 enU8 g0r12_11, nestR innerSV ([(⟨cl, cA, cc⟩ : SV), (⟨c17_l, c17_l_A, c17_l_c⟩ : SV)] : List SV), nestR innerSV ([(⟨c17_l, c17_l_A, c17_l_c⟩ : SV)] : List SV), nestR innerSV ([] : List SV), roR (some ⟨br12_10, 0, none⟩) 1 enSV ([(⟨cl, cA, cc⟩ : SV), (⟨c17_l, c17_l_A, c17_l_c⟩ : SV)] : List SV), Cel br12_10 #[Value.slice cA cl.length cc, Value.slice c17_l_A c17_l.length c17_l_c] 54, roR c17_l_A 1 enU8 c17_l, roR cA 1 enU8 cl, roR (some ⟨b15, o16, none⟩) 1 enKd (fromL (x.kind)), nestR innerSV (NV C G T)] wl_) ?_ ?_
     · refine sr_region (m := 13) (C := Ws w (· ∈ (OrdR m Ae ce E Ak ck C bg G bt T).fp) [Cel b1 #[Value.int .i64 x.g, Value.int .i64 x.kind, Value.int .i64 x.site.f, Value.int .i64 x.site.pc, Value.int .u32 x.addr, Value.int .i64 x.child, Value.int .i64 x.obj, Value.int .i64 x.n, Value.int .i64 x.trap] 50, Cel m #[Value.slice Ae E.length ce, Value.slice Ak C.length ck, Value.map (some bg), Value.map (some bt)] 75, rowR 50 9 enEvent (Value.slice Ae E.length ce) E, rowR 54 1 enSV (Value.slice Ak C.length ck) C, mapR bg (fun a : Int => Value.int .i64 a) SV.v G, mapR bt Thing.v SV.v T] [roR c17_l_A 1 enU8 c17_l, roR cA 1 enU8 cl, roR (some ⟨b15, o16, none⟩) 1 enKd (fromL (x.kind)), nestR innerSV (NV C G T)]) (fun i => [4, 7, 9].contains i) (fun i => [4, 7, 9].contains i) (fun i => [0, 1, 2, 3, 5, 6, 8, 12].contains i) (by kernel_rfl) (by kernel_rfl) (by kernel_rfl) (by kernel_rfl) hW ?_; clear hW; intro w18 hW hfw18 hR; have hC : Ws w (· ∈ (OrdR m Ae ce E Ak ck C bg G bt T).fp) [Cel b1 #[Value.int .i64 x.g, Value.int .i64 x.kind, Value.int .i64 x.site.f, Value.int .i64 x.site.pc, Value.int .u32 x.addr, Value.int .i64 x.child, Value.int .i64 x.obj, Value.int .i64 x.n, Value.int .i64 x.trap] 50, Cel m #[Value.slice Ae E.length ce, Value.slice Ak C.length ck, Value.map (some bg), Value.map (some bt)] 75, rowR 50 9 enEvent (Value.slice Ae E.length ce) E, rowR 54 1 enSV (Value.slice Ak C.length ck) C, mapR bg (fun a : Int => Value.int .i64 a) SV.v G, mapR bt Thing.v SV.v T] [roR c17_l_A 1 enU8 c17_l, roR cA 1 enU8 cl, roR (some ⟨b15, o16, none⟩) 1 enKd (fromL (x.kind)), nestR innerSV (NV C G T)] w18 := hW.pick [0, 1, 2, 3, 4, 5] (by decide) rfl
       refine sr_p 0 (Value.slice cA cl.length cc) hR rfl hA fun ac hA => sr_p 1 (Value.pointer (some ⟨m, 0, none⟩)) hR rfl hA fun ac hA => sr_p 2 (Value.pointer (some ⟨m, 0, none⟩)) hR rfl hA fun ac hA => sr_p 3 (Value.pointer (some ⟨m, 3, none⟩)) hR rfl hA fun ac hA => sr_t 4 (Value.map (some bt)) hR rfl hA hC (Rd.load (b := m) (i := 3) (by kernel_rfl) (fun _ hw => (hw).cel 1 rfl) (by kernel_rfl)) fun ac hA => sr_p 5 (Value.int .i64 y14) hR rfl hA fun ac hA => sr_p 6 (Value.pointer (some ⟨b1, 6, none⟩)) hR rfl hA fun ac hA => sr_t 7 (Value.int .i64 x.obj) hR rfl hA hC (Rd.load (b := b1) (i := 6) (by kernel_rfl) (fun _ hw => (hw).cel 0 rfl) (by kernel_rfl)) fun ac hA => sr_p 8 (Value.agg #[Value.int .i64 y14, Value.int .i64 x.obj]) hR rfl hA fun ac hA => sr_t 9 (Value.slice c17_l_A c17_l.length c17_l_c) hR rfl hA hC ((Rd.lookup (k := 91) (e := 54) (ek := Thing.v) (ev := SV.v) (m := T) (z := Value.slice none 0 0) (⟨y14, x.obj⟩ : Thing) false (by kernel_rfl) (by kernel_rfl) thingKey (by kernel_rfl) (fun _ => by kernel_rfl) (fun _ hw => (hw).get 5 rfl)).cast (by have q_ := congrArg SV.v hqc17; revert q_; generalize look T (⟨y14, x.obj⟩ : Thing) = o_; intro q_; cases o_ <;> exact q_)) fun ac hA => ?_
       have hzbr12_10 := hW.fr.size
       refine sr_one (i := 10) (by kernel_rfl) (sr_d rfl hA (Runs.cells (fun b => Value.slice (some ⟨b, 0, none⟩) 2 2) #[Value.slice cA cl.length cc, Value.slice c17_l_A c17_l.length c17_l_c] 54 (fun _ => by kernel_rfl) hW ?_)); clear hA ac hW; intro br12_10 w19 hW hbr12_10 hfw19 ac hA
       refine qn ?_
       have hsro_br12_10 : Res.src (roR (some ⟨br12_10, 0, none⟩) 1 enSV ([(⟨cl, cA, cc⟩ : SV), (⟨c17_l, c17_l_A, c17_l_c⟩ : SV)] : List SV)) [nestR innerSV (NV C G T)] w := fun b_ hb_ => .inr (by have q_ := cel_fp (T := 54) (cs := #[Value.slice cA cl.length cc, Value.slice c17_l_A c17_l.length c17_l_c]) b_ hb_; simp only [Cel, List.mem_singleton] at q_; omega)
       have hW := hW.share 0 rfl (H' := [Cel b1 #[Value.int .i64 x.g, Value.int .i64 x.kind, Value.int .i64 x.site.f, Value.int .i64 x.site.pc, Value.int .u32 x.addr, Value.int .i64 x.child, Value.int .i64 x.obj, Value.int .i64 x.n, Value.int .i64 x.trap] 50, Cel m #[Value.slice Ae E.length ce, Value.slice Ak C.length ck, Value.map (some bg), Value.map (some bt)] 75, rowR 50 9 enEvent (Value.slice Ae E.length ce) E, rowR 54 1 enSV (Value.slice Ak C.length ck) C, mapR bg (fun a : Int => Value.int .i64 a) SV.v G, mapR bt Thing.v SV.v T]) rfl
       have hW := hW.nestG (roR (some ⟨br12_10, 0, none⟩) 1 enSV ([(⟨cl, cA, cc⟩ : SV), (⟨c17_l, c17_l_A, c17_l_c⟩ : SV)] : List SV)) (rowAt_cel (show _ = _ from hW.getG 0 rfl) ([(⟨cl, cA, cc⟩ : SV), (⟨c17_l, c17_l_A, c17_l_c⟩ : SV)] : List SV) (by rfl) elt_SV.len) (fun _ hb_ => ⟨_, List.mem_of_getElem? (i := 0) rfl, cel_fp _ hb_⟩)
       have hW := hW.nestNil innerSV
       have hknq12_11 : ∀ x_ ∈ ([] : List SV), capSV x_ := all_nil
       have hsnq12_11 : Res.src (nestR innerSV ([] : List SV)) [nestR innerSV (NV C G T)] w := nsrc_nil
       have hW := Ws.nestCons (inner := innerSV) hW 0 rfl (⟨c17_l, c17_l_A, c17_l_c⟩ : SV) (hW.getG 3 rfl) (fun _ hb_ => ⟨_, List.mem_of_getElem? (i := 3) rfl, hb_⟩)
       have hknq12_11x1 : ∀ x_ ∈ ([(⟨c17_l, c17_l_A, c17_l_c⟩ : SV)] : List SV), capSV x_ := all_cons (show c17_l.length ≤ c17_l_c from (by first | assumption | omega | (simp; omega) | simp)) hknq12_11
       have hsnq12_11x1 : Res.src (nestR innerSV ([(⟨c17_l, c17_l_A, c17_l_c⟩ : SV)] : List SV)) [nestR innerSV (NV C G T)] w := nsrc_cons hsc17_l hsnq12_11
       have hW := Ws.nestCons (inner := innerSV) hW 0 rfl (⟨cl, cA, cc⟩ : SV) (hW.getG 5 rfl) (fun _ hb_ => ⟨_, List.mem_of_getElem? (i := 5) rfl, hb_⟩)
       have hknq12_11x2 : ∀ x_ ∈ ([(⟨cl, cA, cc⟩ : SV), (⟨c17_l, c17_l_A, c17_l_c⟩ : SV)] : List SV), capSV x_ := all_cons (show cl.length ≤ cc from (by first | assumption | omega | (simp; omega) | simp)) hknq12_11x1
       have hsnq12_11x2 : Res.src (nestR innerSV ([(⟨cl, cA, cc⟩ : SV), (⟨c17_l, c17_l_A, c17_l_c⟩ : SV)] : List SV)) [nestR innerSV (NV C G T)] w := nsrc_cons hsacc hsnq12_11x1
       refine sr_one (i := 11) (by kernel_rfl) (sr_d rfl hA (Runs.call (fun _ => by kernel_rfl) (e_vjoin (some ⟨br12_10, 0, none⟩) 2 ([(⟨cl, cA, cc⟩ : SV), (⟨c17_l, c17_l_A, c17_l_c⟩ : SV)] : List SV) w19 ((hW).getG 3 rfl) (by first | assumption | omega | (simp; omega) | simp) ((hW).getG 0 rfl) hknq12_11x2 (show (2 : Nat) ≤ 1000 from by decide) (jn_hx (by assumption) (by assumption)) (jn_hf (by assumption) (by assumption))) ?_))
       rintro _ w20 ⟨g0r12_11, Aor12_11, cor12_11, rfl, hr12_11_hO, hccor12_11, hfcor12_11, hfw20⟩; refine ⟨_, rfl, ?_⟩; have hW0 := hW; have hW := hW0.call hfw20
       have hW := hW0.addFromAt hW hfcor12_11 (in_cons (in_at 3 rfl) (in_cons (in_at 0 rfl) in_nil))
       have hscor12_11 : Res.src (roR Aor12_11 1 enU8 g0r12_11) [nestR innerSV (NV C G T)] w := src_call hfcor12_11 (srcs_cons hsro_br12_10 (srcs_cons hsnq12_11x2 srcs_nil)) hW0.fr.size
       clear hW0 hA ac; intro ac hA
       refine qn ?_
       refine sr_p 12 (Value.slice Aor12_11 (g0r12_11).length cor12_11) hR rfl hA ?_; clear hA ac; intro ac hA
       refine sr_done (by kernel_rfl) ?_ _
       exact ⟨Aor12_11, br12_10, cor12_11, g0r12_11, hccor12_11, hknq12_11, hknq12_11x1, hknq12_11x2, hr12_11_hO, hscor12_11, hsnq12_11, hsnq12_11x1, hsnq12_11x2, hsro_br12_10, hA.sub (by and_intros <;> first | kernel_rfl | trivial), (hW.pick [0, 1, 2, 3, 4, 5] (by decide) rfl).pickG [0, 1, 2, 3, 4, 5, 6, 7, 8, 9] rfl⟩
     clear hA ac hW; rintro ac w21 ⟨Aor12_11, br12_10, cor12_11, g0r12_11, hccor12_11, hknq12_11, hknq12_11x1, hknq12_11x2, hr12_11_hO, hscor12_11, hsnq12_11, hsnq12_11x1, hsnq12_11x2, hsro_br12_10, hA, hW⟩
     refine blkN ?_
     refine thenN ?_
     refine wp_region_lit ?_
     refine st_q (Value.int .i64 ((k + 1 : Nat) : Int)) hA hW.cls (Rd.pureE (v0 := Value.int .i64 (IntKind.i64.wrap ((((k : Nat) : Int) : Int) + 1))) (fun _ => by kernel_rfl) (congrArg (Value.int .i64) ((w_i64 (x := (((k : Nat) : Int) : Int) + 1) (by omega) (by omega)).trans (by omega)))) fun ac hA => st_p (Value.int .i64 ((k + 1 : Nat) : Int)) hA fun ac hA => ?_
     refine wpList_nil ?_
     refine thenN ?_
     exact ⟨(fromL x.kind).length - (k + 1), by omega, k + 1, g0r12_11, Aor12_11, cor12_11, rfl, by omega, by rw [tk_snoc hy14, List.foldl_append, ← hcl]; show _ = join2 cl ((stOf E).t y14 x.obj); rw [← hec17]; exact hr12_11_hO, by rw [hr12_11_hO]; exact join2_bd hcb hbc17, by assumption, by exact hscor12_11, hA.sub (by and_intros <;> first | kernel_rfl | trivial), (hW.pick [0, 1, 2, 3, 4, 5] (by decide) rfl).pickG [0, 8, 9] rfl⟩)
   have h13 := of_decide_eq_false h13
   first
   | (exfalso; clear hA hW; omega)
   | (
    refine wp_exit ?_
    refine thenX ?_
    refine thenX ?_
    refine blkX ?_
    refine thenN ?_
    refine wp_seq ?_
    rw [List.take_of_length_le (by omega)] at hcl; have hac_ : cl = accS (stOf E) x := hcl; have htk_ := tick_eq hcb (by omega) (by have := hok.len; omega) (show 0 ≤ x.g from by omega) (show x.g ≤ 65535 from by omega)
    refine wp_region_lit ?_
    refine st_p (Value.slice cA cl.length cc) hA fun ac hA => st_p (Value.pointer (some ⟨b1, 0, none⟩)) hA fun ac hA => st_q (Value.int .i64 x.g) hA hW.cls (Rd.load (b := b1) (i := 0) (by kernel_rfl) (fun _ hw => (hw.1).cel 0 rfl) (by kernel_rfl)) fun ac hA => ?_
    refine st_s hA (Runs.call (fun _ => by kernel_rfl) (e_vtick cA cc cl (x.g) (281474976710655) w12 ((hW).getG 0 rfl) (by first | assumption | omega | (simp; omega) | simp) (by first | omega | assumption | (show (2 : Nat) ≤ 1000; decide) | exact jn_hx (by assumption) (by assumption) | exact jn_hf (by assumption) (by assumption) | exact (fun n hn => ⟨(hcb.2 n hn).1, by have := (hcb.2 n hn).2; have := hok.len; omega⟩)) (by first | omega | assumption | (show (2 : Nat) ≤ 1000; decide) | exact jn_hx (by assumption) (by assumption) | exact jn_hf (by assumption) (by assumption) | exact (fun n hn => ⟨(hcb.2 n hn).1, by have := (hcb.2 n hn).2; have := hok.len; omega⟩)) (by first | omega | assumption | (show (2 : Nat) ≤ 1000; decide) | exact jn_hx (by assumption) (by assumption) | exact jn_hf (by assumption) (by assumption) | exact (fun n hn => ⟨(hcb.2 n hn).1, by have := (hcb.2 n hn).2; have := hok.len; omega⟩)) (by first | omega | assumption | (show (2 : Nat) ≤ 1000; decide) | exact jn_hx (by assumption) (by assumption) | exact jn_hf (by assumption) (by assumption) | exact (fun n hn => ⟨(hcb.2 n hn).1, by have := (hcb.2 n hn).2; have := hok.len; omega⟩))) ?_)
    rintro _ w22 ⟨g23, g24, Ao25, co26, rfl, hw22_hO, hcco26, hfco26, hfw22⟩; refine ⟨_, rfl, ?_⟩; have hW0 := hW; have hW := hW0.call hfw22
    have hW := hW0.addFromAt hW hfco26 (in_cons (in_at 0 rfl) in_nil)
    have hsco26 : Res.src (roR Ao25 1 enU8 g23) [nestR innerSV (NV C G T)] w := src_call hfco26 (srcs_cons hsacc srcs_nil) hW0.fr.size
    clear hW0 hA ac; intro ac hA
    refine st_p (Value.tuple #[Value.slice Ao25 (g23).length co26, Value.int .i64 g24]) hA fun ac hA => st_p (Value.slice Ao25 (g23).length co26) hA fun ac hA => st_p (Value.int .i64 g24) hA fun ac hA => st_p (Value.slice Ao25 (g23).length co26) hA fun ac hA => ?_
    refine wpList_nil ?_
    refine thenN ?_
    refine wp_seq ?_
    have hu_ : g23 = tick1 (accS (stOf E) x) x.g := by rw [← hac_]; exact congrArg Prod.fst (hw22_hO.trans htk_)
    have hub_ : Bd ((E.length : Int) + 1) g23 := by rw [hu_, ← hac_]; exact tick1_bd hcb (by omega) (by omega) (by omega)
    have hubl_ := hub_.1
    have hW := Ws.nestSub (inner := innerSV) (m := C) hW 3 rfl (fun x_ h_ => nv_c h_)
    have hknq27 : ∀ x_ ∈ C, capSV x_ := (fun x_ h_ => hok.cap x_ (nv_c h_))
    have hsnq27 : Res.src (nestR innerSV C) [nestR innerSV (NV C G T)] w := (nsrc_sub (src_arg (.head _)) (fun x_ h_ => nv_c h_))
    refine wp_cut (fun ac_ wl_ => ∃ Ar15_17 : Option Addr, ∃ Ar15_9 : Option Addr, ∃ br15_16 : Nat, ∃ br15_8 : Nat, ∃ cr15_17 : Nat, ∃ cr15_9 : Nat, ((C ++ ([(⟨g23, Ao25, co26⟩ : SV)] : List SV)).length ≤ cr15_17) ∧ ((E ++ ([x] : List Event)).length ≤ cr15_9) ∧ (∀ x_ ∈ ([] : List SV), capSV x_) ∧ (∀ x_ ∈ ([(⟨g23, Ao25, co26⟩ : SV)] : List SV), capSV x_) ∧ (∀ x_ ∈ (C ++ ([(⟨g23, Ao25, co26⟩ : SV)] : List SV)), capSV x_) ∧ (Res.src (nestR innerSV ([] : List SV)) [nestR innerSV (NV C G T)] w) ∧ (Res.src (nestR innerSV ([(⟨g23, Ao25, co26⟩ : SV)] : List SV)) [nestR innerSV (NV C G T)] w) ∧ (Res.src (nestR innerSV (C ++ ([(⟨g23, Ao25, co26⟩ : SV)] : List SV))) [nestR innerSV (NV C G T)] w) ∧ Fm 131 [] [(0, Value.pointer (some ⟨m, 0, none⟩)), (3, Value.pointer (some ⟨b1, 0, none⟩)), (5, Value.slice Ao25 (g23).length co26), (31, Value.slice Ao10 (fromL (x.kind)).length co11), (32, Value.int .i64 (((fromL (x.kind)).length : Nat) : Int)), (33, Value.int .i64 ((k : Nat) : Int)), (34, Value.bool (decide ((((k : Nat) : Int) : Int) < ((((fromL (x.kind)).length : Nat) : Int) : Int)))), (50, Value.tuple #[Value.slice Ao25 (g23).length co26, Value.int .i64 g24]), (51, Value.slice cA cl.length cc), (52, Value.pointer (some ⟨b1, 0, none⟩)), (53, Value.int .i64 x.g), (54, Value.tuple #[Value.slice Ao25 (g23).length co26, Value.int .i64 g24]), (55, Value.slice Ao25 (g23).length co26)] ac_ ∧ Ws w (· ∈ (OrdR m Ae ce E Ak ck C bg G bt T).fp) [Cel br15_16 #[Value.slice Ao25 (g23).length co26] 54, Cel br15_8 #[Value.int .i64 x.g, Value.int .i64 x.kind, Value.int .i64 x.site.f, Value.int .i64 x.site.pc, Value.int .u32 x.addr, Value.int .i64 x.child, Value.int .i64 x.obj, Value.int .i64 x.n, Value.int .i64 x.trap] 50, Cel b1 #[Value.int .i64 x.g, Value.int .i64 x.kind, Value.int .i64 x.site.f, Value.int .i64 x.site.pc, Value.int .u32 x.addr, Value.int .i64 x.child, Value.int .i64 x.obj, Value.int .i64 x.n, Value.int .i64 x.trap] 50, Cel m #[Value.slice Ar15_9 (E ++ ([x] : List Event)).length cr15_9, Value.slice Ar15_17 (C ++ ([(⟨g23, Ao25, co26⟩ : SV)] : List SV)).length cr15_17, Value.map (some bg), Value.map (some bt)] 75, rowR 50 9 enEvent (Value.slice Ar15_9 (E ++ ([x] : List Event)).length cr15_9) (E ++ ([x] : List Event)), rowR 54 1 enSV (Value.slice Ar15_17 (C ++ ([(⟨g23, Ao25, co26⟩ : SV)] : List SV)).length cr15_17) (C ++ ([(⟨g23, Ao25, co26⟩ : SV)] : List SV)), mapR bg (fun a : Int => Value.int .i64 a) SV.v G, mapR bt Thing.v SV.v T] [nestR innerSV (C ++ ([(⟨g23, Ao25, co26⟩ : SV)] : List SV)), nestR innerSV ([(⟨g23, Ao25, co26⟩ : SV)] : List SV), nestR innerSV ([] : List SV), nestR innerSV C, roR Ao25 1 enU8 g23, roR cA 1 enU8 cl, roR Ao10 1 enKd (fromL (x.kind)), nestR innerSV (NV C G T)] wl_) ?_ ?_
    · refine sr_region (m := 26) (C := Ws w (· ∈ (OrdR m Ae ce E Ak ck C bg G bt T).fp) [Cel b1 #[Value.int .i64 x.g, Value.int .i64 x.kind, Value.int .i64 x.site.f, Value.int .i64 x.site.pc, Value.int .u32 x.addr, Value.int .i64 x.child, Value.int .i64 x.obj, Value.int .i64 x.n, Value.int .i64 x.trap] 50, Cel m #[Value.slice Ae E.length ce, Value.slice Ak C.length ck, Value.map (some bg), Value.map (some bt)] 75] [nestR innerSV C, roR Ao25 1 enU8 g23, roR cA 1 enU8 cl, roR Ao10 1 enKd (fromL (x.kind)), nestR innerSV (NV C G T)]) (fun i => [6, 7, 14].contains i) (fun i => [6, 7, 8, 9, 14, 16].contains i) (fun i => [0, 1, 2, 3, 4, 5, 10, 11, 12, 13, 15, 18, 19, 20, 22, 23, 24].contains i) (by kernel_rfl) (by kernel_rfl) (by kernel_rfl) (by kernel_rfl) hW ?_; clear hW; intro w28 hW hfw28 hR; have hC : Ws w (· ∈ (OrdR m Ae ce E Ak ck C bg G bt T).fp) [Cel b1 #[Value.int .i64 x.g, Value.int .i64 x.kind, Value.int .i64 x.site.f, Value.int .i64 x.site.pc, Value.int .u32 x.addr, Value.int .i64 x.child, Value.int .i64 x.obj, Value.int .i64 x.n, Value.int .i64 x.trap] 50, Cel m #[Value.slice Ae E.length ce, Value.slice Ak C.length ck, Value.map (some bg), Value.map (some bt)] 75] [nestR innerSV C, roR Ao25 1 enU8 g23, roR cA 1 enU8 cl, roR Ao10 1 enKd (fromL (x.kind)), nestR innerSV (NV C G T)] w28 := hW.pick [0, 1] (by decide) rfl
      refine sr_p 0 (Value.pointer (some ⟨m, 0, none⟩)) hR rfl hA fun ac hA => sr_p 1 (Value.pointer (some ⟨m, 0, none⟩)) hR rfl hA fun ac hA => sr_p 2 (Value.pointer (some ⟨m, 0, none⟩)) hR rfl hA fun ac hA => sr_p 3 (Value.pointer (some ⟨m, 0, none⟩)) hR rfl hA fun ac hA => sr_p 4 (Value.pointer (some ⟨m, 0, none⟩)) hR rfl hA fun ac hA => sr_p 5 (Value.pointer (some ⟨m, 0, none⟩)) hR rfl hA fun ac hA => sr_t 6 (Value.slice Ae E.length ce) hR rfl hA hC (Rd.load (b := m) (i := 0) (by kernel_rfl) (fun _ hw => (hw).cel 1 rfl) (by kernel_rfl)) fun ac hA => sr_t 7 (Value.agg #[Value.int .i64 x.g, Value.int .i64 x.kind, Value.int .i64 x.site.f, Value.int .i64 x.site.pc, Value.int .u32 x.addr, Value.int .i64 x.child, Value.int .i64 x.obj, Value.int .i64 x.n, Value.int .i64 x.trap]) hR rfl hA hC (Rd.load (b := b1) (i := 0) (by kernel_rfl) (fun _ hw => (hw).cel 0 rfl) (by kernel_rfl)) fun ac hA => sr_p 10 (Value.pointer (some ⟨m, 0, none⟩)) hR rfl hA fun ac hA => sr_p 11 (Value.pointer (some ⟨m, 0, none⟩)) hR rfl hA fun ac hA => sr_p 12 (Value.pointer (some ⟨m, 0, none⟩)) hR rfl hA fun ac hA => sr_p 13 (Value.pointer (some ⟨m, 1, none⟩)) hR rfl hA fun ac hA => sr_t 14 (Value.slice Ak C.length ck) hR rfl hA hC (Rd.load (b := m) (i := 1) (by kernel_rfl) (fun _ hw => (hw).cel 1 rfl) (by kernel_rfl)) fun ac hA => sr_p 15 (Value.slice Ao25 (g23).length co26) hR rfl hA fun ac hA => ?_
      refine sr_two (i := 8) (j := 16) (by kernel_rfl) ?_ ?_
      ·
       have hzbr15_8 := hW.fr.size
       refine (sr_d rfl hA (Runs.cells (fun b => Value.slice (some ⟨b, 0, none⟩) 1 1) #[Value.int .i64 x.g, Value.int .i64 x.kind, Value.int .i64 x.site.f, Value.int .i64 x.site.pc, Value.int .u32 x.addr, Value.int .i64 x.child, Value.int .i64 x.obj, Value.int .i64 x.n, Value.int .i64 x.trap] 50 (fun _ => by kernel_rfl) hW ?_)); clear hA ac hW; intro br15_8 w29 hW hbr15_8 hfw29 ac hA
       refine ⟨⟨fun _ => (hW.pick [1, 2] (by decide) rfl).pickG [0, 1, 2, 3, 4] rfl, fun h => absurd h (by decide)⟩, ?_⟩; have hC : Ws w (· ∈ (OrdR m Ae ce E Ak ck C bg G bt T).fp) [Cel b1 #[Value.int .i64 x.g, Value.int .i64 x.kind, Value.int .i64 x.site.f, Value.int .i64 x.site.pc, Value.int .u32 x.addr, Value.int .i64 x.child, Value.int .i64 x.obj, Value.int .i64 x.n, Value.int .i64 x.trap] 50, Cel m #[Value.slice Ae E.length ce, Value.slice Ak C.length ck, Value.map (some bg), Value.map (some bt)] 75] [nestR innerSV C, roR Ao25 1 enU8 g23, roR cA 1 enU8 cl, roR Ao10 1 enKd (fromL (x.kind)), nestR innerSV (NV C G T)] w29 := (hW.pick [1, 2] (by decide) rfl).pickG [0, 1, 2, 3, 4] rfl
       refine sr_two (i := 9) (j := 16) (by kernel_rfl) ?_ ?_
       ·
        refine (sr_d rfl hA (Runs.appOwn (B := (some ⟨br15_8, 0, none⟩)) (k := 1) (E := 50) (sz := 9) (en := enEvent) (l := E) (m := ([x] : List Event)) (i := 3) (by kernel_rfl) (by kernel_rfl) elt_Event (by kernel_rfl) hW rfl (rowAt_cel ((hW).cel 0 rfl) ([x] : List Event) (by rfl) elt_Event.len) (by first | omega | (simp; done) | (simp; omega)) (by first | omega | (simp; done) | (simp; omega)) ?_)); clear hA ac hW; intro Ar15_9 cr15_9 w30 hW hccr15_9 ac hA
        refine ⟨⟨fun _ => (hW.pick [1, 2] (by decide) rfl).pickG [0, 1, 2, 3, 4] rfl, fun h => absurd h (by decide)⟩, ?_⟩; have hC : Ws w (· ∈ (OrdR m Ae ce E Ak ck C bg G bt T).fp) [Cel b1 #[Value.int .i64 x.g, Value.int .i64 x.kind, Value.int .i64 x.site.f, Value.int .i64 x.site.pc, Value.int .u32 x.addr, Value.int .i64 x.child, Value.int .i64 x.obj, Value.int .i64 x.n, Value.int .i64 x.trap] 50, Cel m #[Value.slice Ae E.length ce, Value.slice Ak C.length ck, Value.map (some bg), Value.map (some bt)] 75] [nestR innerSV C, roR Ao25 1 enU8 g23, roR cA 1 enU8 cl, roR Ao10 1 enKd (fromL (x.kind)), nestR innerSV (NV C G T)] w30 := (hW.pick [1, 2] (by decide) rfl).pickG [0, 1, 2, 3, 4] rfl
        have hzbr15_16 := hW.fr.size
        refine sr_one (i := 16) (by kernel_rfl) (sr_d rfl hA (Runs.cells (fun b => Value.slice (some ⟨b, 0, none⟩) 1 1) #[Value.slice Ao25 (g23).length co26] 54 (fun _ => by kernel_rfl) hW ?_)); clear hA ac hW; intro br15_16 w31 hW hbr15_16 hfw31 ac hA
        refine ⟨⟨fun _ => (hW.pick [2, 3] (by decide) rfl).pickG [0, 1, 2, 3, 4] rfl, fun h => absurd h (by decide)⟩, ?_⟩; have hC : Ws w (· ∈ (OrdR m Ae ce E Ak ck C bg G bt T).fp) [Cel b1 #[Value.int .i64 x.g, Value.int .i64 x.kind, Value.int .i64 x.site.f, Value.int .i64 x.site.pc, Value.int .u32 x.addr, Value.int .i64 x.child, Value.int .i64 x.obj, Value.int .i64 x.n, Value.int .i64 x.trap] 50, Cel m #[Value.slice Ae E.length ce, Value.slice Ak C.length ck, Value.map (some bg), Value.map (some bt)] 75] [nestR innerSV C, roR Ao25 1 enU8 g23, roR cA 1 enU8 cl, roR Ao10 1 enKd (fromL (x.kind)), nestR innerSV (NV C G T)] w31 := (hW.pick [2, 3] (by decide) rfl).pickG [0, 1, 2, 3, 4] rfl
        have hW := hW.nestNil innerSV
        have hknq15_17 : ∀ x_ ∈ ([] : List SV), capSV x_ := all_nil
        have hsnq15_17 : Res.src (nestR innerSV ([] : List SV)) [nestR innerSV (NV C G T)] w := nsrc_nil
        have hW := Ws.nestCons (inner := innerSV) hW 0 rfl (⟨g23, Ao25, co26⟩ : SV) (hW.getG 2 rfl) (fun _ hb_ => ⟨_, List.mem_of_getElem? (i := 2) rfl, hb_⟩)
        have hknq15_17x1 : ∀ x_ ∈ ([(⟨g23, Ao25, co26⟩ : SV)] : List SV), capSV x_ := all_cons (show g23.length ≤ co26 from (by first | assumption | omega | (simp; omega) | simp)) hknq15_17
        have hsnq15_17x1 : Res.src (nestR innerSV ([(⟨g23, Ao25, co26⟩ : SV)] : List SV)) [nestR innerSV (NV C G T)] w := nsrc_cons hsco26 hsnq15_17
        have hW := hW.nestApp 2 0 rfl rfl
        have hknq15_17x2 : ∀ x_ ∈ (C ++ ([(⟨g23, Ao25, co26⟩ : SV)] : List SV)), capSV x_ := all_app hknq27 hknq15_17x1
        have hsnq15_17x2 : Res.src (nestR innerSV (C ++ ([(⟨g23, Ao25, co26⟩ : SV)] : List SV))) [nestR innerSV (NV C G T)] w := nsrc_app hsnq27 hsnq15_17x1
        refine sr_one (i := 17) (by kernel_rfl) (sr_d rfl hA (Runs.appOwn (B := (some ⟨br15_16, 0, none⟩)) (k := 1) (E := 54) (sz := 1) (en := enSV) (l := C) (m := ([(⟨g23, Ao25, co26⟩ : SV)] : List SV)) (i := 5) (by kernel_rfl) (by kernel_rfl) elt_SV (by kernel_rfl) hW rfl (rowAt_cel ((hW).cel 0 rfl) ([(⟨g23, Ao25, co26⟩ : SV)] : List SV) (by rfl) elt_SV.len) (by first | omega | (simp; done) | (simp; omega)) (by first | omega | (simp; done) | (simp; omega)) ?_)); clear hA ac hW; intro Ar15_17 cr15_17 w32 hW hccr15_17 ac hA
        refine qn ?_
        refine sr_p 18 (Value.pointer (some ⟨m, 0, none⟩)) hR rfl hA fun ac hA => sr_p 19 (Value.pointer (some ⟨m, 0, none⟩)) hR rfl hA fun ac hA => sr_p 20 (Value.pointer (some ⟨m, 0, none⟩)) hR rfl hA fun ac hA => ?_
        refine sr_one (i := 21) (by kernel_rfl) (sr_d rfl hA (Runs.store (v := Value.slice Ar15_9 (E ++ ([x] : List Event)).length cr15_9) (b := m) (j := 0) (n := 1) (cs' := #[Value.slice Ar15_9 (E ++ ([x] : List Event)).length cr15_9, Value.slice Ak C.length ck, Value.map (some bg), Value.map (some bt)]) (H' := [Cel br15_16 #[Value.slice Ao25 (g23).length co26] 54, Cel br15_8 #[Value.int .i64 x.g, Value.int .i64 x.kind, Value.int .i64 x.site.f, Value.int .i64 x.site.pc, Value.int .u32 x.addr, Value.int .i64 x.child, Value.int .i64 x.obj, Value.int .i64 x.n, Value.int .i64 x.trap] 50, Cel b1 #[Value.int .i64 x.g, Value.int .i64 x.kind, Value.int .i64 x.site.f, Value.int .i64 x.site.pc, Value.int .u32 x.addr, Value.int .i64 x.child, Value.int .i64 x.obj, Value.int .i64 x.n, Value.int .i64 x.trap] 50, Cel m #[Value.slice Ar15_9 (E ++ ([x] : List Event)).length cr15_9, Value.slice Ak C.length ck, Value.map (some bg), Value.map (some bt)] 75, rowR 50 9 enEvent (Value.slice Ar15_9 (E ++ ([x] : List Event)).length cr15_9) (E ++ ([x] : List Event)), rowR 54 1 enSV (Value.slice Ar15_17 (C ++ ([(⟨g23, Ao25, co26⟩ : SV)] : List SV)).length cr15_17) (C ++ ([(⟨g23, Ao25, co26⟩ : SV)] : List SV)), mapR bg (fun a : Int => Value.int .i64 a) SV.v G, mapR bt Thing.v SV.v T]) (by kernel_rfl) (by kernel_rfl) (by kernel_rfl) (by kernel_rfl) (by kernel_rfl) hW 3 (by rfl) (Nat.le_of_ble_eq_true (by kernel_rfl)) (by kernel_rfl) (by rfl) ?_)); clear hA ac hW; intro w33 hW ac hA
        refine qn ?_
        refine sr_p 22 (Value.pointer (some ⟨m, 0, none⟩)) hR rfl hA fun ac hA => sr_p 23 (Value.pointer (some ⟨m, 0, none⟩)) hR rfl hA fun ac hA => sr_p 24 (Value.pointer (some ⟨m, 1, none⟩)) hR rfl hA fun ac hA => ?_
        refine sr_one (i := 25) (by kernel_rfl) (sr_d rfl hA (Runs.store (v := Value.slice Ar15_17 (C ++ ([(⟨g23, Ao25, co26⟩ : SV)] : List SV)).length cr15_17) (b := m) (j := 1) (n := 1) (cs' := #[Value.slice Ar15_9 (E ++ ([x] : List Event)).length cr15_9, Value.slice Ar15_17 (C ++ ([(⟨g23, Ao25, co26⟩ : SV)] : List SV)).length cr15_17, Value.map (some bg), Value.map (some bt)]) (H' := [Cel br15_16 #[Value.slice Ao25 (g23).length co26] 54, Cel br15_8 #[Value.int .i64 x.g, Value.int .i64 x.kind, Value.int .i64 x.site.f, Value.int .i64 x.site.pc, Value.int .u32 x.addr, Value.int .i64 x.child, Value.int .i64 x.obj, Value.int .i64 x.n, Value.int .i64 x.trap] 50, Cel b1 #[Value.int .i64 x.g, Value.int .i64 x.kind, Value.int .i64 x.site.f, Value.int .i64 x.site.pc, Value.int .u32 x.addr, Value.int .i64 x.child, Value.int .i64 x.obj, Value.int .i64 x.n, Value.int .i64 x.trap] 50, Cel m #[Value.slice Ar15_9 (E ++ ([x] : List Event)).length cr15_9, Value.slice Ar15_17 (C ++ ([(⟨g23, Ao25, co26⟩ : SV)] : List SV)).length cr15_17, Value.map (some bg), Value.map (some bt)] 75, rowR 50 9 enEvent (Value.slice Ar15_9 (E ++ ([x] : List Event)).length cr15_9) (E ++ ([x] : List Event)), rowR 54 1 enSV (Value.slice Ar15_17 (C ++ ([(⟨g23, Ao25, co26⟩ : SV)] : List SV)).length cr15_17) (C ++ ([(⟨g23, Ao25, co26⟩ : SV)] : List SV)), mapR bg (fun a : Int => Value.int .i64 a) SV.v G, mapR bt Thing.v SV.v T]) (by kernel_rfl) (by kernel_rfl) (by kernel_rfl) (by kernel_rfl) (by kernel_rfl) hW 3 (by rfl) (Nat.le_of_ble_eq_true (by kernel_rfl)) (by kernel_rfl) (by rfl) ?_)); clear hA ac hW; intro w34 hW ac hA
        refine qn ?_
        refine sr_done (by kernel_rfl) ?_ _
        exact ⟨Ar15_17, Ar15_9, br15_16, br15_8, cr15_17, cr15_9, hccr15_17, hccr15_9, hknq15_17, hknq15_17x1, hknq15_17x2, hsnq15_17, hsnq15_17x1, hsnq15_17x2, hA.sub (by and_intros <;> first | kernel_rfl | trivial), (hW.pick [0, 1, 2, 3, 4, 5, 6, 7] (by decide) rfl).pickG [0, 1, 2, 3, 4, 5, 6, 7] rfl⟩
       ·
        have hzbr15_16 := hW.fr.size
        refine (sr_d rfl hA (Runs.cells (fun b => Value.slice (some ⟨b, 0, none⟩) 1 1) #[Value.slice Ao25 (g23).length co26] 54 (fun _ => by kernel_rfl) hW ?_)); clear hA ac hW; intro br15_16 w35 hW hbr15_16 hfw35 ac hA
        refine ⟨⟨fun _ => (hW.pick [2, 3] (by decide) rfl).pickG [0, 1, 2, 3, 4] rfl, fun h => absurd h (by decide)⟩, ?_⟩; have hC : Ws w (· ∈ (OrdR m Ae ce E Ak ck C bg G bt T).fp) [Cel b1 #[Value.int .i64 x.g, Value.int .i64 x.kind, Value.int .i64 x.site.f, Value.int .i64 x.site.pc, Value.int .u32 x.addr, Value.int .i64 x.child, Value.int .i64 x.obj, Value.int .i64 x.n, Value.int .i64 x.trap] 50, Cel m #[Value.slice Ae E.length ce, Value.slice Ak C.length ck, Value.map (some bg), Value.map (some bt)] 75] [nestR innerSV C, roR Ao25 1 enU8 g23, roR cA 1 enU8 cl, roR Ao10 1 enKd (fromL (x.kind)), nestR innerSV (NV C G T)] w35 := (hW.pick [2, 3] (by decide) rfl).pickG [0, 1, 2, 3, 4] rfl
        refine sr_one (i := 9) (by kernel_rfl) (sr_d rfl hA (Runs.appOwn (B := (some ⟨br15_8, 0, none⟩)) (k := 1) (E := 50) (sz := 9) (en := enEvent) (l := E) (m := ([x] : List Event)) (i := 4) (by kernel_rfl) (by kernel_rfl) elt_Event (by kernel_rfl) hW rfl (rowAt_cel ((hW).cel 1 rfl) ([x] : List Event) (by rfl) elt_Event.len) (by first | omega | (simp; done) | (simp; omega)) (by first | omega | (simp; done) | (simp; omega)) ?_)); clear hA ac hW; intro Ar15_9 cr15_9 w36 hW hccr15_9 ac hA
        refine ⟨⟨fun _ => (hW.pick [2, 3] (by decide) rfl).pickG [0, 1, 2, 3, 4] rfl, fun h => absurd h (by decide)⟩, ?_⟩; have hC : Ws w (· ∈ (OrdR m Ae ce E Ak ck C bg G bt T).fp) [Cel b1 #[Value.int .i64 x.g, Value.int .i64 x.kind, Value.int .i64 x.site.f, Value.int .i64 x.site.pc, Value.int .u32 x.addr, Value.int .i64 x.child, Value.int .i64 x.obj, Value.int .i64 x.n, Value.int .i64 x.trap] 50, Cel m #[Value.slice Ae E.length ce, Value.slice Ak C.length ck, Value.map (some bg), Value.map (some bt)] 75] [nestR innerSV C, roR Ao25 1 enU8 g23, roR cA 1 enU8 cl, roR Ao10 1 enKd (fromL (x.kind)), nestR innerSV (NV C G T)] w36 := (hW.pick [2, 3] (by decide) rfl).pickG [0, 1, 2, 3, 4] rfl
        have hW := hW.nestNil innerSV
        have hknq15_17 : ∀ x_ ∈ ([] : List SV), capSV x_ := all_nil
        have hsnq15_17 : Res.src (nestR innerSV ([] : List SV)) [nestR innerSV (NV C G T)] w := nsrc_nil
        have hW := Ws.nestCons (inner := innerSV) hW 0 rfl (⟨g23, Ao25, co26⟩ : SV) (hW.getG 2 rfl) (fun _ hb_ => ⟨_, List.mem_of_getElem? (i := 2) rfl, hb_⟩)
        have hknq15_17x1 : ∀ x_ ∈ ([(⟨g23, Ao25, co26⟩ : SV)] : List SV), capSV x_ := all_cons (show g23.length ≤ co26 from (by first | assumption | omega | (simp; omega) | simp)) hknq15_17
        have hsnq15_17x1 : Res.src (nestR innerSV ([(⟨g23, Ao25, co26⟩ : SV)] : List SV)) [nestR innerSV (NV C G T)] w := nsrc_cons hsco26 hsnq15_17
        have hW := hW.nestApp 2 0 rfl rfl
        have hknq15_17x2 : ∀ x_ ∈ (C ++ ([(⟨g23, Ao25, co26⟩ : SV)] : List SV)), capSV x_ := all_app hknq27 hknq15_17x1
        have hsnq15_17x2 : Res.src (nestR innerSV (C ++ ([(⟨g23, Ao25, co26⟩ : SV)] : List SV))) [nestR innerSV (NV C G T)] w := nsrc_app hsnq27 hsnq15_17x1
        refine sr_one (i := 17) (by kernel_rfl) (sr_d rfl hA (Runs.appOwn (B := (some ⟨br15_16, 0, none⟩)) (k := 1) (E := 54) (sz := 1) (en := enSV) (l := C) (m := ([(⟨g23, Ao25, co26⟩ : SV)] : List SV)) (i := 5) (by kernel_rfl) (by kernel_rfl) elt_SV (by kernel_rfl) hW rfl (rowAt_cel ((hW).cel 0 rfl) ([(⟨g23, Ao25, co26⟩ : SV)] : List SV) (by rfl) elt_SV.len) (by first | omega | (simp; done) | (simp; omega)) (by first | omega | (simp; done) | (simp; omega)) ?_)); clear hA ac hW; intro Ar15_17 cr15_17 w37 hW hccr15_17 ac hA
        refine qn ?_
        refine sr_p 18 (Value.pointer (some ⟨m, 0, none⟩)) hR rfl hA fun ac hA => sr_p 19 (Value.pointer (some ⟨m, 0, none⟩)) hR rfl hA fun ac hA => sr_p 20 (Value.pointer (some ⟨m, 0, none⟩)) hR rfl hA fun ac hA => ?_
        refine sr_one (i := 21) (by kernel_rfl) (sr_d rfl hA (Runs.store (v := Value.slice Ar15_9 (E ++ ([x] : List Event)).length cr15_9) (b := m) (j := 0) (n := 1) (cs' := #[Value.slice Ar15_9 (E ++ ([x] : List Event)).length cr15_9, Value.slice Ak C.length ck, Value.map (some bg), Value.map (some bt)]) (H' := [Cel br15_16 #[Value.slice Ao25 (g23).length co26] 54, Cel br15_8 #[Value.int .i64 x.g, Value.int .i64 x.kind, Value.int .i64 x.site.f, Value.int .i64 x.site.pc, Value.int .u32 x.addr, Value.int .i64 x.child, Value.int .i64 x.obj, Value.int .i64 x.n, Value.int .i64 x.trap] 50, Cel b1 #[Value.int .i64 x.g, Value.int .i64 x.kind, Value.int .i64 x.site.f, Value.int .i64 x.site.pc, Value.int .u32 x.addr, Value.int .i64 x.child, Value.int .i64 x.obj, Value.int .i64 x.n, Value.int .i64 x.trap] 50, Cel m #[Value.slice Ar15_9 (E ++ ([x] : List Event)).length cr15_9, Value.slice Ak C.length ck, Value.map (some bg), Value.map (some bt)] 75, rowR 50 9 enEvent (Value.slice Ar15_9 (E ++ ([x] : List Event)).length cr15_9) (E ++ ([x] : List Event)), rowR 54 1 enSV (Value.slice Ar15_17 (C ++ ([(⟨g23, Ao25, co26⟩ : SV)] : List SV)).length cr15_17) (C ++ ([(⟨g23, Ao25, co26⟩ : SV)] : List SV)), mapR bg (fun a : Int => Value.int .i64 a) SV.v G, mapR bt Thing.v SV.v T]) (by kernel_rfl) (by kernel_rfl) (by kernel_rfl) (by kernel_rfl) (by kernel_rfl) hW 3 (by rfl) (Nat.le_of_ble_eq_true (by kernel_rfl)) (by kernel_rfl) (by rfl) ?_)); clear hA ac hW; intro w38 hW ac hA
        refine qn ?_
        refine sr_p 22 (Value.pointer (some ⟨m, 0, none⟩)) hR rfl hA fun ac hA => sr_p 23 (Value.pointer (some ⟨m, 0, none⟩)) hR rfl hA fun ac hA => sr_p 24 (Value.pointer (some ⟨m, 1, none⟩)) hR rfl hA fun ac hA => ?_
        refine sr_one (i := 25) (by kernel_rfl) (sr_d rfl hA (Runs.store (v := Value.slice Ar15_17 (C ++ ([(⟨g23, Ao25, co26⟩ : SV)] : List SV)).length cr15_17) (b := m) (j := 1) (n := 1) (cs' := #[Value.slice Ar15_9 (E ++ ([x] : List Event)).length cr15_9, Value.slice Ar15_17 (C ++ ([(⟨g23, Ao25, co26⟩ : SV)] : List SV)).length cr15_17, Value.map (some bg), Value.map (some bt)]) (H' := [Cel br15_16 #[Value.slice Ao25 (g23).length co26] 54, Cel br15_8 #[Value.int .i64 x.g, Value.int .i64 x.kind, Value.int .i64 x.site.f, Value.int .i64 x.site.pc, Value.int .u32 x.addr, Value.int .i64 x.child, Value.int .i64 x.obj, Value.int .i64 x.n, Value.int .i64 x.trap] 50, Cel b1 #[Value.int .i64 x.g, Value.int .i64 x.kind, Value.int .i64 x.site.f, Value.int .i64 x.site.pc, Value.int .u32 x.addr, Value.int .i64 x.child, Value.int .i64 x.obj, Value.int .i64 x.n, Value.int .i64 x.trap] 50, Cel m #[Value.slice Ar15_9 (E ++ ([x] : List Event)).length cr15_9, Value.slice Ar15_17 (C ++ ([(⟨g23, Ao25, co26⟩ : SV)] : List SV)).length cr15_17, Value.map (some bg), Value.map (some bt)] 75, rowR 50 9 enEvent (Value.slice Ar15_9 (E ++ ([x] : List Event)).length cr15_9) (E ++ ([x] : List Event)), rowR 54 1 enSV (Value.slice Ar15_17 (C ++ ([(⟨g23, Ao25, co26⟩ : SV)] : List SV)).length cr15_17) (C ++ ([(⟨g23, Ao25, co26⟩ : SV)] : List SV)), mapR bg (fun a : Int => Value.int .i64 a) SV.v G, mapR bt Thing.v SV.v T]) (by kernel_rfl) (by kernel_rfl) (by kernel_rfl) (by kernel_rfl) (by kernel_rfl) hW 3 (by rfl) (Nat.le_of_ble_eq_true (by kernel_rfl)) (by kernel_rfl) (by rfl) ?_)); clear hA ac hW; intro w39 hW ac hA
        refine qn ?_
        refine sr_done (by kernel_rfl) ?_ _
        exact ⟨Ar15_17, Ar15_9, br15_16, br15_8, cr15_17, cr15_9, hccr15_17, hccr15_9, hknq15_17, hknq15_17x1, hknq15_17x2, hsnq15_17, hsnq15_17x1, hsnq15_17x2, hA.sub (by and_intros <;> first | kernel_rfl | trivial), (hW.pick [0, 1, 2, 3, 4, 5, 6, 7] (by decide) rfl).pickG [0, 1, 2, 3, 4, 5, 6, 7] rfl⟩
      ·
       have hzbr15_16 := hW.fr.size
       refine (sr_d rfl hA (Runs.cells (fun b => Value.slice (some ⟨b, 0, none⟩) 1 1) #[Value.slice Ao25 (g23).length co26] 54 (fun _ => by kernel_rfl) hW ?_)); clear hA ac hW; intro br15_16 w40 hW hbr15_16 hfw40 ac hA
       refine ⟨⟨fun _ => (hW.pick [1, 2] (by decide) rfl).pickG [0, 1, 2, 3, 4] rfl, fun h => absurd h (by decide)⟩, ?_⟩; have hC : Ws w (· ∈ (OrdR m Ae ce E Ak ck C bg G bt T).fp) [Cel b1 #[Value.int .i64 x.g, Value.int .i64 x.kind, Value.int .i64 x.site.f, Value.int .i64 x.site.pc, Value.int .u32 x.addr, Value.int .i64 x.child, Value.int .i64 x.obj, Value.int .i64 x.n, Value.int .i64 x.trap] 50, Cel m #[Value.slice Ae E.length ce, Value.slice Ak C.length ck, Value.map (some bg), Value.map (some bt)] 75] [nestR innerSV C, roR Ao25 1 enU8 g23, roR cA 1 enU8 cl, roR Ao10 1 enKd (fromL (x.kind)), nestR innerSV (NV C G T)] w40 := (hW.pick [1, 2] (by decide) rfl).pickG [0, 1, 2, 3, 4] rfl
       have hzbr15_8 := hW.fr.size
       refine sr_one (i := 8) (by kernel_rfl) (sr_d rfl hA (Runs.cells (fun b => Value.slice (some ⟨b, 0, none⟩) 1 1) #[Value.int .i64 x.g, Value.int .i64 x.kind, Value.int .i64 x.site.f, Value.int .i64 x.site.pc, Value.int .u32 x.addr, Value.int .i64 x.child, Value.int .i64 x.obj, Value.int .i64 x.n, Value.int .i64 x.trap] 50 (fun _ => by kernel_rfl) hW ?_)); clear hA ac hW; intro br15_8 w41 hW hbr15_8 hfw41 ac hA
       refine ⟨⟨fun _ => (hW.pick [2, 3] (by decide) rfl).pickG [0, 1, 2, 3, 4] rfl, fun h => absurd h (by decide)⟩, ?_⟩; have hC : Ws w (· ∈ (OrdR m Ae ce E Ak ck C bg G bt T).fp) [Cel b1 #[Value.int .i64 x.g, Value.int .i64 x.kind, Value.int .i64 x.site.f, Value.int .i64 x.site.pc, Value.int .u32 x.addr, Value.int .i64 x.child, Value.int .i64 x.obj, Value.int .i64 x.n, Value.int .i64 x.trap] 50, Cel m #[Value.slice Ae E.length ce, Value.slice Ak C.length ck, Value.map (some bg), Value.map (some bt)] 75] [nestR innerSV C, roR Ao25 1 enU8 g23, roR cA 1 enU8 cl, roR Ao10 1 enKd (fromL (x.kind)), nestR innerSV (NV C G T)] w41 := (hW.pick [2, 3] (by decide) rfl).pickG [0, 1, 2, 3, 4] rfl
       refine sr_one (i := 9) (by kernel_rfl) (sr_d rfl hA (Runs.appOwn (B := (some ⟨br15_8, 0, none⟩)) (k := 1) (E := 50) (sz := 9) (en := enEvent) (l := E) (m := ([x] : List Event)) (i := 4) (by kernel_rfl) (by kernel_rfl) elt_Event (by kernel_rfl) hW rfl (rowAt_cel ((hW).cel 0 rfl) ([x] : List Event) (by rfl) elt_Event.len) (by first | omega | (simp; done) | (simp; omega)) (by first | omega | (simp; done) | (simp; omega)) ?_)); clear hA ac hW; intro Ar15_9 cr15_9 w42 hW hccr15_9 ac hA
       refine ⟨⟨fun _ => (hW.pick [2, 3] (by decide) rfl).pickG [0, 1, 2, 3, 4] rfl, fun h => absurd h (by decide)⟩, ?_⟩; have hC : Ws w (· ∈ (OrdR m Ae ce E Ak ck C bg G bt T).fp) [Cel b1 #[Value.int .i64 x.g, Value.int .i64 x.kind, Value.int .i64 x.site.f, Value.int .i64 x.site.pc, Value.int .u32 x.addr, Value.int .i64 x.child, Value.int .i64 x.obj, Value.int .i64 x.n, Value.int .i64 x.trap] 50, Cel m #[Value.slice Ae E.length ce, Value.slice Ak C.length ck, Value.map (some bg), Value.map (some bt)] 75] [nestR innerSV C, roR Ao25 1 enU8 g23, roR cA 1 enU8 cl, roR Ao10 1 enKd (fromL (x.kind)), nestR innerSV (NV C G T)] w42 := (hW.pick [2, 3] (by decide) rfl).pickG [0, 1, 2, 3, 4] rfl
       have hW := hW.nestNil innerSV
       have hknq15_17 : ∀ x_ ∈ ([] : List SV), capSV x_ := all_nil
       have hsnq15_17 : Res.src (nestR innerSV ([] : List SV)) [nestR innerSV (NV C G T)] w := nsrc_nil
       have hW := Ws.nestCons (inner := innerSV) hW 0 rfl (⟨g23, Ao25, co26⟩ : SV) (hW.getG 2 rfl) (fun _ hb_ => ⟨_, List.mem_of_getElem? (i := 2) rfl, hb_⟩)
       have hknq15_17x1 : ∀ x_ ∈ ([(⟨g23, Ao25, co26⟩ : SV)] : List SV), capSV x_ := all_cons (show g23.length ≤ co26 from (by first | assumption | omega | (simp; omega) | simp)) hknq15_17
       have hsnq15_17x1 : Res.src (nestR innerSV ([(⟨g23, Ao25, co26⟩ : SV)] : List SV)) [nestR innerSV (NV C G T)] w := nsrc_cons hsco26 hsnq15_17
       have hW := hW.nestApp 2 0 rfl rfl
       have hknq15_17x2 : ∀ x_ ∈ (C ++ ([(⟨g23, Ao25, co26⟩ : SV)] : List SV)), capSV x_ := all_app hknq27 hknq15_17x1
       have hsnq15_17x2 : Res.src (nestR innerSV (C ++ ([(⟨g23, Ao25, co26⟩ : SV)] : List SV))) [nestR innerSV (NV C G T)] w := nsrc_app hsnq27 hsnq15_17x1
       refine sr_one (i := 17) (by kernel_rfl) (sr_d rfl hA (Runs.appOwn (B := (some ⟨br15_16, 0, none⟩)) (k := 1) (E := 54) (sz := 1) (en := enSV) (l := C) (m := ([(⟨g23, Ao25, co26⟩ : SV)] : List SV)) (i := 5) (by kernel_rfl) (by kernel_rfl) elt_SV (by kernel_rfl) hW rfl (rowAt_cel ((hW).cel 1 rfl) ([(⟨g23, Ao25, co26⟩ : SV)] : List SV) (by rfl) elt_SV.len) (by first | omega | (simp; done) | (simp; omega)) (by first | omega | (simp; done) | (simp; omega)) ?_)); clear hA ac hW; intro Ar15_17 cr15_17 w43 hW hccr15_17 ac hA
       refine qn ?_
       refine sr_p 18 (Value.pointer (some ⟨m, 0, none⟩)) hR rfl hA fun ac hA => sr_p 19 (Value.pointer (some ⟨m, 0, none⟩)) hR rfl hA fun ac hA => sr_p 20 (Value.pointer (some ⟨m, 0, none⟩)) hR rfl hA fun ac hA => ?_
       refine sr_one (i := 21) (by kernel_rfl) (sr_d rfl hA (Runs.store (v := Value.slice Ar15_9 (E ++ ([x] : List Event)).length cr15_9) (b := m) (j := 0) (n := 1) (cs' := #[Value.slice Ar15_9 (E ++ ([x] : List Event)).length cr15_9, Value.slice Ak C.length ck, Value.map (some bg), Value.map (some bt)]) (H' := [Cel br15_8 #[Value.int .i64 x.g, Value.int .i64 x.kind, Value.int .i64 x.site.f, Value.int .i64 x.site.pc, Value.int .u32 x.addr, Value.int .i64 x.child, Value.int .i64 x.obj, Value.int .i64 x.n, Value.int .i64 x.trap] 50, Cel br15_16 #[Value.slice Ao25 (g23).length co26] 54, Cel b1 #[Value.int .i64 x.g, Value.int .i64 x.kind, Value.int .i64 x.site.f, Value.int .i64 x.site.pc, Value.int .u32 x.addr, Value.int .i64 x.child, Value.int .i64 x.obj, Value.int .i64 x.n, Value.int .i64 x.trap] 50, Cel m #[Value.slice Ar15_9 (E ++ ([x] : List Event)).length cr15_9, Value.slice Ak C.length ck, Value.map (some bg), Value.map (some bt)] 75, rowR 50 9 enEvent (Value.slice Ar15_9 (E ++ ([x] : List Event)).length cr15_9) (E ++ ([x] : List Event)), rowR 54 1 enSV (Value.slice Ar15_17 (C ++ ([(⟨g23, Ao25, co26⟩ : SV)] : List SV)).length cr15_17) (C ++ ([(⟨g23, Ao25, co26⟩ : SV)] : List SV)), mapR bg (fun a : Int => Value.int .i64 a) SV.v G, mapR bt Thing.v SV.v T]) (by kernel_rfl) (by kernel_rfl) (by kernel_rfl) (by kernel_rfl) (by kernel_rfl) hW 3 (by rfl) (Nat.le_of_ble_eq_true (by kernel_rfl)) (by kernel_rfl) (by rfl) ?_)); clear hA ac hW; intro w44 hW ac hA
       refine qn ?_
       refine sr_p 22 (Value.pointer (some ⟨m, 0, none⟩)) hR rfl hA fun ac hA => sr_p 23 (Value.pointer (some ⟨m, 0, none⟩)) hR rfl hA fun ac hA => sr_p 24 (Value.pointer (some ⟨m, 1, none⟩)) hR rfl hA fun ac hA => ?_
       refine sr_one (i := 25) (by kernel_rfl) (sr_d rfl hA (Runs.store (v := Value.slice Ar15_17 (C ++ ([(⟨g23, Ao25, co26⟩ : SV)] : List SV)).length cr15_17) (b := m) (j := 1) (n := 1) (cs' := #[Value.slice Ar15_9 (E ++ ([x] : List Event)).length cr15_9, Value.slice Ar15_17 (C ++ ([(⟨g23, Ao25, co26⟩ : SV)] : List SV)).length cr15_17, Value.map (some bg), Value.map (some bt)]) (H' := [Cel br15_8 #[Value.int .i64 x.g, Value.int .i64 x.kind, Value.int .i64 x.site.f, Value.int .i64 x.site.pc, Value.int .u32 x.addr, Value.int .i64 x.child, Value.int .i64 x.obj, Value.int .i64 x.n, Value.int .i64 x.trap] 50, Cel br15_16 #[Value.slice Ao25 (g23).length co26] 54, Cel b1 #[Value.int .i64 x.g, Value.int .i64 x.kind, Value.int .i64 x.site.f, Value.int .i64 x.site.pc, Value.int .u32 x.addr, Value.int .i64 x.child, Value.int .i64 x.obj, Value.int .i64 x.n, Value.int .i64 x.trap] 50, Cel m #[Value.slice Ar15_9 (E ++ ([x] : List Event)).length cr15_9, Value.slice Ar15_17 (C ++ ([(⟨g23, Ao25, co26⟩ : SV)] : List SV)).length cr15_17, Value.map (some bg), Value.map (some bt)] 75, rowR 50 9 enEvent (Value.slice Ar15_9 (E ++ ([x] : List Event)).length cr15_9) (E ++ ([x] : List Event)), rowR 54 1 enSV (Value.slice Ar15_17 (C ++ ([(⟨g23, Ao25, co26⟩ : SV)] : List SV)).length cr15_17) (C ++ ([(⟨g23, Ao25, co26⟩ : SV)] : List SV)), mapR bg (fun a : Int => Value.int .i64 a) SV.v G, mapR bt Thing.v SV.v T]) (by kernel_rfl) (by kernel_rfl) (by kernel_rfl) (by kernel_rfl) (by kernel_rfl) hW 3 (by rfl) (Nat.le_of_ble_eq_true (by kernel_rfl)) (by kernel_rfl) (by rfl) ?_)); clear hA ac hW; intro w45 hW ac hA
       refine qn ?_
       refine sr_done (by kernel_rfl) ?_ _
       exact ⟨Ar15_17, Ar15_9, br15_16, br15_8, cr15_17, cr15_9, hccr15_17, hccr15_9, hknq15_17, hknq15_17x1, hknq15_17x2, hsnq15_17, hsnq15_17x1, hsnq15_17x2, hA.sub (by and_intros <;> first | kernel_rfl | trivial), (hW.pick [1, 0, 2, 3, 4, 5, 6, 7] (by decide) rfl).pickG [0, 1, 2, 3, 4, 5, 6, 7] rfl⟩
    clear hA ac hW; rintro ac w46 ⟨Ar15_17, Ar15_9, br15_16, br15_8, cr15_17, cr15_9, hccr15_17, hccr15_9, hknq15_17, hknq15_17x1, hknq15_17x2, hsnq15_17, hsnq15_17x1, hsnq15_17x2, hA, hW⟩
    refine thenN ?_
    refine wp_seq ?_
    refine wp_cut (fun ac_ wl_ => Fm 131 [] [(0, Value.pointer (some ⟨m, 0, none⟩)), (3, Value.pointer (some ⟨b1, 0, none⟩)), (5, Value.slice Ao25 (g23).length co26), (31, Value.slice Ao10 (fromL (x.kind)).length co11), (32, Value.int .i64 (((fromL (x.kind)).length : Nat) : Int)), (33, Value.int .i64 ((k : Nat) : Int)), (34, Value.bool (decide ((((k : Nat) : Int) : Int) < ((((fromL (x.kind)).length : Nat) : Int) : Int)))), (50, Value.tuple #[Value.slice Ao25 (g23).length co26, Value.int .i64 g24]), (51, Value.slice cA cl.length cc), (52, Value.pointer (some ⟨b1, 0, none⟩)), (53, Value.int .i64 x.g), (54, Value.tuple #[Value.slice Ao25 (g23).length co26, Value.int .i64 g24]), (55, Value.slice Ao25 (g23).length co26)] ac_ ∧ Ws w (· ∈ (OrdR m Ae ce E Ak ck C bg G bt T).fp) [Cel br15_16 #[Value.slice Ao25 (g23).length co26] 54, Cel br15_8 #[Value.int .i64 x.g, Value.int .i64 x.kind, Value.int .i64 x.site.f, Value.int .i64 x.site.pc, Value.int .u32 x.addr, Value.int .i64 x.child, Value.int .i64 x.obj, Value.int .i64 x.n, Value.int .i64 x.trap] 50, Cel b1 #[Value.int .i64 x.g, Value.int .i64 x.kind, Value.int .i64 x.site.f, Value.int .i64 x.site.pc, Value.int .u32 x.addr, Value.int .i64 x.child, Value.int .i64 x.obj, Value.int .i64 x.n, Value.int .i64 x.trap] 50, Cel m #[Value.slice Ar15_9 (E ++ ([x] : List Event)).length cr15_9, Value.slice Ar15_17 (C ++ ([(⟨g23, Ao25, co26⟩ : SV)] : List SV)).length cr15_17, Value.map (some bg), Value.map (some bt)] 75, rowR 50 9 enEvent (Value.slice Ar15_9 (E ++ ([x] : List Event)).length cr15_9) (E ++ ([x] : List Event)), rowR 54 1 enSV (Value.slice Ar15_17 (C ++ ([(⟨g23, Ao25, co26⟩ : SV)] : List SV)).length cr15_17) (C ++ ([(⟨g23, Ao25, co26⟩ : SV)] : List SV)), mapR bg (fun a : Int => Value.int .i64 a) SV.v (put G (x.g : Int) (⟨g23, Ao25, co26⟩ : SV)), mapR bt Thing.v SV.v T] [nestR innerSV (C ++ ([(⟨g23, Ao25, co26⟩ : SV)] : List SV)), nestR innerSV ([(⟨g23, Ao25, co26⟩ : SV)] : List SV), nestR innerSV ([] : List SV), nestR innerSV C, roR Ao25 1 enU8 g23, roR cA 1 enU8 cl, roR Ao10 1 enKd (fromL (x.kind)), nestR innerSV (NV C G T)] wl_) ?_ ?_
    · refine sr_region (m := 8) (C := Ws w (· ∈ (OrdR m Ae ce E Ak ck C bg G bt T).fp) [Cel br15_16 #[Value.slice Ao25 (g23).length co26] 54, Cel br15_8 #[Value.int .i64 x.g, Value.int .i64 x.kind, Value.int .i64 x.site.f, Value.int .i64 x.site.pc, Value.int .u32 x.addr, Value.int .i64 x.child, Value.int .i64 x.obj, Value.int .i64 x.n, Value.int .i64 x.trap] 50, Cel b1 #[Value.int .i64 x.g, Value.int .i64 x.kind, Value.int .i64 x.site.f, Value.int .i64 x.site.pc, Value.int .u32 x.addr, Value.int .i64 x.child, Value.int .i64 x.obj, Value.int .i64 x.n, Value.int .i64 x.trap] 50, Cel m #[Value.slice Ar15_9 (E ++ ([x] : List Event)).length cr15_9, Value.slice Ar15_17 (C ++ ([(⟨g23, Ao25, co26⟩ : SV)] : List SV)).length cr15_17, Value.map (some bg), Value.map (some bt)] 75, rowR 50 9 enEvent (Value.slice Ar15_9 (E ++ ([x] : List Event)).length cr15_9) (E ++ ([x] : List Event)), rowR 54 1 enSV (Value.slice Ar15_17 (C ++ ([(⟨g23, Ao25, co26⟩ : SV)] : List SV)).length cr15_17) (C ++ ([(⟨g23, Ao25, co26⟩ : SV)] : List SV)), mapR bg (fun a : Int => Value.int .i64 a) SV.v G, mapR bt Thing.v SV.v T] [nestR innerSV (C ++ ([(⟨g23, Ao25, co26⟩ : SV)] : List SV)), nestR innerSV ([(⟨g23, Ao25, co26⟩ : SV)] : List SV), nestR innerSV ([] : List SV), nestR innerSV C, roR Ao25 1 enU8 g23, roR cA 1 enU8 cl, roR Ao10 1 enKd (fromL (x.kind)), nestR innerSV (NV C G T)]) (fun i => [3, 5].contains i) (fun i => [3, 5].contains i) (fun i => [0, 1, 2, 4, 6].contains i) (by kernel_rfl) (by kernel_rfl) (by kernel_rfl) (by kernel_rfl) hW ?_; clear hW; intro w47 hW hfw47 hR; have hC : Ws w (· ∈ (OrdR m Ae ce E Ak ck C bg G bt T).fp) [Cel br15_16 #[Value.slice Ao25 (g23).length co26] 54, Cel br15_8 #[Value.int .i64 x.g, Value.int .i64 x.kind, Value.int .i64 x.site.f, Value.int .i64 x.site.pc, Value.int .u32 x.addr, Value.int .i64 x.child, Value.int .i64 x.obj, Value.int .i64 x.n, Value.int .i64 x.trap] 50, Cel b1 #[Value.int .i64 x.g, Value.int .i64 x.kind, Value.int .i64 x.site.f, Value.int .i64 x.site.pc, Value.int .u32 x.addr, Value.int .i64 x.child, Value.int .i64 x.obj, Value.int .i64 x.n, Value.int .i64 x.trap] 50, Cel m #[Value.slice Ar15_9 (E ++ ([x] : List Event)).length cr15_9, Value.slice Ar15_17 (C ++ ([(⟨g23, Ao25, co26⟩ : SV)] : List SV)).length cr15_17, Value.map (some bg), Value.map (some bt)] 75, rowR 50 9 enEvent (Value.slice Ar15_9 (E ++ ([x] : List Event)).length cr15_9) (E ++ ([x] : List Event)), rowR 54 1 enSV (Value.slice Ar15_17 (C ++ ([(⟨g23, Ao25, co26⟩ : SV)] : List SV)).length cr15_17) (C ++ ([(⟨g23, Ao25, co26⟩ : SV)] : List SV)), mapR bg (fun a : Int => Value.int .i64 a) SV.v G, mapR bt Thing.v SV.v T] [nestR innerSV (C ++ ([(⟨g23, Ao25, co26⟩ : SV)] : List SV)), nestR innerSV ([(⟨g23, Ao25, co26⟩ : SV)] : List SV), nestR innerSV ([] : List SV), nestR innerSV C, roR Ao25 1 enU8 g23, roR cA 1 enU8 cl, roR Ao10 1 enKd (fromL (x.kind)), nestR innerSV (NV C G T)] w47 := hW.pick [0, 1, 2, 3, 4, 5, 6, 7] (by decide) rfl
      refine sr_p 0 (Value.pointer (some ⟨m, 0, none⟩)) hR rfl hA fun ac hA => sr_p 1 (Value.pointer (some ⟨m, 0, none⟩)) hR rfl hA fun ac hA => sr_p 2 (Value.pointer (some ⟨m, 2, none⟩)) hR rfl hA fun ac hA => sr_t 3 (Value.map (some bg)) hR rfl hA hC (Rd.load (b := m) (i := 2) (by kernel_rfl) (fun _ hw => (hw).cel 3 rfl) (by kernel_rfl)) fun ac hA => sr_p 4 (Value.pointer (some ⟨b1, 0, none⟩)) hR rfl hA fun ac hA => sr_t 5 (Value.int .i64 x.g) hR rfl hA hC (Rd.load (b := b1) (i := 0) (by kernel_rfl) (fun _ hw => (hw).cel 2 rfl) (by kernel_rfl)) fun ac hA => sr_p 6 (Value.slice Ao25 (g23).length co26) hR rfl hA fun ac hA => ?_
      refine sr_one (i := 7) (by kernel_rfl) (sr_d rfl hA (Runs.mapUpdate (k := 3) (e := 54) (ek := (fun a : Int => Value.int .i64 a)) (ev := SV.v) (m := G) (x.g : Int) (⟨g23, Ao25, co26⟩ : SV) (by kernel_rfl) (by kernel_rfl) (by kernel_rfl) (KeyE.int (by kernel_rfl)) (by kernel_rfl) hW (i := 6) rfl ?_)); clear hA ac hW; intro w48 hW ac hA
      refine qn ?_
      refine sr_done (by kernel_rfl) ?_ _
      exact ⟨hA.sub (by and_intros <;> first | kernel_rfl | trivial), (hW.pick [0, 1, 2, 3, 4, 5, 6, 7] (by decide) rfl).pickG [0, 1, 2, 3, 4, 5, 6, 7] rfl⟩
    clear hA ac hW; rintro ac w49 ⟨hA, hW⟩
    refine thenN ?_
    refine wp_seq ?_
    refine wp_block ?_
    refine wp_seq ?_
    refine wp_region_lit ?_
    refine st_p (Value.pointer (some ⟨b1, 1, none⟩)) hA fun ac hA => st_q (Value.int .i64 x.kind) hA hW.cls (Rd.load (b := b1) (i := 1) (by kernel_rfl) (fun _ hw => (hw.1).cel 2 rfl) (by kernel_rfl)) fun ac hA => st_p (Value.bool ((x.kind : Int) == (4 : Int))) hA fun ac hA => st_p (Value.bool ((x.kind : Int) == (4 : Int))) hA fun ac hA => ?_
    refine wpList_nil ?_
    refine thenN ?_
    refine wp_cond_split (t := (x.kind : Int) == (4 : Int)) (hA.eval (by kernel_rfl)) (fun h50 => ?_) (fun h50 => ?_)
    ·
     have h50 := eq_of_beq h50
     first
     | (exfalso; clear hA hW; omega)
     | (
      obtain ⟨c51_l, c51_l_A, c51_l_c, hqc51⟩ : ∃ l A c, (look G (x.child : Int)).getD nilSV = (⟨l, A, c⟩ : SV) := ⟨_, _, _, rfl⟩
      have hmc51 : (⟨c51_l, c51_l_A, c51_l_c⟩ : SV) ∈ NV C G T := hqc51 ▸ nv_g _
      have hW := Ws.nestAt (inner := innerSV) (x := ⟨c51_l, c51_l_A, c51_l_c⟩) hW 7 rfl hmc51
      replace hW : Ws w (· ∈ (OrdR m Ae ce E Ak ck C bg G bt T).fp) [Cel br15_16 #[Value.slice Ao25 (g23).length co26] 54, Cel br15_8 #[Value.int .i64 x.g, Value.int .i64 x.kind, Value.int .i64 x.site.f, Value.int .i64 x.site.pc, Value.int .u32 x.addr, Value.int .i64 x.child, Value.int .i64 x.obj, Value.int .i64 x.n, Value.int .i64 x.trap] 50, Cel b1 #[Value.int .i64 x.g, Value.int .i64 x.kind, Value.int .i64 x.site.f, Value.int .i64 x.site.pc, Value.int .u32 x.addr, Value.int .i64 x.child, Value.int .i64 x.obj, Value.int .i64 x.n, Value.int .i64 x.trap] 50, Cel m #[Value.slice Ar15_9 (E ++ ([x] : List Event)).length cr15_9, Value.slice Ar15_17 (C ++ ([(⟨g23, Ao25, co26⟩ : SV)] : List SV)).length cr15_17, Value.map (some bg), Value.map (some bt)] 75, rowR 50 9 enEvent (Value.slice Ar15_9 (E ++ ([x] : List Event)).length cr15_9) (E ++ ([x] : List Event)), rowR 54 1 enSV (Value.slice Ar15_17 (C ++ ([(⟨g23, Ao25, co26⟩ : SV)] : List SV)).length cr15_17) (C ++ ([(⟨g23, Ao25, co26⟩ : SV)] : List SV)), mapR bg (fun a : Int => Value.int .i64 a) SV.v (put G (x.g : Int) (⟨g23, Ao25, co26⟩ : SV)), mapR bt Thing.v SV.v T] [roR c51_l_A 1 enU8 c51_l, nestR innerSV (C ++ ([(⟨g23, Ao25, co26⟩ : SV)] : List SV)), nestR innerSV ([(⟨g23, Ao25, co26⟩ : SV)] : List SV), nestR innerSV ([] : List SV), nestR innerSV C, roR Ao25 1 enU8 g23, roR cA 1 enU8 cl, roR Ao10 1 enKd (fromL (x.kind)), nestR innerSV (NV C G T)] w49 := hW
      have hc_c51_l : c51_l.length ≤ c51_l_c := hok.cap _ hmc51
      have hbc51 : Bd (E.length : Int) c51_l := hok.bd _ hmc51
      have hblc51 := hbc51.1
      have hsc51_l : Res.src (roR c51_l_A 1 enU8 c51_l) [nestR innerSV (NV C G T)] w := nsrc_at (inner := innerSV) (x := ⟨c51_l, c51_l_A, c51_l_c⟩) (src_arg (.head _)) hmc51
      have hec51 : c51_l = (stOf E).g x.child := (congrArg SV.l hqc51).symm.trans (hok.g _)
      have hpc51 : (look (put G (x.g : Int) (⟨g23, Ao25, co26⟩ : SV)) (x.child : Int)).getD nilSV = (⟨c51_l, c51_l_A, c51_l_c⟩ : SV) := by rw [look_put, if_neg (by omega)]; exact hqc51
      refine wp_cut (fun ac_ wl_ => ∃ Aor18_15 : Option Addr, ∃ br18_14 : Nat, ∃ cor18_15 : Nat, ∃ g0r18_15 : List Int, ((g0r18_15).length ≤ cor18_15) ∧ (∀ x_ ∈ ([(⟨g23, Ao25, co26⟩ : SV)] : List SV), capSV x_) ∧ (∀ x_ ∈ ([(⟨c51_l, c51_l_A, c51_l_c⟩ : SV), (⟨g23, Ao25, co26⟩ : SV)] : List SV), capSV x_) ∧ (g0r18_15 = trimC (foldJ ([(⟨c51_l, c51_l_A, c51_l_c⟩ : SV), (⟨g23, Ao25, co26⟩ : SV)] : List SV))) ∧ (Res.src (roR Aor18_15 1 enU8 g0r18_15) [nestR innerSV (NV C G T)] w) ∧ (Res.src (nestR innerSV ([(⟨g23, Ao25, co26⟩ : SV)] : List SV)) [nestR innerSV (NV C G T)] w) ∧ (Res.src (nestR innerSV ([(⟨c51_l, c51_l_A, c51_l_c⟩ : SV), (⟨g23, Ao25, co26⟩ : SV)] : List SV)) [nestR innerSV (NV C G T)] w) ∧ (Res.src (roR (some ⟨br18_14, 0, none⟩) 1 enSV ([(⟨c51_l, c51_l_A, c51_l_c⟩ : SV), (⟨g23, Ao25, co26⟩ : SV)] : List SV)) [nestR innerSV (NV C G T)] w) ∧ Fm 131 [] [(0, Value.pointer (some ⟨m, 0, none⟩)), (3, Value.pointer (some ⟨b1, 0, none⟩)), (5, Value.slice Ao25 (g23).length co26), (31, Value.slice Ao10 (fromL (x.kind)).length co11), (32, Value.int .i64 (((fromL (x.kind)).length : Nat) : Int)), (33, Value.int .i64 ((k : Nat) : Int)), (34, Value.bool (decide ((((k : Nat) : Int) : Int) < ((((fromL (x.kind)).length : Nat) : Int) : Int)))), (50, Value.tuple #[Value.slice Ao25 (g23).length co26, Value.int .i64 g24]), (51, Value.slice cA cl.length cc), (52, Value.pointer (some ⟨b1, 0, none⟩)), (53, Value.int .i64 x.g), (54, Value.tuple #[Value.slice Ao25 (g23).length co26, Value.int .i64 g24]), (55, Value.slice Ao25 (g23).length co26), (88, Value.bool ((x.kind : Int) == (4 : Int))), (89, Value.pointer (some ⟨b1, 1, none⟩)), (90, Value.int .i64 x.kind), (91, Value.bool ((x.kind : Int) == (4 : Int)))] ac_ ∧ Ws w (· ∈ (OrdR m Ae ce E Ak ck C bg G bt T).fp) [Cel br15_16 #[Value.slice Ao25 (g23).length co26] 54, Cel br15_8 #[Value.int .i64 x.g, Value.int .i64 x.kind, Value.int .i64 x.site.f, Value.int .i64 x.site.pc, Value.int .u32 x.addr, Value.int .i64 x.child, Value.int .i64 x.obj, Value.int .i64 x.n, Value.int .i64 x.trap] 50, Cel b1 #[Value.int .i64 x.g, Value.int .i64 x.kind, Value.int .i64 x.site.f, Value.int .i64 x.site.pc, Value.int .u32 x.addr, Value.int .i64 x.child, Value.int .i64 x.obj, Value.int .i64 x.n, Value.int .i64 x.trap] 50, Cel m #[Value.slice Ar15_9 (E ++ ([x] : List Event)).length cr15_9, Value.slice Ar15_17 (C ++ ([(⟨g23, Ao25, co26⟩ : SV)] : List SV)).length cr15_17, Value.map (some bg), Value.map (some bt)] 75, rowR 50 9 enEvent (Value.slice Ar15_9 (E ++ ([x] : List Event)).length cr15_9) (E ++ ([x] : List Event)), rowR 54 1 enSV (Value.slice Ar15_17 (C ++ ([(⟨g23, Ao25, co26⟩ : SV)] : List SV)).length cr15_17) (C ++ ([(⟨g23, Ao25, co26⟩ : SV)] : List SV)), mapR bg (fun a : Int => Value.int .i64 a) SV.v (put (put G (x.g : Int) (⟨g23, Ao25, co26⟩ : SV)) (x.child : Int) (⟨g0r18_15, Aor18_15, cor18_15⟩ : SV)), mapR bt Thing.v SV.v T] [roR Aor18_15 1 enU8 g0r18_15, nestR innerSV ([(⟨c51_l, c51_l_A, c51_l_c⟩ : SV), (⟨g23, Ao25, co26⟩ : SV)] : List SV), nestR innerSV ([(⟨g23, Ao25, co26⟩ : SV)] : List SV), roR (some ⟨br18_14, 0, none⟩) 1 enSV ([(⟨c51_l, c51_l_A, c51_l_c⟩ : SV), (⟨g23, Ao25, co26⟩ : SV)] : List SV), Cel br18_14 #[Value.slice c51_l_A c51_l.length c51_l_c, Value.slice Ao25 (g23).length co26] 54, roR c51_l_A 1 enU8 c51_l, nestR innerSV (C ++ ([(⟨g23, Ao25, co26⟩ : SV)] : List SV)), nestR innerSV ([(⟨g23, Ao25, co26⟩ : SV)] : List SV), nestR innerSV ([] : List SV), nestR innerSV C, roR Ao25 1 enU8 g23, roR cA 1 enU8 cl, roR Ao10 1 enKd (fromL (x.kind)), nestR innerSV (NV C G T)] wl_) ?_ ?_
      · refine sr_region (m := 17) (C := Ws w (· ∈ (OrdR m Ae ce E Ak ck C bg G bt T).fp) [Cel br15_16 #[Value.slice Ao25 (g23).length co26] 54, Cel br15_8 #[Value.int .i64 x.g, Value.int .i64 x.kind, Value.int .i64 x.site.f, Value.int .i64 x.site.pc, Value.int .u32 x.addr, Value.int .i64 x.child, Value.int .i64 x.obj, Value.int .i64 x.n, Value.int .i64 x.trap] 50, Cel b1 #[Value.int .i64 x.g, Value.int .i64 x.kind, Value.int .i64 x.site.f, Value.int .i64 x.site.pc, Value.int .u32 x.addr, Value.int .i64 x.child, Value.int .i64 x.obj, Value.int .i64 x.n, Value.int .i64 x.trap] 50, Cel m #[Value.slice Ar15_9 (E ++ ([x] : List Event)).length cr15_9, Value.slice Ar15_17 (C ++ ([(⟨g23, Ao25, co26⟩ : SV)] : List SV)).length cr15_17, Value.map (some bg), Value.map (some bt)] 75, rowR 50 9 enEvent (Value.slice Ar15_9 (E ++ ([x] : List Event)).length cr15_9) (E ++ ([x] : List Event)), rowR 54 1 enSV (Value.slice Ar15_17 (C ++ ([(⟨g23, Ao25, co26⟩ : SV)] : List SV)).length cr15_17) (C ++ ([(⟨g23, Ao25, co26⟩ : SV)] : List SV)), mapR bg (fun a : Int => Value.int .i64 a) SV.v (put G (x.g : Int) (⟨g23, Ao25, co26⟩ : SV)), mapR bt Thing.v SV.v T] [roR c51_l_A 1 enU8 c51_l, nestR innerSV (C ++ ([(⟨g23, Ao25, co26⟩ : SV)] : List SV)), nestR innerSV ([(⟨g23, Ao25, co26⟩ : SV)] : List SV), nestR innerSV ([] : List SV), nestR innerSV C, roR Ao25 1 enU8 g23, roR cA 1 enU8 cl, roR Ao10 1 enKd (fromL (x.kind)), nestR innerSV (NV C G T)]) (fun i => [3, 5, 9, 11, 12].contains i) (fun i => [3, 5, 9, 11, 12, 14, 15].contains i) (fun i => [0, 1, 2, 4, 6, 7, 8, 10, 13].contains i) (by kernel_rfl) (by kernel_rfl) (by kernel_rfl) (by kernel_rfl) hW ?_; clear hW; intro w52 hW hfw52 hR; have hC : Ws w (· ∈ (OrdR m Ae ce E Ak ck C bg G bt T).fp) [Cel br15_16 #[Value.slice Ao25 (g23).length co26] 54, Cel br15_8 #[Value.int .i64 x.g, Value.int .i64 x.kind, Value.int .i64 x.site.f, Value.int .i64 x.site.pc, Value.int .u32 x.addr, Value.int .i64 x.child, Value.int .i64 x.obj, Value.int .i64 x.n, Value.int .i64 x.trap] 50, Cel b1 #[Value.int .i64 x.g, Value.int .i64 x.kind, Value.int .i64 x.site.f, Value.int .i64 x.site.pc, Value.int .u32 x.addr, Value.int .i64 x.child, Value.int .i64 x.obj, Value.int .i64 x.n, Value.int .i64 x.trap] 50, Cel m #[Value.slice Ar15_9 (E ++ ([x] : List Event)).length cr15_9, Value.slice Ar15_17 (C ++ ([(⟨g23, Ao25, co26⟩ : SV)] : List SV)).length cr15_17, Value.map (some bg), Value.map (some bt)] 75, rowR 50 9 enEvent (Value.slice Ar15_9 (E ++ ([x] : List Event)).length cr15_9) (E ++ ([x] : List Event)), rowR 54 1 enSV (Value.slice Ar15_17 (C ++ ([(⟨g23, Ao25, co26⟩ : SV)] : List SV)).length cr15_17) (C ++ ([(⟨g23, Ao25, co26⟩ : SV)] : List SV)), mapR bg (fun a : Int => Value.int .i64 a) SV.v (put G (x.g : Int) (⟨g23, Ao25, co26⟩ : SV)), mapR bt Thing.v SV.v T] [roR c51_l_A 1 enU8 c51_l, nestR innerSV (C ++ ([(⟨g23, Ao25, co26⟩ : SV)] : List SV)), nestR innerSV ([(⟨g23, Ao25, co26⟩ : SV)] : List SV), nestR innerSV ([] : List SV), nestR innerSV C, roR Ao25 1 enU8 g23, roR cA 1 enU8 cl, roR Ao10 1 enKd (fromL (x.kind)), nestR innerSV (NV C G T)] w52 := hW.pick [0, 1, 2, 3, 4, 5, 6, 7] (by decide) rfl
        refine sr_p 0 (Value.pointer (some ⟨m, 0, none⟩)) hR rfl hA fun ac hA => sr_p 1 (Value.pointer (some ⟨m, 0, none⟩)) hR rfl hA fun ac hA => sr_p 2 (Value.pointer (some ⟨m, 2, none⟩)) hR rfl hA fun ac hA => sr_t 3 (Value.map (some bg)) hR rfl hA hC (Rd.load (b := m) (i := 2) (by kernel_rfl) (fun _ hw => (hw).cel 3 rfl) (by kernel_rfl)) fun ac hA => sr_p 4 (Value.pointer (some ⟨b1, 5, none⟩)) hR rfl hA fun ac hA => sr_t 5 (Value.int .i64 x.child) hR rfl hA hC (Rd.load (b := b1) (i := 5) (by kernel_rfl) (fun _ hw => (hw).cel 2 rfl) (by kernel_rfl)) fun ac hA => sr_p 6 (Value.pointer (some ⟨m, 0, none⟩)) hR rfl hA fun ac hA => sr_p 7 (Value.pointer (some ⟨m, 0, none⟩)) hR rfl hA fun ac hA => sr_p 8 (Value.pointer (some ⟨m, 2, none⟩)) hR rfl hA fun ac hA => sr_t 9 (Value.map (some bg)) hR rfl hA hC (Rd.load (b := m) (i := 2) (by kernel_rfl) (fun _ hw => (hw).cel 3 rfl) (by kernel_rfl)) fun ac hA => sr_p 10 (Value.pointer (some ⟨b1, 5, none⟩)) hR rfl hA fun ac hA => sr_t 11 (Value.int .i64 x.child) hR rfl hA hC (Rd.load (b := b1) (i := 5) (by kernel_rfl) (fun _ hw => (hw).cel 2 rfl) (by kernel_rfl)) fun ac hA => sr_t 12 (Value.slice c51_l_A c51_l.length c51_l_c) hR rfl hA hC ((Rd.lookup (k := 3) (e := 54) (ek := (fun a : Int => Value.int .i64 a)) (ev := SV.v) (m := (put G (x.g : Int) (⟨g23, Ao25, co26⟩ : SV))) (z := Value.slice none 0 0) (x.child : Int) false (by kernel_rfl) (by kernel_rfl) (KeyE.int (by kernel_rfl)) (by kernel_rfl) (fun _ => by kernel_rfl) (fun _ hw => (hw).get 6 rfl)).cast (by have q_ := congrArg SV.v hpc51; revert q_; generalize look (put G (x.g : Int) (⟨g23, Ao25, co26⟩ : SV)) (x.child : Int) = o_; intro q_; cases o_ <;> exact q_)) fun ac hA => sr_p 13 (Value.slice Ao25 (g23).length co26) hR rfl hA fun ac hA => ?_
        have hzbr18_14 := hW.fr.size
        refine sr_one (i := 14) (by kernel_rfl) (sr_d rfl hA (Runs.cells (fun b => Value.slice (some ⟨b, 0, none⟩) 2 2) #[Value.slice c51_l_A c51_l.length c51_l_c, Value.slice Ao25 (g23).length co26] 54 (fun _ => by kernel_rfl) hW ?_)); clear hA ac hW; intro br18_14 w53 hW hbr18_14 hfw53 ac hA
        refine ⟨⟨fun _ => (hW.pick [1, 2, 3, 4, 5, 6, 7, 8] (by decide) rfl).pickG [0, 1, 2, 3, 4, 5, 6, 7, 8] rfl, fun h => absurd h (by decide)⟩, ?_⟩; have hC : Ws w (· ∈ (OrdR m Ae ce E Ak ck C bg G bt T).fp) [Cel br15_16 #[Value.slice Ao25 (g23).length co26] 54, Cel br15_8 #[Value.int .i64 x.g, Value.int .i64 x.kind, Value.int .i64 x.site.f, Value.int .i64 x.site.pc, Value.int .u32 x.addr, Value.int .i64 x.child, Value.int .i64 x.obj, Value.int .i64 x.n, Value.int .i64 x.trap] 50, Cel b1 #[Value.int .i64 x.g, Value.int .i64 x.kind, Value.int .i64 x.site.f, Value.int .i64 x.site.pc, Value.int .u32 x.addr, Value.int .i64 x.child, Value.int .i64 x.obj, Value.int .i64 x.n, Value.int .i64 x.trap] 50, Cel m #[Value.slice Ar15_9 (E ++ ([x] : List Event)).length cr15_9, Value.slice Ar15_17 (C ++ ([(⟨g23, Ao25, co26⟩ : SV)] : List SV)).length cr15_17, Value.map (some bg), Value.map (some bt)] 75, rowR 50 9 enEvent (Value.slice Ar15_9 (E ++ ([x] : List Event)).length cr15_9) (E ++ ([x] : List Event)), rowR 54 1 enSV (Value.slice Ar15_17 (C ++ ([(⟨g23, Ao25, co26⟩ : SV)] : List SV)).length cr15_17) (C ++ ([(⟨g23, Ao25, co26⟩ : SV)] : List SV)), mapR bg (fun a : Int => Value.int .i64 a) SV.v (put G (x.g : Int) (⟨g23, Ao25, co26⟩ : SV)), mapR bt Thing.v SV.v T] [roR c51_l_A 1 enU8 c51_l, nestR innerSV (C ++ ([(⟨g23, Ao25, co26⟩ : SV)] : List SV)), nestR innerSV ([(⟨g23, Ao25, co26⟩ : SV)] : List SV), nestR innerSV ([] : List SV), nestR innerSV C, roR Ao25 1 enU8 g23, roR cA 1 enU8 cl, roR Ao10 1 enKd (fromL (x.kind)), nestR innerSV (NV C G T)] w53 := (hW.pick [1, 2, 3, 4, 5, 6, 7, 8] (by decide) rfl).pickG [0, 1, 2, 3, 4, 5, 6, 7, 8] rfl
        have hsro_br18_14 : Res.src (roR (some ⟨br18_14, 0, none⟩) 1 enSV ([(⟨c51_l, c51_l_A, c51_l_c⟩ : SV), (⟨g23, Ao25, co26⟩ : SV)] : List SV)) [nestR innerSV (NV C G T)] w := fun b_ hb_ => .inr (by have q_ := cel_fp (T := 54) (cs := #[Value.slice c51_l_A c51_l.length c51_l_c, Value.slice Ao25 (g23).length co26]) b_ hb_; simp only [Cel, List.mem_singleton] at q_; omega)
        have hW := hW.share 0 rfl (H' := [Cel br15_16 #[Value.slice Ao25 (g23).length co26] 54, Cel br15_8 #[Value.int .i64 x.g, Value.int .i64 x.kind, Value.int .i64 x.site.f, Value.int .i64 x.site.pc, Value.int .u32 x.addr, Value.int .i64 x.child, Value.int .i64 x.obj, Value.int .i64 x.n, Value.int .i64 x.trap] 50, Cel b1 #[Value.int .i64 x.g, Value.int .i64 x.kind, Value.int .i64 x.site.f, Value.int .i64 x.site.pc, Value.int .u32 x.addr, Value.int .i64 x.child, Value.int .i64 x.obj, Value.int .i64 x.n, Value.int .i64 x.trap] 50, Cel m #[Value.slice Ar15_9 (E ++ ([x] : List Event)).length cr15_9, Value.slice Ar15_17 (C ++ ([(⟨g23, Ao25, co26⟩ : SV)] : List SV)).length cr15_17, Value.map (some bg), Value.map (some bt)] 75, rowR 50 9 enEvent (Value.slice Ar15_9 (E ++ ([x] : List Event)).length cr15_9) (E ++ ([x] : List Event)), rowR 54 1 enSV (Value.slice Ar15_17 (C ++ ([(⟨g23, Ao25, co26⟩ : SV)] : List SV)).length cr15_17) (C ++ ([(⟨g23, Ao25, co26⟩ : SV)] : List SV)), mapR bg (fun a : Int => Value.int .i64 a) SV.v (put G (x.g : Int) (⟨g23, Ao25, co26⟩ : SV)), mapR bt Thing.v SV.v T]) rfl
        have hW := hW.nestG (roR (some ⟨br18_14, 0, none⟩) 1 enSV ([(⟨c51_l, c51_l_A, c51_l_c⟩ : SV), (⟨g23, Ao25, co26⟩ : SV)] : List SV)) (rowAt_cel (show _ = _ from hW.getG 0 rfl) ([(⟨c51_l, c51_l_A, c51_l_c⟩ : SV), (⟨g23, Ao25, co26⟩ : SV)] : List SV) (by rfl) elt_SV.len) (fun _ hb_ => ⟨_, List.mem_of_getElem? (i := 0) rfl, cel_fp _ hb_⟩)
        have hW := Ws.nestCons (inner := innerSV) hW 5 rfl (⟨g23, Ao25, co26⟩ : SV) (hW.getG 7 rfl) (fun _ hb_ => ⟨_, List.mem_of_getElem? (i := 7) rfl, hb_⟩)
        have hknq18_15 : ∀ x_ ∈ ([(⟨g23, Ao25, co26⟩ : SV)] : List SV), capSV x_ := all_cons (show g23.length ≤ co26 from (by first | assumption | omega | (simp; omega) | simp)) hknq15_17
        have hsnq18_15 : Res.src (nestR innerSV ([(⟨g23, Ao25, co26⟩ : SV)] : List SV)) [nestR innerSV (NV C G T)] w := nsrc_cons hsco26 hsnq15_17
        have hW := Ws.nestCons (inner := innerSV) hW 0 rfl (⟨c51_l, c51_l_A, c51_l_c⟩ : SV) (hW.getG 3 rfl) (fun _ hb_ => ⟨_, List.mem_of_getElem? (i := 3) rfl, hb_⟩)
        have hknq18_15x1 : ∀ x_ ∈ ([(⟨c51_l, c51_l_A, c51_l_c⟩ : SV), (⟨g23, Ao25, co26⟩ : SV)] : List SV), capSV x_ := all_cons (show c51_l.length ≤ c51_l_c from (by first | assumption | omega | (simp; omega) | simp)) hknq18_15
        have hsnq18_15x1 : Res.src (nestR innerSV ([(⟨c51_l, c51_l_A, c51_l_c⟩ : SV), (⟨g23, Ao25, co26⟩ : SV)] : List SV)) [nestR innerSV (NV C G T)] w := nsrc_cons hsc51_l hsnq18_15
        refine sr_one (i := 15) (by kernel_rfl) (sr_d rfl hA (Runs.call (fun _ => by kernel_rfl) (e_vjoin (some ⟨br18_14, 0, none⟩) 2 ([(⟨c51_l, c51_l_A, c51_l_c⟩ : SV), (⟨g23, Ao25, co26⟩ : SV)] : List SV) w53 ((hW).getG 2 rfl) (by first | assumption | omega | (simp; omega) | simp) ((hW).getG 0 rfl) hknq18_15x1 (show (2 : Nat) ≤ 1000 from by decide) (jn_hx (by assumption) (by assumption)) (jn_hf (by assumption) (by assumption))) ?_))
        rintro _ w54 ⟨g0r18_15, Aor18_15, cor18_15, rfl, hr18_15_hO, hccor18_15, hfcor18_15, hfw54⟩; refine ⟨_, rfl, ?_⟩; have hW0 := hW; have hW := hW0.call hfw54
        have hW := hW0.addFromAt hW hfcor18_15 (in_cons (in_at 2 rfl) (in_cons (in_at 0 rfl) in_nil))
        have hscor18_15 : Res.src (roR Aor18_15 1 enU8 g0r18_15) [nestR innerSV (NV C G T)] w := src_call hfcor18_15 (srcs_cons hsro_br18_14 (srcs_cons hsnq18_15x1 srcs_nil)) hW0.fr.size
        clear hW0 hA ac; intro ac hA
        refine ⟨⟨fun _ => (hW.pick [0, 1, 2, 3, 4, 5, 6, 7] (by decide) rfl).pickG [5, 6, 7, 8, 9, 10, 11, 12, 13] rfl, fun h => absurd h (by decide)⟩, ?_⟩; have hC : Ws w (· ∈ (OrdR m Ae ce E Ak ck C bg G bt T).fp) [Cel br15_16 #[Value.slice Ao25 (g23).length co26] 54, Cel br15_8 #[Value.int .i64 x.g, Value.int .i64 x.kind, Value.int .i64 x.site.f, Value.int .i64 x.site.pc, Value.int .u32 x.addr, Value.int .i64 x.child, Value.int .i64 x.obj, Value.int .i64 x.n, Value.int .i64 x.trap] 50, Cel b1 #[Value.int .i64 x.g, Value.int .i64 x.kind, Value.int .i64 x.site.f, Value.int .i64 x.site.pc, Value.int .u32 x.addr, Value.int .i64 x.child, Value.int .i64 x.obj, Value.int .i64 x.n, Value.int .i64 x.trap] 50, Cel m #[Value.slice Ar15_9 (E ++ ([x] : List Event)).length cr15_9, Value.slice Ar15_17 (C ++ ([(⟨g23, Ao25, co26⟩ : SV)] : List SV)).length cr15_17, Value.map (some bg), Value.map (some bt)] 75, rowR 50 9 enEvent (Value.slice Ar15_9 (E ++ ([x] : List Event)).length cr15_9) (E ++ ([x] : List Event)), rowR 54 1 enSV (Value.slice Ar15_17 (C ++ ([(⟨g23, Ao25, co26⟩ : SV)] : List SV)).length cr15_17) (C ++ ([(⟨g23, Ao25, co26⟩ : SV)] : List SV)), mapR bg (fun a : Int => Value.int .i64 a) SV.v (put G (x.g : Int) (⟨g23, Ao25, co26⟩ : SV)), mapR bt Thing.v SV.v T] [roR c51_l_A 1 enU8 c51_l, nestR innerSV (C ++ ([(⟨g23, Ao25, co26⟩ : SV)] : List SV)), nestR innerSV ([(⟨g23, Ao25, co26⟩ : SV)] : List SV), nestR innerSV ([] : List SV), nestR innerSV C, roR Ao25 1 enU8 g23, roR cA 1 enU8 cl, roR Ao10 1 enKd (fromL (x.kind)), nestR innerSV (NV C G T)] w54 := (hW.pick [0, 1, 2, 3, 4, 5, 6, 7] (by decide) rfl).pickG [5, 6, 7, 8, 9, 10, 11, 12, 13] rfl
        refine sr_one (i := 16) (by kernel_rfl) (sr_d rfl hA (Runs.mapUpdate (k := 3) (e := 54) (ek := (fun a : Int => Value.int .i64 a)) (ev := SV.v) (m := (put G (x.g : Int) (⟨g23, Ao25, co26⟩ : SV))) (x.child : Int) (⟨g0r18_15, Aor18_15, cor18_15⟩ : SV) (by kernel_rfl) (by kernel_rfl) (by kernel_rfl) (KeyE.int (by kernel_rfl)) (by kernel_rfl) hW (i := 6) rfl ?_)); clear hA ac hW; intro w55 hW ac hA
        refine qn ?_
        refine sr_done (by kernel_rfl) ?_ _
        exact ⟨Aor18_15, br18_14, cor18_15, g0r18_15, hccor18_15, hknq18_15, hknq18_15x1, hr18_15_hO, hscor18_15, hsnq18_15, hsnq18_15x1, hsro_br18_14, hA.sub (by and_intros <;> first | kernel_rfl | trivial), (hW.pick [0, 1, 2, 3, 4, 5, 6, 7] (by decide) rfl).pickG [0, 1, 2, 3, 4, 5, 6, 7, 8, 9, 10, 11, 12, 13] rfl⟩
      clear hA ac hW; rintro ac w56 ⟨Aor18_15, br18_14, cor18_15, g0r18_15, hccor18_15, hknq18_15, hknq18_15x1, hr18_15_hO, hscor18_15, hsnq18_15, hsnq18_15x1, hsro_br18_14, hA, hW⟩
      refine blkN ?_
      refine thenN ?_
      refine wp_seq ?_
      refine wp_seq ?_
      refine wp_region_lit ?_
      refine st_p (Value.int .i64 0) hA ?_; clear hA ac; intro ac hA
      refine wpList_nil ?_
      refine thenN ?_
      refine wp_ret ?_
      refine thenR ?_
      refine fwdR ?_
      refine ret1 (v := Value.int .i64 0) (by rfl) hA (Got.tmp hA (by kernel_rfl) (by kernel_rfl)) ?_
      clear hA
      have hW := Ws.nestCons (inner := innerSV) hW 13 rfl (⟨g23, Ao25, co26⟩ : SV) (hW.getG 10 rfl) (fun _ hb_ => ⟨_, List.mem_of_getElem? (i := 10) rfl, hb_⟩)
      have hknq57 : ∀ x_ ∈ ((⟨g23, Ao25, co26⟩ : SV) :: NV C G T), capSV x_ := all_cons (show g23.length ≤ co26 from (by first | assumption | omega | (simp; omega) | simp)) hok.cap
      have hsnq57 : Res.src (nestR innerSV ((⟨g23, Ao25, co26⟩ : SV) :: NV C G T)) [nestR innerSV (NV C G T)] w := nsrc_cons hsco26 (src_arg (.head _))
      have hW := Ws.nestCons (inner := innerSV) hW 0 rfl (⟨g0r18_15, Aor18_15, cor18_15⟩ : SV) (hW.getG 1 rfl) (fun _ hb_ => ⟨_, List.mem_of_getElem? (i := 1) rfl, hb_⟩)
      have hknq58 : ∀ x_ ∈ ((⟨g0r18_15, Aor18_15, cor18_15⟩ : SV) :: (⟨g23, Ao25, co26⟩ : SV) :: NV C G T), capSV x_ := all_cons (show g0r18_15.length ≤ cor18_15 from (by first | assumption | omega | (simp; omega) | simp)) hknq57
      have hsnq58 : Res.src (nestR innerSV ((⟨g0r18_15, Aor18_15, cor18_15⟩ : SV) :: (⟨g23, Ao25, co26⟩ : SV) :: NV C G T)) [nestR innerSV (NV C G T)] w := nsrc_cons hscor18_15 hsnq57
      have hv_ : g0r18_15 = join2 c51_l g23 := hr18_15_hO
      have hv2_ : g0r18_15 = join2 ((stOf E).g x.child) (tick1 (accS (stOf E) x) x.g) := by rw [hv_, hec51, hu_]
      have hvb_ : Bd ((E.length : Int) + 1) g0r18_15 := by rw [hv_]; exact join2_bd (hbc51.mono (by omega)) hub_
      have hW := Ws.nestSub (inner := innerSV) (m := NV (C ++ [(⟨g23, Ao25, co26⟩ : SV)]) (put (put G (x.g : Int) (⟨g23, Ao25, co26⟩ : SV)) (x.child : Int) (⟨g0r18_15, Aor18_15, cor18_15⟩ : SV)) T) hW 0 rfl nvs2
      have hknq59 : ∀ x_ ∈ (NV (C ++ [(⟨g23, Ao25, co26⟩ : SV)]) (put (put G (x.g : Int) (⟨g23, Ao25, co26⟩ : SV)) (x.child : Int) (⟨g0r18_15, Aor18_15, cor18_15⟩ : SV)) T), capSV x_ := all_sub hknq58 nvs2
      have hsnq59 : Res.src (nestR innerSV (NV (C ++ [(⟨g23, Ao25, co26⟩ : SV)]) (put (put G (x.g : Int) (⟨g23, Ao25, co26⟩ : SV)) (x.child : Int) (⟨g0r18_15, Aor18_15, cor18_15⟩ : SV)) T)) [nestR innerSV (NV C G T)] w := nsrc_sub hsnq58 nvs2
      have hW := Ws.back hW 0 rfl hsnq59 (fun b_ hb_ => mem_allR.2 ⟨_, List.mem_of_getElem? (i := 5) rfl, hb_⟩)
      exact ⟨0, E ++ ([x] : List Event), Ar15_9, cr15_9, C ++ ([(⟨g23, Ao25, co26⟩ : SV)] : List SV), Ar15_17, cr15_17, put (put G (x.g : Int) (⟨g23, Ao25, co26⟩ : SV)) (x.child : Int) (⟨g0r18_15, Aor18_15, cor18_15⟩ : SV), T, rfl, by exact addE_yes (by omega) hxo_, by exact hok.snoc (by omega) hxo_ hu_ (add_g4 hok hu_ (by omega) (by omega) hv2_) (add_t0 hok (by omega)) nvs2 hknq58 (bd_cons hvb_ (bd_cons hub_ hok.bdN)), (Ws.pack (K := []) (show Ws w (· ∈ (OrdR m Ae ce E Ak ck C bg G bt T).fp) ([Cel m #[Value.slice Ar15_9 (E ++ ([x] : List Event)).length cr15_9, Value.slice Ar15_17 (C ++ ([(⟨g23, Ao25, co26⟩ : SV)] : List SV)).length cr15_17, Value.map (some bg), Value.map (some bt)] 75, rowR 50 9 enEvent (Value.slice Ar15_9 (E ++ ([x] : List Event)).length cr15_9) (E ++ ([x] : List Event)), rowR 54 1 enSV (Value.slice Ar15_17 (C ++ ([(⟨g23, Ao25, co26⟩ : SV)] : List SV)).length cr15_17) (C ++ ([(⟨g23, Ao25, co26⟩ : SV)] : List SV)), mapR bg (fun a : Int => Value.int .i64 a) SV.v (put (put G (x.g : Int) (⟨g23, Ao25, co26⟩ : SV)) (x.child : Int) (⟨g0r18_15, Aor18_15, cor18_15⟩ : SV)), mapR bt Thing.v SV.v T, nestR innerSV (NV (C ++ [(⟨g23, Ao25, co26⟩ : SV)]) (put (put G (x.g : Int) (⟨g23, Ao25, co26⟩ : SV)) (x.child : Int) (⟨g0r18_15, Aor18_15, cor18_15⟩ : SV)) T)] ++ []) [] _ from hW.pick [4, 5, 6, 7, 8, 0] (by decide) rfl)).updDone 0 rfl⟩)
    have h50 := ne_of_beq_false h50
    first
    | (exfalso; clear hA hW; omega)
    | (
     refine wp_seq ?_
     refine wp_region_lit ?_
     refine st_q (Value.agg #[Value.int .i64 x.g, Value.int .i64 x.kind, Value.int .i64 x.site.f, Value.int .i64 x.site.pc, Value.int .u32 x.addr, Value.int .i64 x.child, Value.int .i64 x.obj, Value.int .i64 x.n, Value.int .i64 x.trap]) hA hW.cls (Rd.load (b := b1) (i := 0) (by kernel_rfl) (fun _ hw => (hw.1).cel 2 rfl) (by kernel_rfl)) ?_; clear hA ac; intro ac hA
     refine st_s hA (Runs.callN (v := Value.bool (evRel x)) (fun _ => by kernel_rfl) hW (e_erel x w49) ?_); clear hA ac hW; intro w60 hW hfw60 ac hA
     refine st_p (Value.bool (evRel x)) hA ?_; clear hA ac; intro ac hA
     refine wpList_nil ?_
     refine thenN ?_
     refine wp_cond_split (t := evRel x) (hA.eval (by kernel_rfl)) (fun h61 => ?_) (fun h61 => ?_)
     ·
      first
      | (exfalso; clear hA hW; omega)
      | (
       refine wp_seq ?_
       refine wp_region_lit ?_
       refine st_p (Value.pointer (some ⟨b1, 1, none⟩)) hA fun ac hA => st_q (Value.int .i64 x.kind) hA hW.cls (Rd.load (b := b1) (i := 1) (by kernel_rfl) (fun _ hw => (hw.1).cel 2 rfl) (by kernel_rfl)) fun ac hA => st_p (Value.pointer (some ⟨b1, 6, none⟩)) hA fun ac hA => st_q (Value.int .i64 x.obj) hA hW.cls (Rd.load (b := b1) (i := 6) (by kernel_rfl) (fun _ hw => (hw.1).cel 2 rfl) (by kernel_rfl)) fun ac hA => st_p (Value.agg #[Value.int .i64 x.kind, Value.int .i64 x.obj]) hA fun ac hA => ?_
       refine st_s hA (Runs.cells (fun b => Value.pointer (some ⟨b, 0, none⟩)) #[Value.int .i64 0, Value.int .i64 0] 91 (fun _ => by kernel_rfl) hW ?_); clear hA ac hW; intro b62 w63 hW hb62 hfw63 ac hA
       refine st_s hA (Runs.store (v := Value.agg #[Value.int .i64 x.kind, Value.int .i64 x.obj]) (b := b62) (j := 0) (n := 2) (cs' := #[Value.int .i64 x.kind, Value.int .i64 x.obj]) (H' := [Cel b62 #[Value.int .i64 x.kind, Value.int .i64 x.obj] 91, Cel br15_16 #[Value.slice Ao25 (g23).length co26] 54, Cel br15_8 #[Value.int .i64 x.g, Value.int .i64 x.kind, Value.int .i64 x.site.f, Value.int .i64 x.site.pc, Value.int .u32 x.addr, Value.int .i64 x.child, Value.int .i64 x.obj, Value.int .i64 x.n, Value.int .i64 x.trap] 50, Cel b1 #[Value.int .i64 x.g, Value.int .i64 x.kind, Value.int .i64 x.site.f, Value.int .i64 x.site.pc, Value.int .u32 x.addr, Value.int .i64 x.child, Value.int .i64 x.obj, Value.int .i64 x.n, Value.int .i64 x.trap] 50, Cel m #[Value.slice Ar15_9 (E ++ ([x] : List Event)).length cr15_9, Value.slice Ar15_17 (C ++ ([(⟨g23, Ao25, co26⟩ : SV)] : List SV)).length cr15_17, Value.map (some bg), Value.map (some bt)] 75, rowR 50 9 enEvent (Value.slice Ar15_9 (E ++ ([x] : List Event)).length cr15_9) (E ++ ([x] : List Event)), rowR 54 1 enSV (Value.slice Ar15_17 (C ++ ([(⟨g23, Ao25, co26⟩ : SV)] : List SV)).length cr15_17) (C ++ ([(⟨g23, Ao25, co26⟩ : SV)] : List SV)), mapR bg (fun a : Int => Value.int .i64 a) SV.v (put G (x.g : Int) (⟨g23, Ao25, co26⟩ : SV)), mapR bt Thing.v SV.v T]) (by kernel_rfl) (by kernel_rfl) (by kernel_rfl) (by kernel_rfl) (by kernel_rfl) hW 0 (by rfl) (Nat.le_of_ble_eq_true (by kernel_rfl)) (by kernel_rfl) (by rfl) ?_); clear hA ac hW; intro w64 hW ac hA
       refine wpList_nil ?_
       refine thenN ?_
       obtain ⟨c65_l, c65_l_A, c65_l_c, hqc65⟩ : ∃ l A c, (look T (⟨x.kind, x.obj⟩ : Thing)).getD nilSV = (⟨l, A, c⟩ : SV) := ⟨_, _, _, rfl⟩
       have hmc65 : (⟨c65_l, c65_l_A, c65_l_c⟩ : SV) ∈ NV C G T := hqc65 ▸ nv_t _
       have hW := Ws.nestAt (inner := innerSV) (x := ⟨c65_l, c65_l_A, c65_l_c⟩) hW 7 rfl hmc65
       replace hW : Ws w (· ∈ (OrdR m Ae ce E Ak ck C bg G bt T).fp) [Cel b62 #[Value.int .i64 x.kind, Value.int .i64 x.obj] 91, Cel br15_16 #[Value.slice Ao25 (g23).length co26] 54, Cel br15_8 #[Value.int .i64 x.g, Value.int .i64 x.kind, Value.int .i64 x.site.f, Value.int .i64 x.site.pc, Value.int .u32 x.addr, Value.int .i64 x.child, Value.int .i64 x.obj, Value.int .i64 x.n, Value.int .i64 x.trap] 50, Cel b1 #[Value.int .i64 x.g, Value.int .i64 x.kind, Value.int .i64 x.site.f, Value.int .i64 x.site.pc, Value.int .u32 x.addr, Value.int .i64 x.child, Value.int .i64 x.obj, Value.int .i64 x.n, Value.int .i64 x.trap] 50, Cel m #[Value.slice Ar15_9 (E ++ ([x] : List Event)).length cr15_9, Value.slice Ar15_17 (C ++ ([(⟨g23, Ao25, co26⟩ : SV)] : List SV)).length cr15_17, Value.map (some bg), Value.map (some bt)] 75, rowR 50 9 enEvent (Value.slice Ar15_9 (E ++ ([x] : List Event)).length cr15_9) (E ++ ([x] : List Event)), rowR 54 1 enSV (Value.slice Ar15_17 (C ++ ([(⟨g23, Ao25, co26⟩ : SV)] : List SV)).length cr15_17) (C ++ ([(⟨g23, Ao25, co26⟩ : SV)] : List SV)), mapR bg (fun a : Int => Value.int .i64 a) SV.v (put G (x.g : Int) (⟨g23, Ao25, co26⟩ : SV)), mapR bt Thing.v SV.v T] [roR c65_l_A 1 enU8 c65_l, nestR innerSV (C ++ ([(⟨g23, Ao25, co26⟩ : SV)] : List SV)), nestR innerSV ([(⟨g23, Ao25, co26⟩ : SV)] : List SV), nestR innerSV ([] : List SV), nestR innerSV C, roR Ao25 1 enU8 g23, roR cA 1 enU8 cl, roR Ao10 1 enKd (fromL (x.kind)), nestR innerSV (NV C G T)] w64 := hW
       have hc_c65_l : c65_l.length ≤ c65_l_c := hok.cap _ hmc65
       have hbc65 : Bd (E.length : Int) c65_l := hok.bd _ hmc65
       have hblc65 := hbc65.1
       have hsc65_l : Res.src (roR c65_l_A 1 enU8 c65_l) [nestR innerSV (NV C G T)] w := nsrc_at (inner := innerSV) (x := ⟨c65_l, c65_l_A, c65_l_c⟩) (src_arg (.head _)) hmc65
       have hec65 : c65_l = (stOf E).t x.kind x.obj := (congrArg SV.l hqc65).symm.trans (hok.t _ _)
       refine wp_cut (fun ac_ wl_ => ∃ Aor21_13 : Option Addr, ∃ br21_12 : Nat, ∃ cor21_13 : Nat, ∃ g0r21_13 : List Int, ((g0r21_13).length ≤ cor21_13) ∧ (∀ x_ ∈ ([(⟨g23, Ao25, co26⟩ : SV)] : List SV), capSV x_) ∧ (∀ x_ ∈ ([(⟨c65_l, c65_l_A, c65_l_c⟩ : SV), (⟨g23, Ao25, co26⟩ : SV)] : List SV), capSV x_) ∧ (g0r21_13 = trimC (foldJ ([(⟨c65_l, c65_l_A, c65_l_c⟩ : SV), (⟨g23, Ao25, co26⟩ : SV)] : List SV))) ∧ (Res.src (roR Aor21_13 1 enU8 g0r21_13) [nestR innerSV (NV C G T)] w) ∧ (Res.src (nestR innerSV ([(⟨g23, Ao25, co26⟩ : SV)] : List SV)) [nestR innerSV (NV C G T)] w) ∧ (Res.src (nestR innerSV ([(⟨c65_l, c65_l_A, c65_l_c⟩ : SV), (⟨g23, Ao25, co26⟩ : SV)] : List SV)) [nestR innerSV (NV C G T)] w) ∧ (Res.src (roR (some ⟨br21_12, 0, none⟩) 1 enSV ([(⟨c65_l, c65_l_A, c65_l_c⟩ : SV), (⟨g23, Ao25, co26⟩ : SV)] : List SV)) [nestR innerSV (NV C G T)] w) ∧ Fm 131 [] [(0, Value.pointer (some ⟨m, 0, none⟩)), (3, Value.pointer (some ⟨b1, 0, none⟩)), (5, Value.slice Ao25 (g23).length co26), (8, Value.pointer (some ⟨b62, 0, none⟩)), (31, Value.slice Ao10 (fromL (x.kind)).length co11), (32, Value.int .i64 (((fromL (x.kind)).length : Nat) : Int)), (33, Value.int .i64 ((k : Nat) : Int)), (34, Value.bool (decide ((((k : Nat) : Int) : Int) < ((((fromL (x.kind)).length : Nat) : Int) : Int)))), (50, Value.tuple #[Value.slice Ao25 (g23).length co26, Value.int .i64 g24]), (51, Value.slice cA cl.length cc), (52, Value.pointer (some ⟨b1, 0, none⟩)), (53, Value.int .i64 x.g), (54, Value.tuple #[Value.slice Ao25 (g23).length co26, Value.int .i64 g24]), (55, Value.slice Ao25 (g23).length co26), (88, Value.bool ((x.kind : Int) == (4 : Int))), (89, Value.pointer (some ⟨b1, 1, none⟩)), (90, Value.int .i64 x.kind), (91, Value.bool ((x.kind : Int) == (4 : Int))), (108, Value.bool (evRel x)), (109, Value.agg #[Value.int .i64 x.g, Value.int .i64 x.kind, Value.int .i64 x.site.f, Value.int .i64 x.site.pc, Value.int .u32 x.addr, Value.int .i64 x.child, Value.int .i64 x.obj, Value.int .i64 x.n, Value.int .i64 x.trap]), (110, Value.bool (evRel x)), (111, Value.pointer (some ⟨b1, 1, none⟩)), (112, Value.int .i64 x.kind), (113, Value.pointer (some ⟨b1, 6, none⟩)), (114, Value.int .i64 x.obj), (115, Value.agg #[Value.int .i64 x.kind, Value.int .i64 x.obj])] ac_ ∧ Ws w (· ∈ (OrdR m Ae ce E Ak ck C bg G bt T).fp) [Cel b62 #[Value.int .i64 x.kind, Value.int .i64 x.obj] 91, Cel br15_16 #[Value.slice Ao25 (g23).length co26] 54, Cel br15_8 #[Value.int .i64 x.g, Value.int .i64 x.kind, Value.int .i64 x.site.f, Value.int .i64 x.site.pc, Value.int .u32 x.addr, Value.int .i64 x.child, Value.int .i64 x.obj, Value.int .i64 x.n, Value.int .i64 x.trap] 50, Cel b1 #[Value.int .i64 x.g, Value.int .i64 x.kind, Value.int .i64 x.site.f, Value.int .i64 x.site.pc, Value.int .u32 x.addr, Value.int .i64 x.child, Value.int .i64 x.obj, Value.int .i64 x.n, Value.int .i64 x.trap] 50, Cel m #[Value.slice Ar15_9 (E ++ ([x] : List Event)).length cr15_9, Value.slice Ar15_17 (C ++ ([(⟨g23, Ao25, co26⟩ : SV)] : List SV)).length cr15_17, Value.map (some bg), Value.map (some bt)] 75, rowR 50 9 enEvent (Value.slice Ar15_9 (E ++ ([x] : List Event)).length cr15_9) (E ++ ([x] : List Event)), rowR 54 1 enSV (Value.slice Ar15_17 (C ++ ([(⟨g23, Ao25, co26⟩ : SV)] : List SV)).length cr15_17) (C ++ ([(⟨g23, Ao25, co26⟩ : SV)] : List SV)), mapR bg (fun a : Int => Value.int .i64 a) SV.v (put G (x.g : Int) (⟨g23, Ao25, co26⟩ : SV)), mapR bt Thing.v SV.v (put T (⟨x.kind, x.obj⟩ : Thing) (⟨g0r21_13, Aor21_13, cor21_13⟩ : SV))] [roR Aor21_13 1 enU8 g0r21_13, nestR innerSV ([(⟨c65_l, c65_l_A, c65_l_c⟩ : SV), (⟨g23, Ao25, co26⟩ : SV)] : List SV), nestR innerSV ([(⟨g23, Ao25, co26⟩ : SV)] : List SV), roR (some ⟨br21_12, 0, none⟩) 1 enSV ([(⟨c65_l, c65_l_A, c65_l_c⟩ : SV), (⟨g23, Ao25, co26⟩ : SV)] : List SV), Cel br21_12 #[Value.slice c65_l_A c65_l.length c65_l_c, Value.slice Ao25 (g23).length co26] 54, roR c65_l_A 1 enU8 c65_l, nestR innerSV (C ++ ([(⟨g23, Ao25, co26⟩ : SV)] : List SV)), nestR innerSV ([(⟨g23, Ao25, co26⟩ : SV)] : List SV), nestR innerSV ([] : List SV), nestR innerSV C, roR Ao25 1 enU8 g23, roR cA 1 enU8 cl, roR Ao10 1 enKd (fromL (x.kind)), nestR innerSV (NV C G T)] wl_) ?_ ?_
       · refine sr_region (m := 15) (C := Ws w (· ∈ (OrdR m Ae ce E Ak ck C bg G bt T).fp) [Cel b62 #[Value.int .i64 x.kind, Value.int .i64 x.obj] 91, Cel br15_16 #[Value.slice Ao25 (g23).length co26] 54, Cel br15_8 #[Value.int .i64 x.g, Value.int .i64 x.kind, Value.int .i64 x.site.f, Value.int .i64 x.site.pc, Value.int .u32 x.addr, Value.int .i64 x.child, Value.int .i64 x.obj, Value.int .i64 x.n, Value.int .i64 x.trap] 50, Cel b1 #[Value.int .i64 x.g, Value.int .i64 x.kind, Value.int .i64 x.site.f, Value.int .i64 x.site.pc, Value.int .u32 x.addr, Value.int .i64 x.child, Value.int .i64 x.obj, Value.int .i64 x.n, Value.int .i64 x.trap] 50, Cel m #[Value.slice Ar15_9 (E ++ ([x] : List Event)).length cr15_9, Value.slice Ar15_17 (C ++ ([(⟨g23, Ao25, co26⟩ : SV)] : List SV)).length cr15_17, Value.map (some bg), Value.map (some bt)] 75, rowR 50 9 enEvent (Value.slice Ar15_9 (E ++ ([x] : List Event)).length cr15_9) (E ++ ([x] : List Event)), rowR 54 1 enSV (Value.slice Ar15_17 (C ++ ([(⟨g23, Ao25, co26⟩ : SV)] : List SV)).length cr15_17) (C ++ ([(⟨g23, Ao25, co26⟩ : SV)] : List SV)), mapR bg (fun a : Int => Value.int .i64 a) SV.v (put G (x.g : Int) (⟨g23, Ao25, co26⟩ : SV)), mapR bt Thing.v SV.v T] [roR c65_l_A 1 enU8 c65_l, nestR innerSV (C ++ ([(⟨g23, Ao25, co26⟩ : SV)] : List SV)), nestR innerSV ([(⟨g23, Ao25, co26⟩ : SV)] : List SV), nestR innerSV ([] : List SV), nestR innerSV C, roR Ao25 1 enU8 g23, roR cA 1 enU8 cl, roR Ao10 1 enKd (fromL (x.kind)), nestR innerSV (NV C G T)]) (fun i => [3, 4, 8, 9, 10].contains i) (fun i => [3, 4, 8, 9, 10, 12, 13].contains i) (fun i => [0, 1, 2, 5, 6, 7, 11].contains i) (by kernel_rfl) (by kernel_rfl) (by kernel_rfl) (by kernel_rfl) hW ?_; clear hW; intro w66 hW hfw66 hR; have hC : Ws w (· ∈ (OrdR m Ae ce E Ak ck C bg G bt T).fp) [Cel b62 #[Value.int .i64 x.kind, Value.int .i64 x.obj] 91, Cel br15_16 #[Value.slice Ao25 (g23).length co26] 54, Cel br15_8 #[Value.int .i64 x.g, Value.int .i64 x.kind, Value.int .i64 x.site.f, Value.int .i64 x.site.pc, Value.int .u32 x.addr, Value.int .i64 x.child, Value.int .i64 x.obj, Value.int .i64 x.n, Value.int .i64 x.trap] 50, Cel b1 #[Value.int .i64 x.g, Value.int .i64 x.kind, Value.int .i64 x.site.f, Value.int .i64 x.site.pc, Value.int .u32 x.addr, Value.int .i64 x.child, Value.int .i64 x.obj, Value.int .i64 x.n, Value.int .i64 x.trap] 50, Cel m #[Value.slice Ar15_9 (E ++ ([x] : List Event)).length cr15_9, Value.slice Ar15_17 (C ++ ([(⟨g23, Ao25, co26⟩ : SV)] : List SV)).length cr15_17, Value.map (some bg), Value.map (some bt)] 75, rowR 50 9 enEvent (Value.slice Ar15_9 (E ++ ([x] : List Event)).length cr15_9) (E ++ ([x] : List Event)), rowR 54 1 enSV (Value.slice Ar15_17 (C ++ ([(⟨g23, Ao25, co26⟩ : SV)] : List SV)).length cr15_17) (C ++ ([(⟨g23, Ao25, co26⟩ : SV)] : List SV)), mapR bg (fun a : Int => Value.int .i64 a) SV.v (put G (x.g : Int) (⟨g23, Ao25, co26⟩ : SV)), mapR bt Thing.v SV.v T] [roR c65_l_A 1 enU8 c65_l, nestR innerSV (C ++ ([(⟨g23, Ao25, co26⟩ : SV)] : List SV)), nestR innerSV ([(⟨g23, Ao25, co26⟩ : SV)] : List SV), nestR innerSV ([] : List SV), nestR innerSV C, roR Ao25 1 enU8 g23, roR cA 1 enU8 cl, roR Ao10 1 enKd (fromL (x.kind)), nestR innerSV (NV C G T)] w66 := hW.pick [0, 1, 2, 3, 4, 5, 6, 7, 8] (by decide) rfl
         refine sr_p 0 (Value.pointer (some ⟨m, 0, none⟩)) hR rfl hA fun ac hA => sr_p 1 (Value.pointer (some ⟨m, 0, none⟩)) hR rfl hA fun ac hA => sr_p 2 (Value.pointer (some ⟨m, 3, none⟩)) hR rfl hA fun ac hA => sr_t 3 (Value.map (some bt)) hR rfl hA hC (Rd.load (b := m) (i := 3) (by kernel_rfl) (fun _ hw => (hw).cel 4 rfl) (by kernel_rfl)) fun ac hA => sr_t 4 (Value.agg #[Value.int .i64 x.kind, Value.int .i64 x.obj]) hR rfl hA hC (Rd.load (b := b62) (i := 0) (by kernel_rfl) (fun _ hw => (hw).cel 0 rfl) (by kernel_rfl)) fun ac hA => sr_p 5 (Value.pointer (some ⟨m, 0, none⟩)) hR rfl hA fun ac hA => sr_p 6 (Value.pointer (some ⟨m, 0, none⟩)) hR rfl hA fun ac hA => sr_p 7 (Value.pointer (some ⟨m, 3, none⟩)) hR rfl hA fun ac hA => sr_t 8 (Value.map (some bt)) hR rfl hA hC (Rd.load (b := m) (i := 3) (by kernel_rfl) (fun _ hw => (hw).cel 4 rfl) (by kernel_rfl)) fun ac hA => sr_t 9 (Value.agg #[Value.int .i64 x.kind, Value.int .i64 x.obj]) hR rfl hA hC (Rd.load (b := b62) (i := 0) (by kernel_rfl) (fun _ hw => (hw).cel 0 rfl) (by kernel_rfl)) fun ac hA => sr_t 10 (Value.slice c65_l_A c65_l.length c65_l_c) hR rfl hA hC ((Rd.lookup (k := 91) (e := 54) (ek := Thing.v) (ev := SV.v) (m := T) (z := Value.slice none 0 0) (⟨x.kind, x.obj⟩ : Thing) false (by kernel_rfl) (by kernel_rfl) thingKey (by kernel_rfl) (fun _ => by kernel_rfl) (fun _ hw => (hw).get 8 rfl)).cast (by have q_ := congrArg SV.v hqc65; revert q_; generalize look T (⟨x.kind, x.obj⟩ : Thing) = o_; intro q_; cases o_ <;> exact q_)) fun ac hA => sr_p 11 (Value.slice Ao25 (g23).length co26) hR rfl hA fun ac hA => ?_
         have hzbr21_12 := hW.fr.size
         refine sr_one (i := 12) (by kernel_rfl) (sr_d rfl hA (Runs.cells (fun b => Value.slice (some ⟨b, 0, none⟩) 2 2) #[Value.slice c65_l_A c65_l.length c65_l_c, Value.slice Ao25 (g23).length co26] 54 (fun _ => by kernel_rfl) hW ?_)); clear hA ac hW; intro br21_12 w67 hW hbr21_12 hfw67 ac hA
         refine ⟨⟨fun _ => (hW.pick [1, 2, 3, 4, 5, 6, 7, 8, 9] (by decide) rfl).pickG [0, 1, 2, 3, 4, 5, 6, 7, 8] rfl, fun h => absurd h (by decide)⟩, ?_⟩; have hC : Ws w (· ∈ (OrdR m Ae ce E Ak ck C bg G bt T).fp) [Cel b62 #[Value.int .i64 x.kind, Value.int .i64 x.obj] 91, Cel br15_16 #[Value.slice Ao25 (g23).length co26] 54, Cel br15_8 #[Value.int .i64 x.g, Value.int .i64 x.kind, Value.int .i64 x.site.f, Value.int .i64 x.site.pc, Value.int .u32 x.addr, Value.int .i64 x.child, Value.int .i64 x.obj, Value.int .i64 x.n, Value.int .i64 x.trap] 50, Cel b1 #[Value.int .i64 x.g, Value.int .i64 x.kind, Value.int .i64 x.site.f, Value.int .i64 x.site.pc, Value.int .u32 x.addr, Value.int .i64 x.child, Value.int .i64 x.obj, Value.int .i64 x.n, Value.int .i64 x.trap] 50, Cel m #[Value.slice Ar15_9 (E ++ ([x] : List Event)).length cr15_9, Value.slice Ar15_17 (C ++ ([(⟨g23, Ao25, co26⟩ : SV)] : List SV)).length cr15_17, Value.map (some bg), Value.map (some bt)] 75, rowR 50 9 enEvent (Value.slice Ar15_9 (E ++ ([x] : List Event)).length cr15_9) (E ++ ([x] : List Event)), rowR 54 1 enSV (Value.slice Ar15_17 (C ++ ([(⟨g23, Ao25, co26⟩ : SV)] : List SV)).length cr15_17) (C ++ ([(⟨g23, Ao25, co26⟩ : SV)] : List SV)), mapR bg (fun a : Int => Value.int .i64 a) SV.v (put G (x.g : Int) (⟨g23, Ao25, co26⟩ : SV)), mapR bt Thing.v SV.v T] [roR c65_l_A 1 enU8 c65_l, nestR innerSV (C ++ ([(⟨g23, Ao25, co26⟩ : SV)] : List SV)), nestR innerSV ([(⟨g23, Ao25, co26⟩ : SV)] : List SV), nestR innerSV ([] : List SV), nestR innerSV C, roR Ao25 1 enU8 g23, roR cA 1 enU8 cl, roR Ao10 1 enKd (fromL (x.kind)), nestR innerSV (NV C G T)] w67 := (hW.pick [1, 2, 3, 4, 5, 6, 7, 8, 9] (by decide) rfl).pickG [0, 1, 2, 3, 4, 5, 6, 7, 8] rfl
         have hsro_br21_12 : Res.src (roR (some ⟨br21_12, 0, none⟩) 1 enSV ([(⟨c65_l, c65_l_A, c65_l_c⟩ : SV), (⟨g23, Ao25, co26⟩ : SV)] : List SV)) [nestR innerSV (NV C G T)] w := fun b_ hb_ => .inr (by have q_ := cel_fp (T := 54) (cs := #[Value.slice c65_l_A c65_l.length c65_l_c, Value.slice Ao25 (g23).length co26]) b_ hb_; simp only [Cel, List.mem_singleton] at q_; omega)
         have hW := hW.share 0 rfl (H' := [Cel b62 #[Value.int .i64 x.kind, Value.int .i64 x.obj] 91, Cel br15_16 #[Value.slice Ao25 (g23).length co26] 54, Cel br15_8 #[Value.int .i64 x.g, Value.int .i64 x.kind, Value.int .i64 x.site.f, Value.int .i64 x.site.pc, Value.int .u32 x.addr, Value.int .i64 x.child, Value.int .i64 x.obj, Value.int .i64 x.n, Value.int .i64 x.trap] 50, Cel b1 #[Value.int .i64 x.g, Value.int .i64 x.kind, Value.int .i64 x.site.f, Value.int .i64 x.site.pc, Value.int .u32 x.addr, Value.int .i64 x.child, Value.int .i64 x.obj, Value.int .i64 x.n, Value.int .i64 x.trap] 50, Cel m #[Value.slice Ar15_9 (E ++ ([x] : List Event)).length cr15_9, Value.slice Ar15_17 (C ++ ([(⟨g23, Ao25, co26⟩ : SV)] : List SV)).length cr15_17, Value.map (some bg), Value.map (some bt)] 75, rowR 50 9 enEvent (Value.slice Ar15_9 (E ++ ([x] : List Event)).length cr15_9) (E ++ ([x] : List Event)), rowR 54 1 enSV (Value.slice Ar15_17 (C ++ ([(⟨g23, Ao25, co26⟩ : SV)] : List SV)).length cr15_17) (C ++ ([(⟨g23, Ao25, co26⟩ : SV)] : List SV)), mapR bg (fun a : Int => Value.int .i64 a) SV.v (put G (x.g : Int) (⟨g23, Ao25, co26⟩ : SV)), mapR bt Thing.v SV.v T]) rfl
         have hW := hW.nestG (roR (some ⟨br21_12, 0, none⟩) 1 enSV ([(⟨c65_l, c65_l_A, c65_l_c⟩ : SV), (⟨g23, Ao25, co26⟩ : SV)] : List SV)) (rowAt_cel (show _ = _ from hW.getG 0 rfl) ([(⟨c65_l, c65_l_A, c65_l_c⟩ : SV), (⟨g23, Ao25, co26⟩ : SV)] : List SV) (by rfl) elt_SV.len) (fun _ hb_ => ⟨_, List.mem_of_getElem? (i := 0) rfl, cel_fp _ hb_⟩)
         have hW := Ws.nestCons (inner := innerSV) hW 5 rfl (⟨g23, Ao25, co26⟩ : SV) (hW.getG 7 rfl) (fun _ hb_ => ⟨_, List.mem_of_getElem? (i := 7) rfl, hb_⟩)
         have hknq21_13 : ∀ x_ ∈ ([(⟨g23, Ao25, co26⟩ : SV)] : List SV), capSV x_ := all_cons (show g23.length ≤ co26 from (by first | assumption | omega | (simp; omega) | simp)) hknq15_17
         have hsnq21_13 : Res.src (nestR innerSV ([(⟨g23, Ao25, co26⟩ : SV)] : List SV)) [nestR innerSV (NV C G T)] w := nsrc_cons hsco26 hsnq15_17
         have hW := Ws.nestCons (inner := innerSV) hW 0 rfl (⟨c65_l, c65_l_A, c65_l_c⟩ : SV) (hW.getG 3 rfl) (fun _ hb_ => ⟨_, List.mem_of_getElem? (i := 3) rfl, hb_⟩)
         have hknq21_13x1 : ∀ x_ ∈ ([(⟨c65_l, c65_l_A, c65_l_c⟩ : SV), (⟨g23, Ao25, co26⟩ : SV)] : List SV), capSV x_ := all_cons (show c65_l.length ≤ c65_l_c from (by first | assumption | omega | (simp; omega) | simp)) hknq21_13
         have hsnq21_13x1 : Res.src (nestR innerSV ([(⟨c65_l, c65_l_A, c65_l_c⟩ : SV), (⟨g23, Ao25, co26⟩ : SV)] : List SV)) [nestR innerSV (NV C G T)] w := nsrc_cons hsc65_l hsnq21_13
         refine sr_one (i := 13) (by kernel_rfl) (sr_d rfl hA (Runs.call (fun _ => by kernel_rfl) (e_vjoin (some ⟨br21_12, 0, none⟩) 2 ([(⟨c65_l, c65_l_A, c65_l_c⟩ : SV), (⟨g23, Ao25, co26⟩ : SV)] : List SV) w67 ((hW).getG 2 rfl) (by first | assumption | omega | (simp; omega) | simp) ((hW).getG 0 rfl) hknq21_13x1 (show (2 : Nat) ≤ 1000 from by decide) (jn_hx (by assumption) (by assumption)) (jn_hf (by assumption) (by assumption))) ?_))
         rintro _ w68 ⟨g0r21_13, Aor21_13, cor21_13, rfl, hr21_13_hO, hccor21_13, hfcor21_13, hfw68⟩; refine ⟨_, rfl, ?_⟩; have hW0 := hW; have hW := hW0.call hfw68
         have hW := hW0.addFromAt hW hfcor21_13 (in_cons (in_at 2 rfl) (in_cons (in_at 0 rfl) in_nil))
         have hscor21_13 : Res.src (roR Aor21_13 1 enU8 g0r21_13) [nestR innerSV (NV C G T)] w := src_call hfcor21_13 (srcs_cons hsro_br21_12 (srcs_cons hsnq21_13x1 srcs_nil)) hW0.fr.size
         clear hW0 hA ac; intro ac hA
         refine ⟨⟨fun _ => (hW.pick [0, 1, 2, 3, 4, 5, 6, 7, 8] (by decide) rfl).pickG [5, 6, 7, 8, 9, 10, 11, 12, 13] rfl, fun h => absurd h (by decide)⟩, ?_⟩; have hC : Ws w (· ∈ (OrdR m Ae ce E Ak ck C bg G bt T).fp) [Cel b62 #[Value.int .i64 x.kind, Value.int .i64 x.obj] 91, Cel br15_16 #[Value.slice Ao25 (g23).length co26] 54, Cel br15_8 #[Value.int .i64 x.g, Value.int .i64 x.kind, Value.int .i64 x.site.f, Value.int .i64 x.site.pc, Value.int .u32 x.addr, Value.int .i64 x.child, Value.int .i64 x.obj, Value.int .i64 x.n, Value.int .i64 x.trap] 50, Cel b1 #[Value.int .i64 x.g, Value.int .i64 x.kind, Value.int .i64 x.site.f, Value.int .i64 x.site.pc, Value.int .u32 x.addr, Value.int .i64 x.child, Value.int .i64 x.obj, Value.int .i64 x.n, Value.int .i64 x.trap] 50, Cel m #[Value.slice Ar15_9 (E ++ ([x] : List Event)).length cr15_9, Value.slice Ar15_17 (C ++ ([(⟨g23, Ao25, co26⟩ : SV)] : List SV)).length cr15_17, Value.map (some bg), Value.map (some bt)] 75, rowR 50 9 enEvent (Value.slice Ar15_9 (E ++ ([x] : List Event)).length cr15_9) (E ++ ([x] : List Event)), rowR 54 1 enSV (Value.slice Ar15_17 (C ++ ([(⟨g23, Ao25, co26⟩ : SV)] : List SV)).length cr15_17) (C ++ ([(⟨g23, Ao25, co26⟩ : SV)] : List SV)), mapR bg (fun a : Int => Value.int .i64 a) SV.v (put G (x.g : Int) (⟨g23, Ao25, co26⟩ : SV)), mapR bt Thing.v SV.v T] [roR c65_l_A 1 enU8 c65_l, nestR innerSV (C ++ ([(⟨g23, Ao25, co26⟩ : SV)] : List SV)), nestR innerSV ([(⟨g23, Ao25, co26⟩ : SV)] : List SV), nestR innerSV ([] : List SV), nestR innerSV C, roR Ao25 1 enU8 g23, roR cA 1 enU8 cl, roR Ao10 1 enKd (fromL (x.kind)), nestR innerSV (NV C G T)] w68 := (hW.pick [0, 1, 2, 3, 4, 5, 6, 7, 8] (by decide) rfl).pickG [5, 6, 7, 8, 9, 10, 11, 12, 13] rfl
         refine sr_one (i := 14) (by kernel_rfl) (sr_d rfl hA (Runs.mapUpdate (k := 91) (e := 54) (ek := Thing.v) (ev := SV.v) (m := T) (⟨x.kind, x.obj⟩ : Thing) (⟨g0r21_13, Aor21_13, cor21_13⟩ : SV) (by kernel_rfl) (by kernel_rfl) (by kernel_rfl) thingKey (by kernel_rfl) hW (i := 8) rfl ?_)); clear hA ac hW; intro w69 hW ac hA
         refine qn ?_
         refine sr_done (by kernel_rfl) ?_ _
         exact ⟨Aor21_13, br21_12, cor21_13, g0r21_13, hccor21_13, hknq21_13, hknq21_13x1, hr21_13_hO, hscor21_13, hsnq21_13, hsnq21_13x1, hsro_br21_12, hA.sub (by and_intros <;> first | kernel_rfl | trivial), (hW.pick [0, 1, 2, 3, 4, 5, 6, 7, 8] (by decide) rfl).pickG [0, 1, 2, 3, 4, 5, 6, 7, 8, 9, 10, 11, 12, 13] rfl⟩
       clear hA ac hW; rintro ac w70 ⟨Aor21_13, br21_12, cor21_13, g0r21_13, hccor21_13, hknq21_13, hknq21_13x1, hr21_13_hO, hscor21_13, hsnq21_13, hsnq21_13x1, hsro_br21_12, hA, hW⟩
       refine blkN ?_
       refine thenN ?_
       refine wp_seq ?_
       refine wp_seq ?_
       refine wp_region_lit ?_
       refine st_p (Value.int .i64 0) hA ?_; clear hA ac; intro ac hA
       refine wpList_nil ?_
       refine thenN ?_
       refine wp_ret ?_
       refine thenR ?_
       refine fwdR ?_
       refine ret1 (v := Value.int .i64 0) (by rfl) hA (Got.tmp hA (by kernel_rfl) (by kernel_rfl)) ?_
       clear hA
       have hW := Ws.nestCons (inner := innerSV) hW 13 rfl (⟨g23, Ao25, co26⟩ : SV) (hW.getG 10 rfl) (fun _ hb_ => ⟨_, List.mem_of_getElem? (i := 10) rfl, hb_⟩)
       have hknq71 : ∀ x_ ∈ ((⟨g23, Ao25, co26⟩ : SV) :: NV C G T), capSV x_ := all_cons (show g23.length ≤ co26 from (by first | assumption | omega | (simp; omega) | simp)) hok.cap
       have hsnq71 : Res.src (nestR innerSV ((⟨g23, Ao25, co26⟩ : SV) :: NV C G T)) [nestR innerSV (NV C G T)] w := nsrc_cons hsco26 (src_arg (.head _))
       have hW := Ws.nestCons (inner := innerSV) hW 0 rfl (⟨g0r21_13, Aor21_13, cor21_13⟩ : SV) (hW.getG 1 rfl) (fun _ hb_ => ⟨_, List.mem_of_getElem? (i := 1) rfl, hb_⟩)
       have hknq72 : ∀ x_ ∈ ((⟨g0r21_13, Aor21_13, cor21_13⟩ : SV) :: (⟨g23, Ao25, co26⟩ : SV) :: NV C G T), capSV x_ := all_cons (show g0r21_13.length ≤ cor21_13 from (by first | assumption | omega | (simp; omega) | simp)) hknq71
       have hsnq72 : Res.src (nestR innerSV ((⟨g0r21_13, Aor21_13, cor21_13⟩ : SV) :: (⟨g23, Ao25, co26⟩ : SV) :: NV C G T)) [nestR innerSV (NV C G T)] w := nsrc_cons hscor21_13 hsnq71
       have hv_ : g0r21_13 = join2 c65_l g23 := hr21_13_hO
       have hv2_ : g0r21_13 = join2 ((stOf E).t x.kind x.obj) (tick1 (accS (stOf E) x) x.g) := by rw [hv_, hec65, hu_]
       have hvb_ : Bd ((E.length : Int) + 1) g0r21_13 := by rw [hv_]; exact join2_bd (hbc65.mono (by omega)) hub_
       have hW := Ws.nestSub (inner := innerSV) (m := NV (C ++ [(⟨g23, Ao25, co26⟩ : SV)]) (put G (x.g : Int) (⟨g23, Ao25, co26⟩ : SV)) (put T (⟨x.kind, x.obj⟩ : Thing) (⟨g0r21_13, Aor21_13, cor21_13⟩ : SV))) hW 0 rfl nvs3
       have hknq73 : ∀ x_ ∈ (NV (C ++ [(⟨g23, Ao25, co26⟩ : SV)]) (put G (x.g : Int) (⟨g23, Ao25, co26⟩ : SV)) (put T (⟨x.kind, x.obj⟩ : Thing) (⟨g0r21_13, Aor21_13, cor21_13⟩ : SV))), capSV x_ := all_sub hknq72 nvs3
       have hsnq73 : Res.src (nestR innerSV (NV (C ++ [(⟨g23, Ao25, co26⟩ : SV)]) (put G (x.g : Int) (⟨g23, Ao25, co26⟩ : SV)) (put T (⟨x.kind, x.obj⟩ : Thing) (⟨g0r21_13, Aor21_13, cor21_13⟩ : SV)))) [nestR innerSV (NV C G T)] w := nsrc_sub hsnq72 nvs3
       have hW := Ws.back hW 0 rfl hsnq73 (fun b_ hb_ => mem_allR.2 ⟨_, List.mem_of_getElem? (i := 5) rfl, hb_⟩)
       exact ⟨0, E ++ ([x] : List Event), Ar15_9, cr15_9, C ++ ([(⟨g23, Ao25, co26⟩ : SV)] : List SV), Ar15_17, cr15_17, put G (x.g : Int) (⟨g23, Ao25, co26⟩ : SV), put T (⟨x.kind, x.obj⟩ : Thing) (⟨g0r21_13, Aor21_13, cor21_13⟩ : SV), rfl, by exact addE_yes (by omega) hxo_, by exact hok.snoc (by omega) hxo_ hu_ (add_g1 hok hu_ (by omega)) (add_t1 hok ⟨by omega, by first | exact h61 | exact of_decide_eq_true h61⟩ hv2_) nvs3 hknq72 (bd_cons hvb_ (bd_cons hub_ hok.bdN)), (Ws.pack (K := []) (show Ws w (· ∈ (OrdR m Ae ce E Ak ck C bg G bt T).fp) ([Cel m #[Value.slice Ar15_9 (E ++ ([x] : List Event)).length cr15_9, Value.slice Ar15_17 (C ++ ([(⟨g23, Ao25, co26⟩ : SV)] : List SV)).length cr15_17, Value.map (some bg), Value.map (some bt)] 75, rowR 50 9 enEvent (Value.slice Ar15_9 (E ++ ([x] : List Event)).length cr15_9) (E ++ ([x] : List Event)), rowR 54 1 enSV (Value.slice Ar15_17 (C ++ ([(⟨g23, Ao25, co26⟩ : SV)] : List SV)).length cr15_17) (C ++ ([(⟨g23, Ao25, co26⟩ : SV)] : List SV)), mapR bg (fun a : Int => Value.int .i64 a) SV.v (put G (x.g : Int) (⟨g23, Ao25, co26⟩ : SV)), mapR bt Thing.v SV.v (put T (⟨x.kind, x.obj⟩ : Thing) (⟨g0r21_13, Aor21_13, cor21_13⟩ : SV)), nestR innerSV (NV (C ++ [(⟨g23, Ao25, co26⟩ : SV)]) (put G (x.g : Int) (⟨g23, Ao25, co26⟩ : SV)) (put T (⟨x.kind, x.obj⟩ : Thing) (⟨g0r21_13, Aor21_13, cor21_13⟩ : SV)))] ++ []) [] _ from hW.pick [5, 6, 7, 8, 9, 0] (by decide) rfl)).updDone 0 rfl⟩)
     first
     | (exfalso; clear hA hW; omega)
     | (
      refine wp_skip ?_
      refine blkN ?_
      refine thenN ?_
      refine wp_seq ?_
      refine wp_seq ?_
      refine wp_region_lit ?_
      refine st_p (Value.int .i64 0) hA ?_; clear hA ac; intro ac hA
      refine wpList_nil ?_
      refine thenN ?_
      refine wp_ret ?_
      refine thenR ?_
      refine fwdR ?_
      refine ret1 (v := Value.int .i64 0) (by rfl) hA (Got.tmp hA (by kernel_rfl) (by kernel_rfl)) ?_
      clear hA
      have hW := Ws.nestCons (inner := innerSV) hW 7 rfl (⟨g23, Ao25, co26⟩ : SV) (hW.getG 4 rfl) (fun _ hb_ => ⟨_, List.mem_of_getElem? (i := 4) rfl, hb_⟩)
      have hknq74 : ∀ x_ ∈ ((⟨g23, Ao25, co26⟩ : SV) :: NV C G T), capSV x_ := all_cons (show g23.length ≤ co26 from (by first | assumption | omega | (simp; omega) | simp)) hok.cap
      have hsnq74 : Res.src (nestR innerSV ((⟨g23, Ao25, co26⟩ : SV) :: NV C G T)) [nestR innerSV (NV C G T)] w := nsrc_cons hsco26 (src_arg (.head _))
      have hW := Ws.nestSub (inner := innerSV) (m := NV (C ++ [(⟨g23, Ao25, co26⟩ : SV)]) (put G (x.g : Int) (⟨g23, Ao25, co26⟩ : SV)) T) hW 0 rfl nvs1
      have hknq75 : ∀ x_ ∈ (NV (C ++ [(⟨g23, Ao25, co26⟩ : SV)]) (put G (x.g : Int) (⟨g23, Ao25, co26⟩ : SV)) T), capSV x_ := all_sub hknq74 nvs1
      have hsnq75 : Res.src (nestR innerSV (NV (C ++ [(⟨g23, Ao25, co26⟩ : SV)]) (put G (x.g : Int) (⟨g23, Ao25, co26⟩ : SV)) T)) [nestR innerSV (NV C G T)] w := nsrc_sub hsnq74 nvs1
      have hW := Ws.back hW 0 rfl hsnq75 (fun b_ hb_ => mem_allR.2 ⟨_, List.mem_of_getElem? (i := 5) rfl, hb_⟩)
      exact ⟨0, E ++ ([x] : List Event), Ar15_9, cr15_9, C ++ ([(⟨g23, Ao25, co26⟩ : SV)] : List SV), Ar15_17, cr15_17, put G (x.g : Int) (⟨g23, Ao25, co26⟩ : SV), T, rfl, by exact addE_yes (by omega) hxo_, by exact hok.snoc (by omega) hxo_ hu_ (add_g1 hok hu_ (by omega)) (add_t0 hok (fun h_ => of_decide_eq_false h61 h_.2)) nvs1 hknq74 (bd_cons hub_ hok.bdN), (Ws.pack (K := []) (show Ws w (· ∈ (OrdR m Ae ce E Ak ck C bg G bt T).fp) ([Cel m #[Value.slice Ar15_9 (E ++ ([x] : List Event)).length cr15_9, Value.slice Ar15_17 (C ++ ([(⟨g23, Ao25, co26⟩ : SV)] : List SV)).length cr15_17, Value.map (some bg), Value.map (some bt)] 75, rowR 50 9 enEvent (Value.slice Ar15_9 (E ++ ([x] : List Event)).length cr15_9) (E ++ ([x] : List Event)), rowR 54 1 enSV (Value.slice Ar15_17 (C ++ ([(⟨g23, Ao25, co26⟩ : SV)] : List SV)).length cr15_17) (C ++ ([(⟨g23, Ao25, co26⟩ : SV)] : List SV)), mapR bg (fun a : Int => Value.int .i64 a) SV.v (put G (x.g : Int) (⟨g23, Ao25, co26⟩ : SV)), mapR bt Thing.v SV.v T, nestR innerSV (NV (C ++ [(⟨g23, Ao25, co26⟩ : SV)]) (put G (x.g : Int) (⟨g23, Ao25, co26⟩ : SV)) T)] ++ []) [] _ from hW.pick [4, 5, 6, 7, 8, 0] (by decide) rfl)).updDone 0 rfl⟩)))))

end Go.Proofs.YtefmglgejjaipaaGreatDoor.L
