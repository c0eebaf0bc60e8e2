/- The engine: the range over a function, outermost and within a round; yields; a function's end behind ranges. -/
import Derived.Test.YtoakhhilmnfpkaaGreatDoorE8
import Derived.RangeFuncBound
import Derived.Shelf.Abstract
namespace Go.Proofs.YtoakhhilmnfpkaaGreatDoor.L
open Go.RowKit Go.MapKept Go.Maps

/-- The mark that an outermost range leaves. -/
abbrev mk_ (D : Nat) : Deferred := { target := .collected D, args := #[] }

section
variable {P : Program} {Q : Exit → Act → World → Prop} {n : Nat} {ds : List Deferred} {L : List (Nat × Value)} {a : Act} {w w0 : World} {S : Nat → Prop} {H G K : List Res} {α : Type}
theorem resolve_yield {g : Operand} {gf : Nat} {lb : Array Value} {l : Nat} (hg : a.eval g = .func (.func gf) #[] lb) (w : World) : (resolve a.eval (rangeCall g l) 0).run P w = .ok { target := .fn (.func gf) lb, args := #[.func (.yield l) #[] #[]] } w := by
  simp only [resolve, hg]
  simp [go_sem]
theorem wp_range {g : Operand} {ps : Array Tmp} {assign body : Code} {gf : Nat} {lb : Array Value} (hA : Fm n ds L a) (hk : knO L g = true) (hg : ev L g = .func (.func gf) #[] lb) (eg : ∀ args w, (callFunc gf args).run P w = .ok (.enter gf args) w)
    (hps : ps.toList.all (Nat.blt · n) = true) {encs : α → Array Value} (hsz : ∀ x, (encs x).size = ps.size) {Sx : List α → Prop} {Os : List Res} (hI : Iter P gf lb encs Sx Os) (hOs : ∀ o ∈ Os, o ∈ G)
    (J : List α → List Res → Prop) (Jx : Code → List α → List Res → Prop) (hW : Ws w0 S (H ++ K) G w) (h0 : J [] H) (hround : RoundOk P n L ps encs assign body (Comes Sx) J Jx G w0 S)
    (hdone : ∀ D xs Hk w' a', Sx xs → J xs Hk → Fm n (mk_ D :: ds) L a' → Ws w0 S (Hk ++ (DefR D :: K)) G w' → Q .normal a' w')
    (hstop : ∀ D c pre Hk w' a', Jx c pre Hk → Fm n (mk_ D :: ds) L a' → Ws w0 S (Hk ++ (DefR D :: K)) G w' → c.wpIn (FF none) 0 P Q a' w') :
    (Code.rangeFunc g ps assign body).wpIn (FF none) 0 P Q a w := by
  have hge : a.eval g = .func (.func gf) #[] lb := by rw [hA.eval hk]; exact hg
  have hpn : ∀ p ∈ ps.toList, p < n := fun p hp => by
    have := List.all_eq_true.1 hps p hp
    exact Nat.le_of_ble_eq_true this
  refine wpIn_rangeFunc ?_
  intro fn _
  obtain ⟨rec, hrec⟩ : ∃ rec : LoopState → Option Code → Loop, rec = fun st pe => { state := st, pending := pe, fn, tmps := a.tmps, params := ps, assign, body, defers := w.heap.size } := ⟨_, rfl⟩
  have hWD : Ws w0 S (DefR w.heap.size :: (H ++ K)) G (w.alloc (.deferred (some []))) := hW.alloc _ _ (World.alloc_heap_new _ _) rfl
  have hWL := hWD.alloc (.loop (rec .ready none)) (LoopR (w.heap.size + 1) (rec .ready none)) (by have := World.alloc_heap_new (w.alloc (.deferred (some []))) (.loop (rec .ready none)); rw [World.size_alloc] at this; exact this) (by simp [LoopR])
  have hWK : Ws w0 S ((LoopR (w.heap.size + 1) (rec .ready none) :: H) ++ (DefR w.heap.size :: K)) G ((w.alloc (.deferred (some []))).alloc (.loop (rec .ready none))) :=
    ⟨hWL.fr, fun r hr => hWL.at_ r (by simp at hr ⊢; rcases hr with h | h | h | h <;> simp [h]), fun r hr => hWL.lt r (by simp at hr ⊢; rcases hr with h | h | h | h <;> simp [h]), (by
      have := hWL.nd
      rw [List.pairwise_cons, List.pairwise_cons] at this
      obtain ⟨h1, h2, h3⟩ := this
      refine List.pairwise_append.2 ⟨List.pairwise_cons.2 ⟨fun r hr => h1 r (by simp [hr]), (List.pairwise_append.1 h3).1⟩, List.pairwise_cons.2 ⟨fun r hr => h2 r (by simp [hr]), (List.pairwise_append.1 h3).2.1⟩, fun r hr k hk => ?_⟩
      rcases List.mem_cons.1 hr with rfl | hr
      · exact h1 k (by simp at hk ⊢; rcases hk with h | h <;> simp [h])
      · rcases List.mem_cons.1 hk with rfl | hk
        · exact fun b hb hb' => h2 r (by simp [hr]) b hb' hb
        · exact (List.pairwise_append.1 h3).2.2 r hr k hk), fun r hr => hWL.may r (by simp at hr ⊢; rcases hr with h | h | h | h <;> simp [h]), hWL.gat, hWL.glt, fun g hg r hr => hWL.gd g hg r (by simp at hr ⊢; rcases hr with h | h | h | h <;> simp [h])⟩
  refine ⟨w.heap.size + 1, [mk_ w.heap.size], (w.alloc (.deferred (some []))).alloc (.loop (rec .ready none)), { target := .fn (.func gf) lb, args := #[.func (.yield (w.heap.size + 1)) #[] #[]] }, (w.alloc (.deferred (some []))).alloc (.loop (rec .ready none)), gf,
    #[.func (.yield (w.heap.size + 1)) #[] #[]] ++ lb, (w.alloc (.deferred (some []))).alloc (.loop (rec .ready none)), ?_, resolve_yield hge _, fun _ _ => trivial, ?_, fun e => (by cases e), ?_⟩
  · rw [hrec]; exact run_enterLoop_outer _ _ _ _ _
  · simp [invoke, go_sem, eg]
  · refine callsF.2 ((range_core hrec hA hpn hsz hI hOs h0 hround hWK).mono ?_)
    have hA' : Fm n (mk_ w.heap.size :: ds) L { a with defers := [mk_ w.heap.size] ++ a.defers } := ⟨hA.size, by rw [← hA.defers]; rfl, hA.at_⟩
    have fin : ∀ (st : LoopState) (pe : Option Code) (W2 : World) (Hk : List Res), st ≠ .busy → Ws w0 S ((LoopR (w.heap.size + 1) (rec st pe) :: Hk) ++ (DefR w.heap.size :: K)) G W2 →
        ∃ W3, (Instr.endLoop (w.heap.size + 1)).run P W2 = .ok pe W3 ∧ Ws w0 S (Hk ++ (DefR w.heap.size :: K)) G W3 := fun st pe W2 Hk hst h2 => by
      have hl : W2.heap[w.heap.size + 1]? = some (.loop (rec st pe)) := h2.get 0 rfl
      have hr := run_endLoop (P := P) hl (by rw [hrec]; exact hst)
      refine ⟨W2.putObj (w.heap.size + 1) (.loop { rec st pe with state := .exhausted }), by rw [hr, hrec], ?_⟩
      have h4 : Ws w0 S (LoopR (w.heap.size + 1) { rec st pe with state := .exhausted } :: (Hk ++ (DefR w.heap.size :: K))) G _ := (h2.turn (r' := LoopR (w.heap.size + 1) { rec st pe with state := .exhausted }) 0 rfl ((Fr.put _).mono fun i _ e => by subst e; exact .head _) (World.putObj_heap_same (lt_of_block hl)) (fun b hb => ⟨.inl hb, by simp [LoopR] at hb; subst hb; simp; exact lt_of_block hl⟩) rfl)
      exact h4.less (List.sublist_cons_self _ _)
    rintro e W2 ⟨⟨v, rfl⟩, (⟨xs, Hk, hS, hJ, h2⟩ | ⟨c, pre, Hk, hJ, h2⟩)⟩
    · obtain ⟨W3, hr, h3⟩ := fin _ _ W2 Hk (by simp) h2
      exact ⟨none, W3, hr, hdone _ xs Hk W3 _ hS hJ hA' h3⟩
    · obtain ⟨W3, hr, h3⟩ := fin _ _ W2 Hk (by simp) h2
      exact ⟨some c, W3, hr, hstop _ c pre Hk W3 _ hJ hA' h3⟩
variable {ρ : Operand → Value} {o : Oper} {Φ : Value → World → Prop}
theorem RunsF.of (h : Runs P ρ o w Φ) : RunsF P ρ o w Φ := .inl h
/-- A call of yield: the piece r, of which the loop's rounds live, is turned. -/
theorem RunsF.yield {Ok : List α → α → Prop} {J Jx : List α → Res → Prop} {w1 : World} {r0 r : Res} {l : Nat} {encs : α → Array Value} (hR : Rounds P l encs Ok J Jx w1 r0) (pre : List α) (x : α)
    (he : ∀ w, (execOp ρ o).run P w = (Instr.yield l (encs x)).run P w) (hW : Ws w0 S H G w) (i : Nat) (hi : H[i]? = some r) (hok : Ok pre x) (hJ : J pre r) (hfr : Fr (· ∈ r0.fp) w1 w) (hfp : ∀ b ∈ r.fp, b ∈ r0.fp ∨ w1.heap.size ≤ b)
    (next : ∀ v r' w', (v = true → J (pre ++ [x]) r') → (v = false → Jx (pre ++ [x]) r') → Ws w0 S (H.set i r') G w' → Φ (.bool v) w') : RunsF P ρ o w Φ := by
  refine .inr ⟨l, encs x, he w, ?_⟩
  · refine YieldAt.mono (hR pre x r w hok hJ (hW.get i hi) (hW.lt _ (List.mem_of_getElem? hi)) hfr hfp) ?_
    rintro e w' ⟨hf, v, r', rfl, h1, h2, h3, h4⟩
    exact ⟨_, rfl, next v r' w' h1 h2 (hW.turn i hi hf h3 h4 rfl)⟩
end

/-! ### a function's end -/
section
variable {P : Program} {fn : Func} {R : Ending → World → Prop} {a : Act} {w w0 : World} {ds : List Deferred} {S : Nat → Prop} {H G : List Res} {tm : Array Value}
theorem leaveD {D : Nat} (hW : Ws w0 S H G w) (i : Nat) (hi : H[i]? = some (DefR D)) {H' : List Res} (hH : H.eraseIdx i = H') (next : ∀ w', Ws w0 S H' G w' → LeavesInM (FF none) 0 P fn tm R ds .returning w') : LeavesInM (FF none) 0 P fn tm R (mk_ D :: ds) .returning w := by
  have hD : w.heap[D]? = some (.deferred (some [])) := hW.get i hi
  refine ⟨by simp, .inl ⟨D, _, rfl, run_takeDeferred hD, next _ ?_⟩⟩
  have hil : i < H.length := (List.getElem?_eq_some_iff.1 hi).1
  have h1 := hW.turn (r' := ⟨[D], fun _ => True, fun _ _ _ _ => trivial⟩) i hi ((Fr.put (w := w) (b := D) (.deferred none)).mono fun j _ e => by subst e; exact .head _) trivial (fun b hb => ⟨.inl hb, by simp at hb; subst hb; simp; exact lt_of_block hD⟩) rfl
  refine h1.less ?_
  rw [← hH]
  have : (H.set i ⟨[D], fun _ => True, fun _ _ _ _ => trivial⟩).eraseIdx i = H.eraseIdx i := by rw [List.eraseIdx_set_eq]
  rw [← this]
  exact List.eraseIdx_sublist _ _
theorem leave0 (hr : fn.results = #[]) (hR : R (.returned (.tuple #[])) w) : LeavesInM (FF none) 0 P fn a.tmps R [] .returning w := ⟨_, by simp [results, hr], hR⟩
theorem leave1 {r : ResultVar} {v : Value} (hr : fn.results = #[r]) (h : Got P w a r v) (hR : R (.returned v) w) : LeavesInM (FF none) 0 P fn a.tmps R [] .returning w := by
  refine ⟨v, ?_, hR⟩
  cases r <;> simp only [Got] at h <;> (try obtain ⟨_, p1, q1⟩ := h) <;> simp [results, asAddr, *]
theorem leave2 {r1 r2 : ResultVar} {v1 v2 : Value} (hr : fn.results = #[r1, r2]) (h1 : Got P w a r1 v1) (h2 : Got P w a r2 v2) (hR : R (.returned (.tuple #[v1, v2])) w) : LeavesInM (FF none) 0 P fn a.tmps R [] .returning w := by
  refine ⟨_, ?_, hR⟩
  cases r1 <;> cases r2 <;> simp only [Got] at h1 h2 <;> (try obtain ⟨_, p1, q1⟩ := h1) <;> (try obtain ⟨_, p2, q2⟩ := h2) <;> simp [results, asAddr, *]
theorem GotF.tmp {n : Nat} {L : List (Nat × Value)} (hA : Fm n ds L a) {t : Tmp} {v : Value} (hk : kn L t = true) (hv : lk L t = v) : Got P w a (.tmp t) v := by
  have := hA.at_ t hk
  rw [hv] at this
  simp [Got, this]
theorem GotF.cell {n : Nat} {L : List (Nat × Value)} (hA : Fm n ds L a) {x : Tmp} {t : TypeId} {v : Value} {b i : Nat} (hk : kn L x = true) (hp : lk L x = .pointer (some ⟨b, i, none⟩)) {cs : Array Value} {T : TypeId} {fr : Nat × Nat} (hc : w.heap[b]? = some (.cells cs T fr)) (hv : ldv P t cs i = some v) : Got P w a (.cell x t) v := by
  have := hA.at_ x hk
  rw [hp] at this
  exact ⟨⟨b, i, none⟩, by simp [this], run_ldv hc hv⟩
end

/-! ### tests -/
theorem bbne_t {a b : Bool} (h : (!(a == b)) = true) : a ≠ b := by simpa using h
theorem bbne_f {a b : Bool} (h : (!(a == b)) = false) : a = b := by simpa using h
theorem bbeq_t {a b : Bool} (h : (a == b) = true) : a = b := by simpa using h
theorem bbeq_f {a b : Bool} (h : (a == b) = false) : a ≠ b := by simpa using h
theorem same_at {α : Type} {l r : List α} {k : Nat} {x y : α} (h : l = r) (hx : l[k]? = some x) (hy : r[k]? = some y) : x = y := by subst h; rw [hx] at hy; exact Option.some.inj hy

theorem tk_snoc {α : Type} {l : List α} {k : Nat} {x : α} (h : l[k]? = some x) : l.take (k + 1) = l.take k ++ [x] := by rw [List.take_add_one, h]; rfl

/-! ### numbers -/
theorem rem_ {x c : Int} (h : 0 ≤ x) : Int.tmod x c = x % c := Int.tmod_eq_emod_of_nonneg h
theorem quo_ {x c : Int} (h : 0 ≤ x) : Int.tdiv x c = x / c := Int.tdiv_eq_ediv_of_nonneg h
theorem min_ (x y : Int) : (if y < x then y else x) = min x y := by rw [Int.min_def]; split <;> split <;> omega
theorem max_ (x y : Int) : (if y > x then y else x) = max x y := by rw [Int.max_def]; split <;> split <;> omega

/-! ### objects -/
/-- r is turned to r'. -/
def Upd (r r' : Res) (w w' : World) : Prop := Fr (· ∈ r.fp) w w' ∧ r'.p w' ∧ ∀ b ∈ r'.fp, (b ∈ r.fp ∨ w.heap.size ≤ b) ∧ b < w'.heap.size
/-- r is new. -/
def Made (r : Res) (w w' : World) : Prop := Fr No w w' ∧ r.p w' ∧ ∀ b ∈ r.fp, w.heap.size ≤ b ∧ b < w'.heap.size
section
variable {w0 w w' : World} {S : Nat → Prop} {H G L : List Res}
theorem Ws.made (h : Ws w0 S H G w) {r : Res} (hm : Made r w w') : Ws w0 S (r :: H) G w' := h.add hm.1 r hm.2.1 hm.2.2
theorem Ws.madeDone {r : Res} (h : Ws w No H G w') (i : Nat) (hi : H[i]? = some r) : Made r w w' := ⟨h.fr, h.get i hi, fun b hb => ⟨(h.may _ (List.mem_of_getElem? hi) b hb).resolve_left (fun s => s), h.lt _ (List.mem_of_getElem? hi) b hb⟩⟩
theorem Ws.upd (h : Ws w0 S H G w) {r r' : Res} {H' : List Res} (i : Nat) (hi : H[i]? = some r) (hu : Upd r r' w w') (hH : H.set i r' = H') : Ws w0 S H' G w' := h.turn i hi hu.1 hu.2.1 hu.2.2 hH
/-- An object's pieces, out of it. -/
theorem Ws.unpack {K : List Res} (h : Ws w0 S (allR L :: K) G w) : Ws w0 S (L ++ K) G w := by
  have hp : (allR L).p w := h.at_ _ (.head _)
  have hm : ∀ r ∈ L, ∀ b ∈ r.fp, b ∈ (allR L).fp := fun r hr b hb => mem_allR.2 ⟨r, hr, hb⟩
  refine ⟨h.fr, fun r hr => ?_, fun r hr b hb => ?_, List.pairwise_append.2 ⟨hp.1, (List.pairwise_cons.1 h.nd).2, fun r hr k hk b hb => (List.pairwise_cons.1 h.nd).1 k hk b (hm r hr b hb)⟩, fun r hr b hb => ?_, h.gat, h.glt, fun g hg r hr b hb => ?_⟩ <;> rcases List.mem_append.1 hr with hr | hr
  · exact hp.2 r hr
  · exact h.at_ r (.tail _ hr)
  · exact h.lt _ (.head _) b (hm r hr b hb)
  · exact h.lt r (.tail _ hr) b hb
  · exact h.may _ (.head _) b (hm r hr b hb)
  · exact h.may r (.tail _ hr) b hb
  · exact h.gd g hg _ (.head _) b (hm r hr b hb)
  · exact h.gd g hg r (.tail _ hr) b hb
/-- Pieces, as an object. -/
theorem Ws.pack {K : List Res} (h : Ws w0 S (L ++ K) G w) : Ws w0 S (allR L :: K) G w := by
  have hl : ∀ r ∈ L, r ∈ L ++ K := fun r hr => List.mem_append.2 (.inl hr)
  have hk : ∀ r ∈ K, r ∈ L ++ K := fun r hr => List.mem_append.2 (.inr hr)
  have hn := List.pairwise_append.1 h.nd
  refine ⟨h.fr, fun r hr => ?_, fun r hr b hb => ?_, List.pairwise_cons.2 ⟨fun k hk' b hb hb' => ?_, hn.2.1⟩, fun r hr b hb => ?_, h.gat, h.glt, fun g hg r hr b hb => ?_⟩
  · rcases List.mem_cons.1 hr with rfl | hr
    · exact ⟨hn.1, fun r hr => h.at_ r (hl r hr)⟩
    · exact h.at_ r (hk r hr)
  · rcases List.mem_cons.1 hr with rfl | hr
    · obtain ⟨x, hx, hb⟩ := mem_allR.1 hb; exact h.lt x (hl x hx) b hb
    · exact h.lt r (hk r hr) b hb
  · obtain ⟨x, hx, hb⟩ := mem_allR.1 hb
    exact hn.2.2 x hx k hk' b hb hb'
  · rcases List.mem_cons.1 hr with rfl | hr
    · obtain ⟨x, hx, hb⟩ := mem_allR.1 hb; exact h.may x (hl x hx) b hb
    · exact h.may r (hk r hr) b hb
  · rcases List.mem_cons.1 hr with rfl | hr
    · obtain ⟨x, hx, hb⟩ := mem_allR.1 hb; exact h.gd g hg x (hl x hx) b hb
    · exact h.gd g hg r (hk r hr) b hb
/-- A walk that turns an object begins. -/
theorem objW {r : Res} (hp : r.p w) (hlt : ∀ b ∈ r.fp, b < w.heap.size) : Ws w (· ∈ r.fp) [r] [] w := iterW_ hp hlt
  where iterW_ (hp : r.p w) (hlt : ∀ b ∈ r.fp, b < w.heap.size) : Ws w (· ∈ r.fp) [r] [] w := ⟨Fr.refl _ _, by simpa using hp, by simpa using hlt, by simp, by simp; exact fun b hb => .inl hb, by simp, by simp, by simp⟩
theorem Ws.updDone {r r' : Res} (h : Ws w (· ∈ r.fp) H G w') (i : Nat) (hi : H[i]? = some r') : Upd r r' w w' := ⟨h.fr, h.get i hi, fun b hb => ⟨h.may _ (List.mem_of_getElem? hi) b hb, h.lt _ (List.mem_of_getElem? hi) b hb⟩⟩
theorem Ws.celG (h : Ws w0 S [] G w) {b : Nat} {cs : Array Value} {T : TypeId} (hb : w.heap[b]? = some (.cells cs T (0, 0))) : Ws w0 S [] (Cel b cs T :: G) w := h.addG (Cel b cs T) hb (fun x hx => by simp [Cel] at hx; subst hx; exact lt_of_block hb) (by simp)
theorem row_nil {sz : Nat} {α : Type} {en : α → List Value} {l : List α} (h : RowAt w none sz en l) : l = [] := by
  rcases h with h | ⟨b, off, h, -⟩
  · exact h
  · cases h
theorem Ws.mapG (h : Ws w0 S [] G w) {κ ν : Type} {b : Nat} {ek : κ → Value} {ev : ν → Value} {m : List (κ × ν)} (hm : (mapR b ek ev m).p w) : Ws w0 S [] (mapR b ek ev m :: G) w := h.addG _ hm (fun x hx => by
  obtain ⟨es, clock, hb, -⟩ := show mapAt w b ek ev m from hm
  simp [mapR] at hx; subst hx; exact lt_of_block hb) (by simp)
/-- An object that is only read: its pieces. -/
theorem Ws.objG (h : Ws w0 S [] G w) (hp : (allR L).p w) (hlt : ∀ b ∈ (allR L).fp, b < w.heap.size) : Ws w0 S [] (L ++ G) w :=
  ⟨h.fr, by simp, by simp, by simp, by simp, fun g hg => by
    rcases List.mem_append.1 hg with hg | hg
    · exact hp.2 g hg
    · exact h.gat g hg, fun g hg b hb => by
    rcases List.mem_append.1 hg with hg | hg
    · exact hlt b (mem_allR.2 ⟨g, hg, hb⟩)
    · exact h.glt g hg b hb, by simp⟩
end

/-! ### iterators -/
section
variable {α β : Type} {w0 w w' : World} {S T : Nat → Prop} {H G Os : List Res} {P : Program}
theorem chainFr {W : World} (hB : Fr S w0 W) (hT : ∀ b, T b → S b ∨ w0.heap.size ≤ b) (h : Fr T W w) : Fr S w0 w := hB.trans h (fun _ _ s => s) (fun i hi t => (hT i t).resolve_right (by omega))
theorem chainMay {W : World} (hB : Fr S w0 W) (hT : ∀ b, T b → S b ∨ w0.heap.size ≤ b) {r : Res} (h : ∀ b ∈ r.fp, T b ∨ W.heap.size ≤ b) : ∀ b ∈ r.fp, S b ∨ w0.heap.size ≤ b := fun b hb => by
  rcases h b hb with h1 | h1
  · exact hT b h1
  · exact .inr (Nat.le_trans hB.size h1)
theorem iterW {r0 : Res} (hOs : ∀ o ∈ Os, o.p w) (hdis : ∀ o ∈ Os, ∀ b ∈ o.fp, b < w.heap.size ∧ b ∉ r0.fp) (hp : r0.p w) (hlt : ∀ b ∈ r0.fp, b < w.heap.size) : Ws w (· ∈ r0.fp) [r0] Os w :=
  ⟨Fr.refl _ _, by simpa using hp, by simpa using hlt, by simp, by simp; exact fun b hb => .inl hb, hOs, fun o ho b hb => (hdis o ho b hb).1, fun o ho r hr b hb hb' => by
    obtain rfl : r = r0 := by simpa using hr
    exact (hdis o ho b hb').2 hb⟩
theorem ranDone {Sx : List α → Prop} {J Jx : List α → Res → Prop} {r0 : Res} {v : Value} (hW : Ws w0 (· ∈ r0.fp) H G w) (i : Nat) {r : Res} (hi : H[i]? = some r) (hj : (∃ xs, Sx xs ∧ J xs r) ∨ ∃ pre, Jx pre r) : Ran Sx J Jx w0 r0 (.returned v) w :=
  ⟨⟨_, rfl⟩, hW.fr, r, hj, hW.get i hi, fun b hb => ⟨hW.may r (List.mem_of_getElem? hi) b hb, hW.lt r (List.mem_of_getElem? hi) b hb⟩⟩
/-- Pieces that are read, as one. -/
def manyR (Os : List Res) : Res := ⟨Os.flatMap Res.fp, fun w => ∀ o ∈ Os, o.p w, fun w w' h hp o ho => o.loc w w' (fun b hb => h b (List.mem_flatMap.2 ⟨o, ho, hb⟩)) (hp o ho)⟩
theorem iter_many {gf : Nat} {lb : Array Value} {encs : α → Array Value} {Sx : List α → Prop} (h : Iter P gf lb encs Sx Os) : Iter P gf lb encs Sx [manyR Os] := fun l J Jx r0 w1 h1 h2 => h l J Jx r0 w1 (h1 _ (.head _)) (fun o ho b hb => h2 _ (.head _) b (List.mem_flatMap.2 ⟨o, ho, hb⟩))
theorem from_many {Gs : List Res} (h : ∀ o ∈ Os, o.from_ Gs w w') : (manyR Os).from_ Gs w w' := ⟨fun o ho => (h o ho).1, fun b hb => by
  obtain ⟨o, ho, hb⟩ := List.mem_flatMap.1 hb
  exact (h o ho).2 b hb⟩
theorem froms_nil {Gs : List Res} : ∀ o ∈ ([] : List Res), o.from_ Gs w w' := by simp
theorem froms_cons {Gs : List Res} {o : Res} (h : o.from_ Gs w w') (k : ∀ o ∈ Os, o.from_ Gs w w') : ∀ x ∈ o :: Os, x.from_ Gs w w' := by
  intro x hx; rcases List.mem_cons.1 hx with rfl | hx
  · exact h
  · exact k x hx
theorem Ws.outOwn (h : Ws w0 S H G w) (i : Nat) {r : Res} {Gs : List Res} (hi : H[i]? = some r) (hS : ∀ b, ¬ S b) : r.from_ Gs w0 w :=
  ⟨h.get i hi, fun b hb => ⟨h.lt r (List.mem_of_getElem? hi) b hb, .inr ((h.may r (List.mem_of_getElem? hi) b hb).resolve_left (hS b))⟩⟩
theorem comes_at {l : List β} {k : Nat} {y : β} (h : l[k]? = some y) : Comes (· = l.zipIdx) (l.zipIdx.take k) (y, k) := by
  refine ⟨_, rfl, ?_⟩
  have h1 : l.zipIdx[k]? = some (y, k) := by rw [List.getElem?_zipIdx, h]; simp
  have : l.zipIdx.take k ++ [(y, k)] = l.zipIdx.take (k + 1) := by rw [List.take_add_one, h1]; rfl
  rw [this]; exact List.take_prefix _ _
theorem zip_snoc {l : List β} {k : Nat} {y : β} (h : l[k]? = some y) : l.zipIdx.take k ++ [(y, k)] = l.zipIdx.take (k + 1) := by
  have h1 : l.zipIdx[k]? = some (y, k) := by rw [List.getElem?_zipIdx, h]; simp
  rw [List.take_add_one, h1]; rfl
theorem zip_all {l : List β} {k : Nat} (h : l.length ≤ k) : l.zipIdx.take k = l.zipIdx := List.take_of_length_le (by simpa using h)
end
end Go.Proofs.YtoakhhilmnfpkaaGreatDoor.L
