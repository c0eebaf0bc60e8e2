/- The engine: iterators' contracts, rounds, the range over a function. -/
import Derived.Test.YtoakhhilmnfpkaaGreatDoorE7
namespace Go.Proofs.YtoakhhilmnfpkaaGreatDoor.L
open Go.RowKit Go.MapKept Go.Maps

/-- Some pieces, as one. -/
def allR (H : List Res) : Res where
  fp := H.flatMap Res.fp
  p w := (H.Pairwise fun r s => ∀ b : Nat, b ∈ r.fp → b ∉ s.fp) ∧ ∀ r ∈ H, r.p w
  loc w w' h hp := ⟨hp.1, fun r hr => r.loc w w' (fun b hb => h b (List.mem_flatMap.2 ⟨r, hr, hb⟩)) (hp.2 r hr)⟩
theorem mem_allR {H : List Res} {b : Nat} : b ∈ (allR H).fp ↔ ∃ r ∈ H, b ∈ r.fp := List.mem_flatMap
/-- A loop's record. -/
def LoopR (l : Nat) (r : Loop) : Res := ⟨[l], fun w => w.heap[l]? = some (.loop r), fun _ _ h hp => (h l (.head _)).trans hp⟩

section
variable {w0 w : World} {S : Nat → Prop} {H G : List Res}
theorem Ws.all (h : Ws w0 S H G w) : (allR H).p w := ⟨h.nd, h.at_⟩
theorem Ws.allLt (h : Ws w0 S H G w) : ∀ b ∈ (allR H).fp, b < w.heap.size := fun b hb => by
  obtain ⟨r, hr, hb⟩ := mem_allR.1 hb
  exact h.lt r hr b hb
/-- Some of what is one's own is turned, by what turns its blocks alone. -/
theorem Ws.turnAll {K : List Res} (h : Ws w0 S (H ++ K) G w) {w' : World} {H' : List Res} (hf : Fr (· ∈ (allR H).fp) w w') (hq : (allR H').p w') (hfp : ∀ b ∈ (allR H').fp, (b ∈ (allR H).fp ∨ w.heap.size ≤ b) ∧ b < w'.heap.size) : Ws w0 S (H' ++ K) G w' := by
  have hm : ∀ r ∈ H, r ∈ H ++ K := fun r hr => List.mem_append.2 (.inl hr)
  have hk : ∀ r ∈ K, r ∈ H ++ K := fun r hr => List.mem_append.2 (.inr hr)
  have hmay : ∀ b ∈ (allR H').fp, S b ∨ w0.heap.size ≤ b := fun b hb => by
    rcases (hfp b hb).1 with h1 | h1
    · obtain ⟨r, hr, hb⟩ := mem_allR.1 h1
      exact h.may r (hm r hr) b hb
    · exact .inr (Nat.le_trans h.fr.size h1)
  have hG : ∀ g ∈ G, ∀ b ∈ g.fp, b ∉ (allR H).fp := fun g hg b hb hmm => by
    obtain ⟨r, hr, hb'⟩ := mem_allR.1 hmm
    exact h.gd g hg r (hm r hr) b hb' hb
  have hK : ∀ k ∈ K, ∀ b ∈ k.fp, b ∉ (allR H).fp := fun k hk' b hb hmm => by
    obtain ⟨r, hr, hb'⟩ := mem_allR.1 hmm
    exact (List.pairwise_append.1 h.nd).2.2 r hr k hk' b hb' hb
  have new : ∀ b, b < w.heap.size → b ∉ (allR H).fp → b ∉ (allR H').fp := fun b h1 h2 h3 => by
    rcases (hfp b h3).1 with h4 | h4
    · exact h2 h4
    · omega
  refine ⟨h.fr.trans hf (fun _ _ s => s) (fun i hi s => ?_), fun r hr => ?_, fun r hr b hb => ?_, ?_, fun r hr b hb => ?_, fun g hg => g.loc _ _ (fun b hb => hf.block b (h.glt g hg b hb) (hG g hg b hb)) (h.gat g hg), fun g hg b hb => Nat.lt_of_lt_of_le (h.glt g hg b hb) hf.size, fun g hg r hr b hb hb' => ?_⟩
  · obtain ⟨r, hr, hb⟩ := mem_allR.1 s
    rcases h.may r (hm r hr) i hb with h1 | h1
    · exact h1
    · omega
  · rcases List.mem_append.1 hr with hr | hr
    · exact hq.2 r hr
    · exact r.loc _ _ (fun b hb => hf.block b (h.lt r (hk r hr) b hb) (hK r hr b hb)) (h.at_ r (hk r hr))
  · rcases List.mem_append.1 hr with hr | hr
    · exact (hfp b (mem_allR.2 ⟨r, hr, hb⟩)).2
    · exact Nat.lt_of_lt_of_le (h.lt r (hk r hr) b hb) hf.size
  · refine List.pairwise_append.2 ⟨hq.1, (List.pairwise_append.1 h.nd).2.1, fun r hr k hk' b hb hb' => ?_⟩
    exact new b (h.lt k (hk k hk') b hb') (hK k hk' b hb') (mem_allR.2 ⟨r, hr, hb⟩)
  · rcases List.mem_append.1 hr with hr | hr
    · exact hmay b (mem_allR.2 ⟨r, hr, hb⟩)
    · exact h.may r (hk r hr) b hb
  · rcases List.mem_append.1 hr with hr | hr
    · exact new b (h.glt g hg b hb') (hG g hg b hb') (mem_allR.2 ⟨r, hr, hb⟩)
    · exact h.gd g hg r (hk r hr) b hb hb'
end

/-- What a round of loop l does, x having come behind pre: J holds again, or the loop is left. -/
def Rounds {α : Type} (P : Program) (l : Nat) (encs : α → Array Value) (Ok : List α → α → Prop) (J Jx : List α → Res → Prop) (w1 : World) (r0 : Res) : Prop :=
  ∀ pre x r W, Ok pre x → J pre r → r.p W → (∀ b ∈ r.fp, b < W.heap.size) → Fr (· ∈ r0.fp) w1 W → (∀ b ∈ r.fp, b ∈ r0.fp ∨ w1.heap.size ≤ b) →
    YieldAt (FF none) 0 P l (encs x) W fun e W' => Fr (· ∈ r.fp) W W' ∧ ∃ v r', e = .returned (.bool v) ∧ (v = true → J (pre ++ [x]) r') ∧ (v = false → Jx (pre ++ [x]) r') ∧ r'.p W' ∧ ∀ b ∈ r'.fp, (b ∈ r.fp ∨ W.heap.size ≤ b) ∧ b < W'.heap.size
/-- x comes behind pre, of such a list. -/
def Comes {α : Type} (Sx : List α → Prop) (pre : List α) (x : α) : Prop := ∃ xs, Sx xs ∧ (pre ++ [x]) <+: xs
/-- How an iterator ends. -/
def Ran {α : Type} (Sx : List α → Prop) (J Jx : List α → Res → Prop) (w1 : World) (r0 : Res) (e : Ending) (w' : World) : Prop :=
  (∃ v, e = .returned v) ∧ Fr (· ∈ r0.fp) w1 w' ∧ ∃ r', ((∃ xs, Sx xs ∧ J xs r') ∨ ∃ pre, Jx pre r') ∧ r'.p w' ∧ ∀ b ∈ r'.fp, (b ∈ r0.fp ∨ w1.heap.size ≤ b) ∧ b < w'.heap.size
/-- An iterator: a function's value that, called at a loop's yield, hands it the elements of some list of Sx, in order; it reads these pieces. -/
def Iter {α : Type} (P : Program) (gf : Nat) (lb : Array Value) (encs : α → Array Value) (Sx : List α → Prop) (Os : List Res) : Prop :=
  ∀ l (J Jx : List α → Res → Prop) r0 w1, (∀ o ∈ Os, o.p w1) → (∀ o ∈ Os, ∀ b ∈ o.fp, b < w1.heap.size ∧ b ∉ r0.fp) → Rounds P l encs (Comes Sx) J Jx w1 r0 → J [] r0 → r0.p w1 → (∀ b ∈ r0.fp, b < w1.heap.size) →
    Calls P gf (#[.func (.yield l) #[] #[]] ++ lb) w1 (Ran Sx J Jx w1 r0)

/-- The frame of a round: the loop's variables set. -/
def bindL : List (Tmp × Value) → List (Nat × Value) → List (Nat × Value)
  | [], L => L
  | (t, v) :: r, L => bindL r ((t, v) :: L)
/-- Before a round's body: the record turns from rd to bs. -/
def BeginK (rd bs : Res) (B : Act → World → Prop) (a : Act) (W : World) : Prop := rd.p W ∧ ∀ W2, bs.p W2 → Fr (· ∈ rd.fp) W W2 → B a W2
/-- How a round's body may end. -/
def EndK {α : Type} (J : List α → List Res → Prop) (Jx : Code → List α → List Res → Prop) (pre : List α) (W0 : World) (T : Nat → Prop) (bs : Res) (G : List Res) : Exit → Act → World → Prop
  | .normal, _, W => ∃ H, J pre H ∧ Ws W0 T (bs :: H) G W
  | .ret, _, W => ∃ H, Jx .ret pre H ∧ Ws W0 T (bs :: H) G W
  | .exit i, _, W => ∃ H, Jx (.exit i) pre H ∧ Ws W0 T (bs :: H) G W
  | .goto i, _, W => ∃ H, Jx (.goto i) pre H ∧ Ws W0 T (bs :: H) G W
  | _, _, _ => False

section
variable {P : Program} {Q : Exit → Act → World → Prop} {n : Nat} {ds : List Deferred} {L : List (Nat × Value)} {a : Act} {w w0 : World} {S : Nat → Prop} {H G : List Res} {α : Type}
theorem begun {rd bs : Res} {B : Act → World → Prop} (hW : Ws w0 S H G w) (i : Nat) (hi : H[i]? = some rd) (hfp : ∀ b ∈ bs.fp, b ∈ rd.fp) {H' : List Res} (hH : H.set i bs = H') (next : ∀ W2, Ws w0 S H' G W2 → B a W2) : BeginK rd bs B a w :=
  ⟨hW.get i hi, fun W2 h2 hf => next W2 (hW.turn i hi hf h2 (fun b hb => ⟨.inl (hfp b hb), Nat.lt_of_lt_of_le (hW.lt _ (List.mem_of_getElem? hi) b (hfp b hb)) hf.size⟩) hH)⟩

theorem Fm.bind (ps : List Tmp) (vs : List Value) : ∀ (tm : Array Value) (L : List (Nat × Value)), Fm n [] L { tmps := tm, defers := [] } → (∀ p ∈ ps, p < n) →
    Fm n [] (bindL (ps.zip vs) L) { tmps := (ps.zip vs).foldl (fun t (p, v) => t.setIfInBounds p v) tm, defers := [] } := by
  induction ps generalizing vs with
  | nil => intro tm L h _; exact h
  | cons p ps ih =>
    intro tm L h hp
    cases vs with
    | nil => exact h
    | cons v vs =>
      have h1 := h.put (d := some p) (by simpa [dOk] using hp p (.head _)) v
      exact ih vs _ _ h1 (fun q hq => hp q (.tail _ hq))

/-- What the walk of a round's two codes owes. -/
def RoundOk (P : Program) (n : Nat) (L : List (Nat × Value)) (ps : Array Tmp) (encs : α → Array Value) (assign body : Code) (Ok : List α → α → Prop) (J : List α → List Res → Prop) (Jx : Code → List α → List Res → Prop) (G : List Res) (w0 : World) (S : Nat → Prop) : Prop :=
  ∀ (l : Nat) (rd bs : Res) (pre : List α) (x : α) (Hk : List Res) (W : World) (T : Nat → Prop) (a1 : Act), rd.fp = [l] → bs.fp = [l] → (∀ W, bs.p W → ∃ r, W.heap[l]? = some (.loop r)) → Ok pre x → J pre Hk → Fm n [] (bindL (ps.toList.zip (encs x).toList) L) a1 → Ws W T (rd :: Hk) G W → Fr S w0 W → (∀ b, T b → S b ∨ w0.heap.size ≤ b) →
    assign.wpIn (FF (some l)) 0 P (Exit.then (BeginK rd bs (fun a' W' => body.wpIn (FF (some l)) 0 P (EndK J Jx (pre ++ [x]) W T bs G) a' W')) (fun _ _ _ => False)) a1 W

theorem range_core {ps : Array Tmp} {assign body : Code} {l : Nat} {rec : LoopState → Option Code → Loop} {fn0 : FuncId} {df : Nat} (hrec : rec = fun st pe => { state := st, pending := pe, fn := fn0, tmps := a.tmps, params := ps, assign, body, defers := df })
    (hA : Fm n ds L a) (hps : ∀ p ∈ ps.toList, p < n) {encs : α → Array Value} (hsz : ∀ x, (encs x).size = ps.size) {Sx : List α → Prop} {Os : List Res} {gf : Nat} {lb : Array Value} (hI : Iter P gf lb encs Sx Os) (hOs : ∀ o ∈ Os, o ∈ G)
    {J : List α → List Res → Prop} {Jx : Code → List α → List Res → Prop} (h0 : J [] H) (hround : RoundOk P n L ps encs assign body (Comes Sx) J Jx G w0 S)
    {K : List Res} (hWK : Ws w0 S ((LoopR l (rec .ready none) :: H) ++ K) G w) :
    Calls P gf (#[.func (.yield l) #[] #[]] ++ lb) w fun e w' => (∃ v, e = .returned v) ∧ ((∃ xs Hk, Sx xs ∧ J xs Hk ∧ Ws w0 S ((LoopR l (rec .ready none) :: Hk) ++ K) G w') ∨ ∃ c pre Hk, Jx c pre Hk ∧ Ws w0 S ((LoopR l (rec .done (some c)) :: Hk) ++ K) G w') := by
  have hW := hWK.less (List.sublist_append_left _ K)
  have hG : ∀ g ∈ G, ∀ b ∈ g.fp, b < w.heap.size ∧ b ∉ (allR (LoopR l (rec .ready none) :: H)).fp := fun g hg b hb => ⟨hW.glt g hg b hb, fun hm => by
    obtain ⟨r, hr, hb'⟩ := mem_allR.1 hm
    exact hW.gd g hg r hr b hb' hb⟩
  refine (hI l (fun pre r => ∃ Hk, J pre Hk ∧ r = allR (LoopR l (rec .ready none) :: Hk)) (fun pre r => ∃ c Hk, Jx c pre Hk ∧ r = allR (LoopR l (rec .done (some c)) :: Hk)) (allR (LoopR l (rec .ready none) :: H)) w (fun o ho => hW.gat o (hOs o ho)) (fun o ho => hG o (hOs o ho)) ?_ ⟨H, h0, rfl⟩ hW.all hW.allLt).mono ?_
  · rintro pre x r W hok ⟨Hk, hJ, rfl⟩ hp hlt hfr hfp
    have hl : W.heap[l]? = some (.loop (rec .ready none)) := hp.2 _ (.head _)
    have hy := run_yield (P := P) (args := encs x) hl (by rw [hrec]; exact hsz x)
    have e1 : ∀ st pe, (rec st pe).fn = fn0 ∧ (rec st pe).params = ps ∧ (rec st pe).tmps = a.tmps ∧ (rec st pe).assign = assign ∧ (rec st pe).body = body := fun st pe => by rw [hrec]; exact ⟨rfl, rfl, rfl, rfl, rfl⟩
    obtain ⟨e2, e3, e4, e5, e6⟩ := e1 .ready none
    rw [e2, e3, e4, e5, e6] at hy
    refine ⟨_, _, _, _, hy, roundIn_of_wpIn (F := FF none) trivial ?_⟩
    have hF1 : Fm n [] (bindL (ps.toList.zip (encs x).toList) L) { tmps := (ps.zip (encs x)).foldl (fun t (p, v) => t.setIfInBounds p v) a.tmps, defers := [] } := by
      have := Fm.bind (n := n) ps.toList (encs x).toList a.tmps L ⟨hA.size, rfl, hA.at_⟩ hps
      rw [← Array.foldl_toList, Array.toList_zip]
      exact this
    have h0may : ∀ b ∈ (allR (LoopR l (rec .ready none) :: H)).fp, S b ∨ w0.heap.size ≤ b := fun b hb => by
      obtain ⟨r, hr, hb⟩ := mem_allR.1 hb
      exact hW.may r hr b hb
    have hbase : Fr S w0 W := hW.fr.trans hfr (fun _ _ s => s) (fun i hi s => (h0may i s).resolve_right (by omega))
    have hT : ∀ b, b ∈ (allR (LoopR l (rec .ready none) :: Hk)).fp → S b ∨ w0.heap.size ≤ b := fun b hb => by
      rcases hfp b hb with h1 | h1
      · exact h0may b h1
      · exact .inr (Nat.le_trans hW.fr.size h1)
    have hWr : Ws W (· ∈ (allR (LoopR l (rec .ready none) :: Hk)).fp) (LoopR l (rec .ready none) :: Hk) G W :=
      ⟨Fr.refl _ _, hp.2, fun r hr b hb => hlt b (mem_allR.2 ⟨r, hr, hb⟩), hp.1, fun r hr b hb => .inl (mem_allR.2 ⟨r, hr, hb⟩), fun g hg => g.loc _ _ (fun b hb => hfr.block b (hG g hg b hb).1 (hG g hg b hb).2) (hW.gat g hg), fun g hg b hb => Nat.lt_of_lt_of_le (hG g hg b hb).1 hfr.size,
        fun g hg r hr b hb hb' => by
          rcases hfp b (mem_allR.2 ⟨r, hr, hb⟩) with h1 | h1
          · exact (hG g hg b hb').2 h1
          · have := (hG g hg b hb').1; omega⟩
    refine wpIn_mono (hround l (LoopR l (rec .ready none)) (LoopR l (rec .busy none)) pre x Hk W _ _ rfl rfl (fun W h => ⟨_, h⟩) hok hJ hF1 hWr hbase hT) ?_
    intro e a2 W1 hq
    cases e <;> try exact hq.elim
    obtain ⟨hr1, hB⟩ := hq
    have hl1 : W1.heap[l]? = some (.loop (rec .ready none)) := hr1
    have hlt1 := lt_of_block hl1
    refine ⟨_, run_beginRound hl1 (by rw [hrec]), ?_⟩
    have hbs : (LoopR l (rec .busy none)).p (W1.putObj l (.loop { rec .ready none with state := .busy })) := by
      have := World.putObj_heap_same (o := .loop { rec .ready none with state := .busy }) hlt1
      rw [hrec] at this ⊢
      exact this
    refine wpIn_mono (hB _ hbs ((Fr.put _).mono fun i _ e => by subst e; exact .head _)) ?_
    have fin : ∀ (jump : Option Code) (W3 : World) (Hk3 : List Res), Ws W (· ∈ (allR (LoopR l (rec .ready none) :: Hk)).fp) (LoopR l (rec .busy none) :: Hk3) G W3 →
        ∃ W4, (Instr.endRound l jump).run P W3 = .ok (.bool jump.isNone) W4 ∧ Ws W (· ∈ (allR (LoopR l (rec .ready none) :: Hk)).fp) (LoopR l (rec (if jump.isNone then .ready else .done) jump) :: Hk3) G W4 := fun jump W3 Hk3 h3 => by
      have hl3 : W3.heap[l]? = some (.loop (rec .busy none)) := h3.get 0 rfl
      refine ⟨_, run_endRound jump hl3, h3.turn (r' := LoopR l (rec (if jump.isNone then .ready else .done) jump)) 0 rfl ((Fr.put _).mono fun i _ e => by subst e; exact .head _) ?_ (fun b hb => ⟨.inl hb, ?_⟩) rfl⟩
      · have := World.putObj_heap_same (o := .loop { rec .busy none with state := if jump.isNone then .ready else .done, pending := jump }) (lt_of_block hl3)
        rw [hrec] at this ⊢
        exact this
      · simp [LoopR] at hb; subst hb; simp; exact lt_of_block hl3
    have out : ∀ (W4 : World) (K : List Res), Ws W (· ∈ (allR (LoopR l (rec .ready none) :: Hk)).fp) K G W4 → (allR K).p W4 ∧ ∀ b ∈ (allR K).fp, (b ∈ (allR (LoopR l (rec .ready none) :: Hk)).fp ∨ W.heap.size ≤ b) ∧ b < W4.heap.size := fun W4 K h4 =>
      ⟨h4.all, fun b hb => ⟨by obtain ⟨r, hr, hb⟩ := mem_allR.1 hb; exact h4.may r hr b hb, h4.allLt b hb⟩⟩
    rintro e a3 W3 hp3
    cases e with
    | normal =>
      obtain ⟨Hk3, hJ3, h3⟩ := hp3
      obtain ⟨W4, hr4, h4⟩ := fin none W3 Hk3 h3
      exact ⟨_, W4, hr4, h4.fr, true, _, rfl, fun _ => ⟨Hk3, hJ3, rfl⟩, (fun h => by cases h), out W4 _ h4⟩
    | ret =>
      obtain ⟨Hk3, hJ3, h3⟩ := hp3
      obtain ⟨W4, hr4, h4⟩ := fin (some .ret) W3 Hk3 h3
      exact ⟨_, W4, hr4, h4.fr, false, _, rfl, (fun h => by cases h), fun _ => ⟨_, Hk3, hJ3, rfl⟩, out W4 _ h4⟩
    | exit i =>
      obtain ⟨Hk3, hJ3, h3⟩ := hp3
      obtain ⟨W4, hr4, h4⟩ := fin (some (.exit i)) W3 Hk3 h3
      exact ⟨_, W4, hr4, h4.fr, false, _, rfl, (fun h => by cases h), fun _ => ⟨_, Hk3, hJ3, rfl⟩, out W4 _ h4⟩
    | goto i =>
      obtain ⟨Hk3, hJ3, h3⟩ := hp3
      obtain ⟨W4, hr4, h4⟩ := fin (some (.goto i)) W3 Hk3 h3
      exact ⟨_, W4, hr4, h4.fr, false, _, rfl, (fun h => by cases h), fun _ => ⟨_, Hk3, hJ3, rfl⟩, out W4 _ h4⟩
    | panic ch => exact hp3.elim
    | outgrown => exact hp3.elim
  · rintro e w' ⟨he, hfr, r', hj, hp, hfp⟩
    refine ⟨he, ?_⟩
    rcases hj with ⟨xs, hS, Hk, hJ, rfl⟩ | ⟨pre, c, Hk, hJ, rfl⟩
    · exact .inl ⟨xs, Hk, hS, hJ, hWK.turnAll hfr hp hfp⟩
    · exact .inr ⟨c, pre, Hk, hJ, hWK.turnAll hfr hp hfp⟩
end
end Go.Proofs.YtoakhhilmnfpkaaGreatDoor.L
