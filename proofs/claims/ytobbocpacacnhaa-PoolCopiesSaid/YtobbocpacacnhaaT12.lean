/- Contracts, walked by program over the engine's laws. -/
import Derived.Test.YtobbocpacacnhaaProg
import Derived.Test.YtobbocpacacnhaaT11
namespace Go.Proofs.Ytobbocpacacnhaa.L
open Go.RowKit

def MakePR (P : PV) (h : Int) (P' : PV) : Prop := 1 ≤ h ∧ h ≤ P.length + 1 ∧ (∀ j, 1 ≤ j → j < h → thereP P j = true) ∧ thereP P h = false ∧ P' = withP P h (true, [])
def insStep (id : Int) (m : Mark) (s : List One × Bool) (x : One) : List One × Bool :=
  let s1 := if s.2 = false ∧ id ≤ x.id then (s.1 ++ [(⟨id, m⟩ : One)], true) else s
  if x.id = id then s1 else (s1.1 ++ [x], s1.2)
def insP (l : List One) (id : Int) (m : Mark) : List One := let s := l.foldl (insStep id m) ([], false); if s.2 = true then s.1 else s.1 ++ [⟨id, m⟩]
def MarkPR (P : PV) (h id : Int) (m : Mark) (P' : PV) (bad : Int) : Prop :=
  if fineM id m = false then P' = P ∧ bad = 2 else if thereP P h = false then P' = P ∧ bad = 5 else P' = withP P h (true, insP (allP P h) id m) ∧ bad = 0
def FreePR (P : PV) (h : Int) (P' : PV) (bad : Int) : Prop := if thereP P h = false then P' = P ∧ bad = 5 else P' = withP P h (false, []) ∧ bad = 0
theorem there_le {P : PV} {h : Int} (e : thereP P h = true) : 1 ≤ h ∧ h ≤ P.length := by
  unfold thereP at e; simp only [Bool.and_eq_true, decide_eq_true_eq] at e; exact e.1
theorem all_at {V : List VecE} {h : Int} {y : VecE} (e : thereP (pv V) h = true) (hy : V[(h - 1).toNat]? = some y) : allP (pv V) h = y.l := by
  unfold allP; rw [if_pos e, pv_at hy]; rfl
theorem all_no {P : PV} {h : Int} (e : thereP P h = false) : allP P h = [] := by unfold allP; rw [if_neg (by rw [e]; simp)]
theorem foldl_snoc {α β : Type} {f : β → α → β} {b : β} {l : List α} {k : Nat} {y : α} (h : l[k]? = some y) : (l.take (k + 1)).foldl f b = f ((l.take k).foldl f b) y := by rw [tk_snoc h, List.foldl_append]; rfl
theorem insP_yes {l : List One} {id : Int} {m : Mark} {o : List One} (h : (o, true) = l.foldl (insStep id m) ([], false)) : insP l id m = o := by unfold insP; rw [← h]; rfl
theorem insP_no {l : List One} {id : Int} {m : Mark} {o : List One} (h : (o, false) = l.foldl (insStep id m) ([], false)) : insP l id m = o ++ [⟨id, m⟩] := by unfold insP; rw [← h]; rfl
set_option maxRecDepth 100000 in
theorem e_siRight (s : Site) (w : World)  : Calls Try.prog 58 #[s.v] w (fun e w' => e = .returned (Value.bool (Site.ok s)) ∧ Fr No w w') := by
 refine enter_E 21 Try.func58 rfl rfl (by kernel_rfl) (L := [(0, s.v)]) (by kernel_rfl) ?_
 intro ac hA
 have hW := Ws.start w No
 refine wp_seq ?_
 refine wp_region_lit ?_
 refine st hA (by kernel_rfl) (by kernel_rfl) (by kernel_rfl) (Runs.cells (fun b => Value.pointer (some ⟨b, 0, none⟩)) #[Value.int .i64 s.f, Value.int .i64 s.pc] 30 (fun _ => by kernel_rfl) hW ?_); clear hA ac hW; intro b1 w2 hW hb1 hfw2 ac hA
 refine st_rd (v := Value.bool false) hA (by kernel_rfl) (by kernel_rfl) (by kernel_rfl) hW.cls (Rd.pure fun _ => by kernel_rfl) ?_; clear hA ac; intro ac hA
 refine wpList_nil ?_
 refine thenN ?_
 refine wp_seq ?_
 refine wp_region_lit ?_
 refine st_rd (v := Value.pointer (some ⟨b1, 0, none⟩)) hA (by kernel_rfl) (by kernel_rfl) (by kernel_rfl) hW.cls (Rd.pure fun _ => by kernel_rfl) ?_; clear hA ac; intro ac hA
 refine st_rd (v := Value.int .i64 s.f) hA (by kernel_rfl) (by kernel_rfl) (by kernel_rfl) hW.cls (Rd.load (b := b1) (i := 0) (by kernel_rfl) (fun _ hw => (hw.1).cel 0 rfl) (by kernel_rfl)) ?_; clear hA ac; intro ac hA
 refine st_rd (v := Value.bool (decide ((s.f : Int) ≥ (0 : Int)))) hA (by kernel_rfl) (by kernel_rfl) (by kernel_rfl) hW.cls (Rd.pure fun _ => by kernel_rfl) ?_; clear hA ac; intro ac hA
 refine st_rd (v := Value.bool (decide ((s.f : Int) ≥ (0 : Int)))) hA (by kernel_rfl) (by kernel_rfl) (by kernel_rfl) hW.cls (Rd.pure fun _ => by kernel_rfl) ?_; clear hA ac; intro ac hA
 rcases Bool.eq_false_or_eq_true (decide ((s.f : Int) ≥ (0 : Int))) with h3 | h3
 · skip
   rw [h3] at hA
   have h3 := of_decide_eq_true h3
   first
   | (exfalso; clear hA hW; omega)
   | (
     refine st_rd (v := Value.pointer (some ⟨b1, 0, none⟩)) hA (by kernel_rfl) (by kernel_rfl) (by kernel_rfl) hW.cls (Rd.pure fun _ => by kernel_rfl) ?_; clear hA ac; intro ac hA
     refine st_rd (v := Value.int .i64 s.f) hA (by kernel_rfl) (by kernel_rfl) (by kernel_rfl) hW.cls (Rd.load (b := b1) (i := 0) (by kernel_rfl) (fun _ hw => (hw.1).cel 0 rfl) (by kernel_rfl)) ?_; clear hA ac; intro ac hA
     refine st_rd (v := Value.bool (decide ((s.f : Int) < (32 : Int)))) hA (by kernel_rfl) (by kernel_rfl) (by kernel_rfl) hW.cls (Rd.pure fun _ => by kernel_rfl) ?_; clear hA ac; intro ac hA
     refine st_rd (v := Value.bool (decide ((s.f : Int) < (32 : Int)))) hA (by kernel_rfl) (by kernel_rfl) (by kernel_rfl) hW.cls (Rd.pure fun _ => by kernel_rfl) ?_; clear hA ac; intro ac hA
     refine st_rd (v := Value.bool (decide ((s.f : Int) < (32 : Int)))) hA (by kernel_rfl) (by kernel_rfl) (by kernel_rfl) hW.cls (Rd.pure fun _ => by kernel_rfl) ?_; clear hA ac; intro ac hA
     rcases Bool.eq_false_or_eq_true (decide ((s.f : Int) < (32 : Int))) with h4 | h4
     · skip
       rw [h4] at hA
       have h4 := of_decide_eq_true h4
       first
       | (exfalso; clear hA hW; omega)
       | (
         refine st_rd (v := Value.pointer (some ⟨b1, 1, none⟩)) hA (by kernel_rfl) (by kernel_rfl) (by kernel_rfl) hW.cls (Rd.pure fun _ => by kernel_rfl) ?_; clear hA ac; intro ac hA
         refine st_rd (v := Value.int .i64 s.pc) hA (by kernel_rfl) (by kernel_rfl) (by kernel_rfl) hW.cls (Rd.load (b := b1) (i := 1) (by kernel_rfl) (fun _ hw => (hw.1).cel 0 rfl) (by kernel_rfl)) ?_; clear hA ac; intro ac hA
         refine st_rd (v := Value.bool (decide ((s.pc : Int) ≥ (0 : Int)))) hA (by kernel_rfl) (by kernel_rfl) (by kernel_rfl) hW.cls (Rd.pure fun _ => by kernel_rfl) ?_; clear hA ac; intro ac hA
         refine st_rd (v := Value.bool (decide ((s.pc : Int) ≥ (0 : Int)))) hA (by kernel_rfl) (by kernel_rfl) (by kernel_rfl) hW.cls (Rd.pure fun _ => by kernel_rfl) ?_; clear hA ac; intro ac hA
         refine st_rd (v := Value.bool (decide ((s.pc : Int) ≥ (0 : Int)))) hA (by kernel_rfl) (by kernel_rfl) (by kernel_rfl) hW.cls (Rd.pure fun _ => by kernel_rfl) ?_; clear hA ac; intro ac hA
         rcases Bool.eq_false_or_eq_true (decide ((s.pc : Int) ≥ (0 : Int))) with h5 | h5
         · skip
           rw [h5] at hA
           have h5 := of_decide_eq_true h5
           first
           | (exfalso; clear hA hW; omega)
           | (
             refine st_rd (v := Value.pointer (some ⟨b1, 1, none⟩)) hA (by kernel_rfl) (by kernel_rfl) (by kernel_rfl) hW.cls (Rd.pure fun _ => by kernel_rfl) ?_; clear hA ac; intro ac hA
             refine st_rd (v := Value.int .i64 s.pc) hA (by kernel_rfl) (by kernel_rfl) (by kernel_rfl) hW.cls (Rd.load (b := b1) (i := 1) (by kernel_rfl) (fun _ hw => (hw.1).cel 0 rfl) (by kernel_rfl)) ?_; clear hA ac; intro ac hA
             refine st_rd (v := Value.bool (decide ((s.pc : Int) < (512 : Int)))) hA (by kernel_rfl) (by kernel_rfl) (by kernel_rfl) hW.cls (Rd.pure fun _ => by kernel_rfl) ?_; clear hA ac; intro ac hA
             refine st_rd (v := Value.bool (decide ((s.pc : Int) < (512 : Int)))) hA (by kernel_rfl) (by kernel_rfl) (by kernel_rfl) hW.cls (Rd.pure fun _ => by kernel_rfl) ?_; clear hA ac; intro ac hA
             refine st_rd (v := Value.bool (decide ((s.pc : Int) < (512 : Int)))) hA (by kernel_rfl) (by kernel_rfl) (by kernel_rfl) hW.cls (Rd.pure fun _ => by kernel_rfl) ?_; clear hA ac; intro ac hA
             refine wpList_nil ?_
             refine thenN ?_
             refine wp_ret ?_
             refine ret1 (v := Value.bool (decide ((s.pc : Int) < (512 : Int)))) (by rfl) hA (Got.tmp hA (by kernel_rfl) (by kernel_rfl)) ?_
             clear hA
             exact ⟨retv (by first | (simp [Site.ok]; done) | (simp [Site.ok]; omega) | (simp [Site.ok, *]; done) | (simp [Site.ok, *]; omega) | (simp_all [Site.ok]; done) | (simp_all [Site.ok]; omega) | (refine congrArg Value.bool (Bool.eq_iff_iff.2 ?_); simp [Site.ok]; (try simp only [*]); (try simp); omega) | (simp [Site.ok]; repeat' split; all_goals omega)), hW.fr⟩)
         · skip
           rw [h5] at hA
           have h5 := of_decide_eq_false h5
           first
           | (exfalso; clear hA hW; omega)
           | (
             refine st_skip hA (by kernel_rfl) (by kernel_rfl) ?_; clear hA ac; intro ac hA
             refine st_skip hA (by kernel_rfl) (by kernel_rfl) ?_; clear hA ac; intro ac hA
             refine st_skip hA (by kernel_rfl) (by kernel_rfl) ?_; clear hA ac; intro ac hA
             refine st_rd (v := Value.bool false) hA (by kernel_rfl) (by kernel_rfl) (by kernel_rfl) hW.cls (Rd.pure fun _ => by kernel_rfl) ?_; clear hA ac; intro ac hA
             refine st_rd (v := Value.bool false) hA (by kernel_rfl) (by kernel_rfl) (by kernel_rfl) hW.cls (Rd.pure fun _ => by kernel_rfl) ?_; clear hA ac; intro ac hA
             refine wpList_nil ?_
             refine thenN ?_
             refine wp_ret ?_
             refine ret1 (v := Value.bool false) (by rfl) hA (Got.tmp hA (by kernel_rfl) (by kernel_rfl)) ?_
             clear hA
             exact ⟨retv (by first | (simp [Site.ok]; done) | (simp [Site.ok]; omega) | (simp [Site.ok, *]; done) | (simp [Site.ok, *]; omega) | (simp_all [Site.ok]; done) | (simp_all [Site.ok]; omega) | (refine congrArg Value.bool (Bool.eq_iff_iff.2 ?_); simp [Site.ok]; (try simp only [*]); (try simp); omega) | (simp [Site.ok]; repeat' split; all_goals omega)), hW.fr⟩))
     · skip
       rw [h4] at hA
       have h4 := of_decide_eq_false h4
       first
       | (exfalso; clear hA hW; omega)
       | (
         refine st_skip hA (by kernel_rfl) (by kernel_rfl) ?_; clear hA ac; intro ac hA
         refine st_skip hA (by kernel_rfl) (by kernel_rfl) ?_; clear hA ac; intro ac hA
         refine st_skip hA (by kernel_rfl) (by kernel_rfl) ?_; clear hA ac; intro ac hA
         refine st_rd (v := Value.bool false) hA (by kernel_rfl) (by kernel_rfl) (by kernel_rfl) hW.cls (Rd.pure fun _ => by kernel_rfl) ?_; clear hA ac; intro ac hA
         refine st_rd (v := Value.bool false) hA (by kernel_rfl) (by kernel_rfl) (by kernel_rfl) hW.cls (Rd.pure fun _ => by kernel_rfl) ?_; clear hA ac; intro ac hA
         refine st_skip hA (by kernel_rfl) (by kernel_rfl) ?_; clear hA ac; intro ac hA
         refine st_skip hA (by kernel_rfl) (by kernel_rfl) ?_; clear hA ac; intro ac hA
         refine st_skip hA (by kernel_rfl) (by kernel_rfl) ?_; clear hA ac; intro ac hA
         refine st_rd (v := Value.bool false) hA (by kernel_rfl) (by kernel_rfl) (by kernel_rfl) hW.cls (Rd.pure fun _ => by kernel_rfl) ?_; clear hA ac; intro ac hA
         refine st_rd (v := Value.bool false) hA (by kernel_rfl) (by kernel_rfl) (by kernel_rfl) hW.cls (Rd.pure fun _ => by kernel_rfl) ?_; clear hA ac; intro ac hA
         refine wpList_nil ?_
         refine thenN ?_
         refine wp_ret ?_
         refine ret1 (v := Value.bool false) (by rfl) hA (Got.tmp hA (by kernel_rfl) (by kernel_rfl)) ?_
         clear hA
         exact ⟨retv (by first | (simp [Site.ok]; done) | (simp [Site.ok]; omega) | (simp [Site.ok, *]; done) | (simp [Site.ok, *]; omega) | (simp_all [Site.ok]; done) | (simp_all [Site.ok]; omega) | (refine congrArg Value.bool (Bool.eq_iff_iff.2 ?_); simp [Site.ok]; (try simp only [*]); (try simp); omega) | (simp [Site.ok]; repeat' split; all_goals omega)), hW.fr⟩))
 · skip
   rw [h3] at hA
   have h3 := of_decide_eq_false h3
   first
   | (exfalso; clear hA hW; omega)
   | (
     refine st_skip hA (by kernel_rfl) (by kernel_rfl) ?_; clear hA ac; intro ac hA
     refine st_skip hA (by kernel_rfl) (by kernel_rfl) ?_; clear hA ac; intro ac hA
     refine st_skip hA (by kernel_rfl) (by kernel_rfl) ?_; clear hA ac; intro ac hA
     refine st_rd (v := Value.bool false) hA (by kernel_rfl) (by kernel_rfl) (by kernel_rfl) hW.cls (Rd.pure fun _ => by kernel_rfl) ?_; clear hA ac; intro ac hA
     refine st_rd (v := Value.bool false) hA (by kernel_rfl) (by kernel_rfl) (by kernel_rfl) hW.cls (Rd.pure fun _ => by kernel_rfl) ?_; clear hA ac; intro ac hA
     refine st_skip hA (by kernel_rfl) (by kernel_rfl) ?_; clear hA ac; intro ac hA
     refine st_skip hA (by kernel_rfl) (by kernel_rfl) ?_; clear hA ac; intro ac hA
     refine st_skip hA (by kernel_rfl) (by kernel_rfl) ?_; clear hA ac; intro ac hA
     refine st_rd (v := Value.bool false) hA (by kernel_rfl) (by kernel_rfl) (by kernel_rfl) hW.cls (Rd.pure fun _ => by kernel_rfl) ?_; clear hA ac; intro ac hA
     refine st_rd (v := Value.bool false) hA (by kernel_rfl) (by kernel_rfl) (by kernel_rfl) hW.cls (Rd.pure fun _ => by kernel_rfl) ?_; clear hA ac; intro ac hA
     refine st_skip hA (by kernel_rfl) (by kernel_rfl) ?_; clear hA ac; intro ac hA
     refine st_skip hA (by kernel_rfl) (by kernel_rfl) ?_; clear hA ac; intro ac hA
     refine st_skip hA (by kernel_rfl) (by kernel_rfl) ?_; clear hA ac; intro ac hA
     refine st_rd (v := Value.bool false) hA (by kernel_rfl) (by kernel_rfl) (by kernel_rfl) hW.cls (Rd.pure fun _ => by kernel_rfl) ?_; clear hA ac; intro ac hA
     refine st_rd (v := Value.bool false) hA (by kernel_rfl) (by kernel_rfl) (by kernel_rfl) hW.cls (Rd.pure fun _ => by kernel_rfl) ?_; clear hA ac; intro ac hA
     refine wpList_nil ?_
     refine thenN ?_
     refine wp_ret ?_
     refine ret1 (v := Value.bool false) (by rfl) hA (Got.tmp hA (by kernel_rfl) (by kernel_rfl)) ?_
     clear hA
     exact ⟨retv (by first | (simp [Site.ok]; done) | (simp [Site.ok]; omega) | (simp [Site.ok, *]; done) | (simp [Site.ok, *]; omega) | (simp_all [Site.ok]; done) | (simp_all [Site.ok]; omega) | (refine congrArg Value.bool (Bool.eq_iff_iff.2 ?_); simp [Site.ok]; (try simp only [*]); (try simp); omega) | (simp [Site.ok]; repeat' split; all_goals omega)), hW.fr⟩)

set_option maxRecDepth 100000 in
theorem e_get04 (A_c : Option Addr) (c_c : Nat) (c : List Int) (id : Int) (w : World) (hr_c : RowAt w A_c 1 enU c) (hc_c : c.length ≤ c_c) (hl : c.length ≤ 100000) : Calls Try.prog 59 #[Value.slice A_c c.length c_c, Value.int .i64 id] w (fun e w' => e = .returned (Value.int .u64 (getC c id)) ∧ Fr No w w') := by
 have _hu := hc_c; have _hv := hr_c; clear _hu _hv
 have _hu := hl; clear _hu
 refine enter_E 17 Try.func59 rfl rfl (by kernel_rfl) (L := [(0, Value.slice A_c c.length c_c), (1, Value.int .i64 id)]) (by kernel_rfl) ?_
 intro ac hA
 have hW := Ws.start w No
 have hW := hW.arg hr_c
 refine wp_seq ?_
 refine wp_region_lit ?_
 refine st_rd (v := Value.int .u64 0) hA (by kernel_rfl) (by kernel_rfl) (by kernel_rfl) hW.cls (Rd.pure fun _ => by kernel_rfl) ?_; clear hA ac; intro ac hA
 refine wpList_nil ?_
 refine thenN ?_
 refine wp_seq ?_
 refine wp_seq ?_
 refine wp_region_lit ?_
 refine st_rd (v := Value.int .i64 id) hA (by kernel_rfl) (by kernel_rfl) (by kernel_rfl) hW.cls (Rd.pure fun _ => by kernel_rfl) ?_; clear hA ac; intro ac hA
 refine st_rd (v := Value.bool (decide ((id : Int) < (0 : Int)))) hA (by kernel_rfl) (by kernel_rfl) (by kernel_rfl) hW.cls (Rd.pure fun _ => by kernel_rfl) ?_; clear hA ac; intro ac hA
 refine st_rd (v := Value.bool (decide ((id : Int) < (0 : Int)))) hA (by kernel_rfl) (by kernel_rfl) (by kernel_rfl) hW.cls (Rd.pure fun _ => by kernel_rfl) ?_; clear hA ac; intro ac hA
 rcases Bool.eq_false_or_eq_true (decide ((id : Int) < (0 : Int))) with h1 | h1
 · skip
   rw [h1] at hA
   have h1 := of_decide_eq_true h1
   first
   | (exfalso; clear hA hW; omega)
   | (
     refine st_skip hA (by kernel_rfl) (by kernel_rfl) ?_; clear hA ac; intro ac hA
     refine st_skip hA (by kernel_rfl) (by kernel_rfl) ?_; clear hA ac; intro ac hA
     refine st_skip hA (by kernel_rfl) (by kernel_rfl) ?_; clear hA ac; intro ac hA
     refine st_skip hA (by kernel_rfl) (by kernel_rfl) ?_; clear hA ac; intro ac hA
     refine st_rd (v := Value.bool true) hA (by kernel_rfl) (by kernel_rfl) (by kernel_rfl) hW.cls (Rd.pure fun _ => by kernel_rfl) ?_; clear hA ac; intro ac hA
     refine wpList_nil ?_
     refine thenN ?_
     refine wp_cond_true (hA.eval (by kernel_rfl)) ?_
     refine wp_seq ?_
     refine wp_region_lit ?_
     refine st_rd (v := Value.int .u64 0) hA (by kernel_rfl) (by kernel_rfl) (by kernel_rfl) hW.cls (Rd.pure fun _ => by kernel_rfl) ?_; clear hA ac; intro ac hA
     refine wpList_nil ?_
     refine thenN ?_
     refine wp_ret ?_
     refine thenR ?_
     refine ret1 (v := Value.int .u64 0) (by rfl) hA (Got.tmp hA (by kernel_rfl) (by kernel_rfl)) ?_
     clear hA
     exact ⟨retv (congrArg (Value.int .u64) (getC_no (by omega)).symm), hW.fr⟩)
 · skip
   rw [h1] at hA
   have h1 := of_decide_eq_false h1
   first
   | (exfalso; clear hA hW; omega)
   | (
     refine st_rd (v := Value.int .i64 id) hA (by kernel_rfl) (by kernel_rfl) (by kernel_rfl) hW.cls (Rd.pure fun _ => by kernel_rfl) ?_; clear hA ac; intro ac hA
     refine st_rd (v := Value.slice A_c c.length c_c) hA (by kernel_rfl) (by kernel_rfl) (by kernel_rfl) hW.cls (Rd.pure fun _ => by kernel_rfl) ?_; clear hA ac; intro ac hA
     refine st_rd (v := Value.int .i64 ((c.length : Nat) : Int)) hA (by kernel_rfl) (by kernel_rfl) (by kernel_rfl) hW.cls (Rd.pure fun _ => by kernel_rfl) ?_; clear hA ac; intro ac hA
     refine st_rd (v := Value.bool (decide ((id : Int) ≥ (((c.length : Nat) : Int) : Int)))) hA (by kernel_rfl) (by kernel_rfl) (by kernel_rfl) hW.cls (Rd.pure fun _ => by kernel_rfl) ?_; clear hA ac; intro ac hA
     refine st_rd (v := Value.bool (decide ((id : Int) ≥ (((c.length : Nat) : Int) : Int)))) hA (by kernel_rfl) (by kernel_rfl) (by kernel_rfl) hW.cls (Rd.pure fun _ => by kernel_rfl) ?_; clear hA ac; intro ac hA
     refine wpList_nil ?_
     refine thenN ?_
     refine wp_cond_split (t := decide ((id : Int) ≥ (((c.length : Nat) : Int) : Int))) (hA.eval (by kernel_rfl)) (fun h2 => ?_) (fun h2 => ?_)
     · skip
       have h2 := of_decide_eq_true h2
       first
       | (exfalso; clear hA hW; omega)
       | (
         refine wp_seq ?_
         refine wp_region_lit ?_
         refine st_rd (v := Value.int .u64 0) hA (by kernel_rfl) (by kernel_rfl) (by kernel_rfl) hW.cls (Rd.pure fun _ => by kernel_rfl) ?_; clear hA ac; intro ac hA
         refine wpList_nil ?_
         refine thenN ?_
         refine wp_ret ?_
         refine thenR ?_
         refine ret1 (v := Value.int .u64 0) (by rfl) hA (Got.tmp hA (by kernel_rfl) (by kernel_rfl)) ?_
         clear hA
         exact ⟨retv (congrArg (Value.int .u64) (getC_no (by omega)).symm), hW.fr⟩)
     · skip
       have h2 := of_decide_eq_false h2
       first
       | (exfalso; clear hA hW; omega)
       | (
         refine wp_skip ?_
         refine thenN ?_
         refine wp_seq ?_
         refine wp_region_lit ?_
         refine st_rd (v := Value.slice A_c c.length c_c) hA (by kernel_rfl) (by kernel_rfl) (by kernel_rfl) hW.cls (Rd.pure fun _ => by kernel_rfl) ?_; clear hA ac; intro ac hA
         refine st_rd (v := Value.int .i64 id) hA (by kernel_rfl) (by kernel_rfl) (by kernel_rfl) hW.cls (Rd.pure fun _ => by kernel_rfl) ?_; clear hA ac; intro ac hA
         obtain ⟨y3, hy3⟩ : ∃ y, c[Int.toNat (id)]? = some y := ⟨_, List.getElem?_eq_getElem (by first | omega | (simp; done) | (simp; omega))⟩
         obtain ⟨b4, o5, rfl, hbb4⟩ := row_some ((hW).getG 0 rfl) hy3
         refine st_rd (v := Value.pointer (some ⟨b4, o5 + (Int.toNat (id)) * 1, none⟩)) hA (by kernel_rfl) (by kernel_rfl) (by kernel_rfl) hW.cls (Rd.indexAddrI (e := 28) (sz := 1) (b := b4) (off := o5) (n := c.length) (c := c_c) (k := id) (by kernel_rfl) (by kernel_rfl) (by omega) (by first | omega | (simp; done) | (simp; omega)) (fun _ => by kernel_rfl) (fun _ => by kernel_rfl)) ?_; clear hA ac; intro ac hA
         refine st_rd (v := Value.int .u64 y3) hA (by kernel_rfl) (by kernel_rfl) (by kernel_rfl) hW.cls (Rd.loadRow (b := b4) (i := o5 + (Int.toNat (id)) * 1) (xs := [Value.int .u64 y3]) (by kernel_rfl) (fun _ hw => row_ld ((hw.1).getG 0 rfl) hy3 (Fr.refl No _) (fun h => h) 0 1 (by kernel_rfl)) (by kernel_rfl)) ?_; clear hA ac; intro ac hA
         refine st_rd (v := Value.int .u64 y3) hA (by kernel_rfl) (by kernel_rfl) (by kernel_rfl) hW.cls (Rd.pure fun _ => by kernel_rfl) ?_; clear hA ac; intro ac hA
         refine wpList_nil ?_
         refine thenN ?_
         refine wp_ret ?_
         refine ret1 (v := Value.int .u64 y3) (by rfl) hA (Got.tmp hA (by kernel_rfl) (by kernel_rfl)) ?_
         clear hA
         exact ⟨retv (congrArg (Value.int .u64) (getC_at (by omega) hy3)), hW.fr⟩))

set_option maxRecDepth 100000 in
theorem e_rmake (A_V : Option Addr) (c_V : Nat) (V : List VecE) (w : World) (hr_V : RowAt w A_V 2 enVecE V) (hc_V : V.length ≤ c_V) (hn_V : (nestR innerVecE V).p w) (hk_V : ∀ x_ ∈ V, capVecE x_) (hl : V.length ≤ 900) : Calls Try.prog 34 #[Value.agg #[Value.slice A_V V.length c_V]] w (fun e w' => ∃ V' : List VecE, ∃ h' : Int, ∃ (A_o : Option Addr) (c_o : Nat), e = .returned (Value.tuple #[Value.agg #[Value.slice A_o (V').length c_o], Value.int .i64 h', Value.int .i64 0]) ∧ (MakePR (pv V) h' (pv V')) ∧ (V').length ≤ c_o ∧ (∀ x_ ∈ (V'), capVecE x_) ∧ (roR A_o 2 enVecE V').from_ [roR A_V 2 enVecE V, nestR innerVecE V] w w' ∧ (nestR innerVecE V').from_ [roR A_V 2 enVecE V, nestR innerVecE V] w w' ∧ Fr No w w') := by
 have _hu := hc_V; have _hv := hr_V; clear _hu _hv
 have _hu := hk_V; have _hv := hn_V; clear _hu _hv
 have _hu := hl; clear _hu
 refine enter_E 19 Try.func34 rfl rfl (by kernel_rfl) (L := [(0, Value.agg #[Value.slice A_V V.length c_V])]) (by kernel_rfl) ?_
 intro ac hA
 have hW := Ws.start w No
 have hW := hW.arg hr_V
 have hW := hW.addG _ hn_V (nest_ltVecE hn_V) (by simp)
 refine wp_seq ?_
 refine wp_region_lit ?_
 refine st hA (by kernel_rfl) (by kernel_rfl) (by kernel_rfl) (Runs.cells (fun b => Value.pointer (some ⟨b, 0, none⟩)) #[Value.slice A_V V.length c_V] 51 (fun _ => by kernel_rfl) hW ?_); clear hA ac hW; intro b1 w2 hW hb1 hfw2 ac hA
 refine st hA (by kernel_rfl) (by kernel_rfl) (by kernel_rfl) (Runs.cells (fun b => Value.pointer (some ⟨b, 0, none⟩)) #[Value.slice none 0 0] 51 (fun _ => by kernel_rfl) hW ?_); clear hA ac hW; intro b3 w4 hW hb3 hfw4 ac hA
 refine st_rd (v := Value.int .i64 0) hA (by kernel_rfl) (by kernel_rfl) (by kernel_rfl) hW.cls (Rd.pure fun _ => by kernel_rfl) ?_; clear hA ac; intro ac hA
 refine st_rd (v := Value.int .i64 0) hA (by kernel_rfl) (by kernel_rfl) (by kernel_rfl) hW.cls (Rd.pure fun _ => by kernel_rfl) ?_; clear hA ac; intro ac hA
 refine wpList_nil ?_
 refine thenN ?_
 refine wp_seq ?_
 refine wp_region_lit ?_
 refine st_rd (v := Value.int .i64 1) hA (by kernel_rfl) (by kernel_rfl) (by kernel_rfl) hW.cls (Rd.pure fun _ => by kernel_rfl) ?_; clear hA ac; intro ac hA
 refine wpList_nil ?_
 refine thenN ?_
 refine wp_seq ?_
 refine wp_block ?_
 refine wp_loop_m (fun m_ ac_ wl_ => ∃ h : Int, m_ = V.length + 2 - Int.toNat h ∧ (1 ≤ h) ∧ (∀ j, 1 ≤ j → j < h → thereP (pv V) j = true) ∧ Fm 19 [] [(1, Value.pointer (some ⟨b1, 0, none⟩)), (2, Value.pointer (some ⟨b3, 0, none⟩)), (5, Value.int .i64 h)] ac_ ∧ Ws w No [Cel b3 #[Value.slice none 0 0] 51, Cel b1 #[Value.slice A_V V.length c_V] 51] [nestR innerVecE V, roR A_V 2 enVecE V] wl_) _ ⟨1, rfl, by omega, by intro j h1 h2; omega, hA.sub ⟨⟨by kernel_rfl, by kernel_rfl⟩, ⟨by kernel_rfl, by kernel_rfl⟩, ⟨by kernel_rfl, by kernel_rfl⟩, trivial⟩, (hW.pick [0, 1] (by decide) rfl).pickG [0, 1] rfl⟩ ?_
 clear hA ac hW; rintro m_ ac w5 ⟨h, rfl, h1, hF, hA, hW⟩
 have hfl : h ≤ V.length + 1 := by (by_cases q_ : h = 1; omega); have h_ := there_le (hF (h - 1) (by omega) (by omega)); rw [pv_len] at h_; omega
 refine wp_seq ?_
 refine wp_seq ?_
 refine wp_region_lit ?_
 refine st_rd (v := Value.agg #[Value.slice A_V V.length c_V]) hA (by kernel_rfl) (by kernel_rfl) (by kernel_rfl) hW.cls (Rd.load (b := b1) (i := 0) (by kernel_rfl) (fun _ hw => (hw.1).cel 1 rfl) (by kernel_rfl)) ?_; clear hA ac; intro ac hA
 refine st_rd (v := Value.int .i64 h) hA (by kernel_rfl) (by kernel_rfl) (by kernel_rfl) hW.cls (Rd.pure fun _ => by kernel_rfl) ?_; clear hA ac; intro ac hA
 refine st hA (by kernel_rfl) (by kernel_rfl) (by kernel_rfl) (Runs.callN (v := Value.bool (thereP (pv V) (h))) (fun _ => by kernel_rfl) hW (e_rthere A_V c_V V (h) w5 ((hW).getG 1 rfl) (by first | assumption | omega | (simp; omega) | simp) ((hW).getG 0 rfl) hk_V (by first | omega | simp)) ?_); clear hA ac hW; intro w6 hW hfw6 ac hA
 refine wpList_nil ?_
 refine thenN ?_
 refine wp_cond_split (t := thereP (pv V) (h)) (hA.eval (by kernel_rfl)) (fun h7 => ?_) (fun h7 => ?_)
 · skip
   first
   | (exfalso; clear hA hW; omega)
   | (
     refine wp_skip ?_
     refine thenN ?_
     refine wp_block ?_
     refine wp_region_lit ?_
     refine st_rd (v := Value.int .i64 h) hA (by kernel_rfl) (by kernel_rfl) (by kernel_rfl) hW.cls (Rd.pure fun _ => by kernel_rfl) ?_; clear hA ac; intro ac hA
     refine st_rd (v := Value.int .i64 ((h : Int) + 1)) hA (by kernel_rfl) (by kernel_rfl) (by kernel_rfl) hW.cls (Rd.pureE (v0 := Value.int .i64 (IntKind.i64.wrap ((h : Int) + 1))) (fun _ => by kernel_rfl) (congrArg (Value.int .i64) ((w_i64 (x := (h : Int) + 1) (by omega) (by omega)).trans (by omega)))) ?_; clear hA ac; intro ac hA
     refine st_rd (v := Value.int .i64 ((h : Int) + 1)) hA (by kernel_rfl) (by kernel_rfl) (by kernel_rfl) hW.cls (Rd.pure fun _ => by kernel_rfl) ?_; clear hA ac; intro ac hA
     refine wpList_nil ?_
     refine blkN ?_
     refine thenN ?_
     have hle_ := there_le h7; rw [pv_len] at hle_
     exact ⟨V.length + 2 - Int.toNat (h + 1), by omega, h + 1, rfl, by omega, by intro j hj1 hj2; by_cases q_ : j = h; (subst q_; exact h7); exact hF j hj1 (by omega), hA.sub ⟨⟨by kernel_rfl, by kernel_rfl⟩, ⟨by kernel_rfl, by kernel_rfl⟩, ⟨by kernel_rfl, by kernel_rfl⟩, trivial⟩, (hW.pick [0, 1] (by decide) rfl).pickG [0, 1] rfl⟩)
 · skip
   first
   | (exfalso; clear hA hW; omega)
   | (
     refine wp_exit ?_
     refine thenX ?_
     refine thenX ?_
     refine blkX ?_
     refine thenN ?_
     refine wp_seq ?_
     refine wp_seq ?_
     refine wp_region_lit ?_
     refine st_rd (v := Value.int .i64 h) hA (by kernel_rfl) (by kernel_rfl) (by kernel_rfl) hW.cls (Rd.pure fun _ => by kernel_rfl) ?_; clear hA ac; intro ac hA
     refine st_rd (v := Value.bool (decide ((h : Int) > (65536 : Int)))) hA (by kernel_rfl) (by kernel_rfl) (by kernel_rfl) hW.cls (Rd.pure fun _ => by kernel_rfl) ?_; clear hA ac; intro ac hA
     refine wpList_nil ?_
     refine thenN ?_
     refine wp_cond_split (t := decide ((h : Int) > (65536 : Int))) (hA.eval (by kernel_rfl)) (fun h8 => ?_) (fun h8 => ?_)
     · skip
       have h8 := of_decide_eq_true h8
       first
       | (exfalso; clear hA hW; omega)
       | (
         fail)
     · skip
       have h8 := of_decide_eq_false h8
       first
       | (exfalso; clear hA hW; omega)
       | (
         refine wp_skip ?_
         refine thenN ?_
         refine wp_seq ?_
         refine wp_region_lit ?_
         refine st_rd (v := Value.agg #[Value.slice A_V V.length c_V]) hA (by kernel_rfl) (by kernel_rfl) (by kernel_rfl) hW.cls (Rd.load (b := b1) (i := 0) (by kernel_rfl) (fun _ hw => (hw.1).cel 1 rfl) (by kernel_rfl)) ?_; clear hA ac; intro ac hA
         refine st_rd (v := Value.int .i64 h) hA (by kernel_rfl) (by kernel_rfl) (by kernel_rfl) hW.cls (Rd.pure fun _ => by kernel_rfl) ?_; clear hA ac; intro ac hA
         refine st_rd (v := Value.agg #[Value.bool true, Value.slice none 0 0]) hA (by kernel_rfl) (by kernel_rfl) (by kernel_rfl) hW.cls (Rd.pure fun _ => by kernel_rfl) ?_; clear hA ac; intro ac hA
         refine st hA (by kernel_rfl) (by kernel_rfl) (by kernel_rfl) (Runs.call (fun _ => by kernel_rfl) (e_rwith A_V c_V V (h) true none 0 ([] : List One) w6 ((hW).getG 1 rfl) (by first | assumption | omega | (simp; omega) | simp) ((hW).getG 0 rfl) hk_V (RowAt.nil' _ _) (by first | assumption | omega | (simp; omega) | simp) (by first | omega | simp) (by first | omega | simp) (by first | omega | simp)) ?_)
         rintro _ w10 ⟨g11, Ao12, co13, rfl, hw10_hW, hcco13, hkco13, hfco13, hnfco13, hfw10⟩; refine ⟨_, rfl, ?_⟩; have hW0 := hW; have hW := hW0.call hfw10
         have hW := hW0.addFromAt hW hfco13 (in_cons (in_at 1 rfl) (in_cons (in_at 0 rfl) (in_cons in_none in_nil)))
         have hsco13 : Res.src (roR Ao12 2 enVecE g11) [roR A_V 2 enVecE V, nestR innerVecE V] w := src_call hfco13 (srcs_cons (src_arg (.head _)) (srcs_cons (src_arg (.tail _ (.head _))) (srcs_cons src_nil srcs_nil))) hW0.fr.size
         have hW := hW0.addFromAt hW hnfco13 (in_cons (in_at 1 rfl) (in_cons (in_at 0 rfl) (in_cons in_none in_nil)))
         have hsnco13 : Res.src (nestR innerVecE g11) [roR A_V 2 enVecE V, nestR innerVecE V] w := src_call hnfco13 (srcs_cons (src_arg (.head _)) (srcs_cons (src_arg (.tail _ (.head _))) (srcs_cons src_nil srcs_nil))) hW0.fr.size
         clear hW0 hA ac; intro ac hA
         refine st_rd (v := Value.int .i64 h) hA (by kernel_rfl) (by kernel_rfl) (by kernel_rfl) hW.cls (Rd.pure fun _ => by kernel_rfl) ?_; clear hA ac; intro ac hA
         refine st hA (by kernel_rfl) (by kernel_rfl) (by kernel_rfl) (Runs.store (v := Value.agg #[Value.slice Ao12 (g11).length co13]) (b := b3) (j := 0) (n := 1) (cs' := #[Value.slice Ao12 (g11).length co13]) (H' := [Cel b3 #[Value.slice Ao12 (g11).length co13] 51, Cel b1 #[Value.slice A_V V.length c_V] 51]) (by kernel_rfl) (by kernel_rfl) (by kernel_rfl) (by kernel_rfl) (by kernel_rfl) hW 0 (by rfl) (Nat.le_of_ble_eq_true (by kernel_rfl)) (by kernel_rfl) (by rfl) ?_); clear hA ac hW; intro w14 hW ac hA
         refine st_rd (v := Value.int .i64 h) hA (by kernel_rfl) (by kernel_rfl) (by kernel_rfl) hW.cls (Rd.pure fun _ => by kernel_rfl) ?_; clear hA ac; intro ac hA
         refine st_rd (v := Value.int .i64 0) hA (by kernel_rfl) (by kernel_rfl) (by kernel_rfl) hW.cls (Rd.pure fun _ => by kernel_rfl) ?_; clear hA ac; intro ac hA
         refine wpList_nil ?_
         refine thenN ?_
         refine wp_ret ?_
         refine ret3 (v1 := Value.agg #[Value.slice Ao12 (g11).length co13]) (v2 := Value.int .i64 h) (v3 := Value.int .i64 0) (by rfl) hA (Got.cell (b := b3) (i := 0) hA (by kernel_rfl) (by kernel_rfl) (hW.cel 0 rfl) (by kernel_rfl)) (Got.tmp hA (by kernel_rfl) (by kernel_rfl)) (Got.tmp hA (by kernel_rfl) (by kernel_rfl)) ?_
         clear hA
         exact ⟨g11, h, Ao12, co13, by first | rfl | (simp; done), by exact ⟨h1, by rw [pv_len]; exact hfl, hF, h7, hw10_hW⟩, (by first | assumption | omega | (simp; omega) | simp), hkco13, (hW.outSrc 1 rfl hsco13), (hW.outSrc 0 rfl hsnco13), hW.fr⟩))

set_option maxRecDepth 100000 in
theorem e_rfree (A_V : Option Addr) (c_V : Nat) (V : List VecE) (h : Int) (w : World) (hr_V : RowAt w A_V 2 enVecE V) (hc_V : V.length ≤ c_V) (hn_V : (nestR innerVecE V).p w) (hk_V : ∀ x_ ∈ V, capVecE x_) (hl : V.length ≤ 900) : Calls Try.prog 36 #[Value.agg #[Value.slice A_V V.length c_V], Value.int .i64 h] w (fun e w' => ∃ V' : List VecE, ∃ bad : Int, ∃ (A_o : Option Addr) (c_o : Nat), e = .returned (Value.tuple #[Value.agg #[Value.slice A_o (V').length c_o], Value.int .i64 bad]) ∧ (FreePR (pv V) h (pv V') bad) ∧ (V').length ≤ c_o ∧ (∀ x_ ∈ (V'), capVecE x_) ∧ (roR A_o 2 enVecE V').from_ [roR A_V 2 enVecE V, nestR innerVecE V] w w' ∧ (nestR innerVecE V').from_ [roR A_V 2 enVecE V, nestR innerVecE V] w w' ∧ Fr No w w') := by
 have _hu := hc_V; have _hv := hr_V; clear _hu _hv
 have _hu := hk_V; have _hv := hn_V; clear _hu _hv
 have _hu := hl; clear _hu
 refine enter_E 15 Try.func36 rfl rfl (by kernel_rfl) (L := [(0, Value.agg #[Value.slice A_V V.length c_V]), (1, Value.int .i64 h)]) (by kernel_rfl) ?_
 intro ac hA
 have hW := Ws.start w No
 have hW := hW.arg hr_V
 have hW := hW.addG _ hn_V (nest_ltVecE hn_V) (by simp)
 refine wp_seq ?_
 refine wp_region_lit ?_
 refine st hA (by kernel_rfl) (by kernel_rfl) (by kernel_rfl) (Runs.cells (fun b => Value.pointer (some ⟨b, 0, none⟩)) #[Value.slice A_V V.length c_V] 51 (fun _ => by kernel_rfl) hW ?_); clear hA ac hW; intro b1 w2 hW hb1 hfw2 ac hA
 refine st hA (by kernel_rfl) (by kernel_rfl) (by kernel_rfl) (Runs.cells (fun b => Value.pointer (some ⟨b, 0, none⟩)) #[Value.slice none 0 0] 51 (fun _ => by kernel_rfl) hW ?_); clear hA ac hW; intro b3 w4 hW hb3 hfw4 ac hA
 refine st_rd (v := Value.int .i64 0) hA (by kernel_rfl) (by kernel_rfl) (by kernel_rfl) hW.cls (Rd.pure fun _ => by kernel_rfl) ?_; clear hA ac; intro ac hA
 refine wpList_nil ?_
 refine thenN ?_
 refine wp_seq ?_
 refine wp_seq ?_
 refine wp_region_lit ?_
 refine st_rd (v := Value.agg #[Value.slice A_V V.length c_V]) hA (by kernel_rfl) (by kernel_rfl) (by kernel_rfl) hW.cls (Rd.load (b := b1) (i := 0) (by kernel_rfl) (fun _ hw => (hw.1).cel 1 rfl) (by kernel_rfl)) ?_; clear hA ac; intro ac hA
 refine st_rd (v := Value.int .i64 h) hA (by kernel_rfl) (by kernel_rfl) (by kernel_rfl) hW.cls (Rd.pure fun _ => by kernel_rfl) ?_; clear hA ac; intro ac hA
 refine st hA (by kernel_rfl) (by kernel_rfl) (by kernel_rfl) (Runs.callN (v := Value.bool (thereP (pv V) (h))) (fun _ => by kernel_rfl) hW (e_rthere A_V c_V V (h) w4 ((hW).getG 1 rfl) (by first | assumption | omega | (simp; omega) | simp) ((hW).getG 0 rfl) hk_V (by first | omega | simp)) ?_); clear hA ac hW; intro w5 hW hfw5 ac hA
 refine st_rd (v := Value.bool (!(thereP (pv V) (h)))) hA (by kernel_rfl) (by kernel_rfl) (by kernel_rfl) hW.cls (Rd.pure fun _ => by kernel_rfl) ?_; clear hA ac; intro ac hA
 refine wpList_nil ?_
 refine thenN ?_
 refine wp_cond_split (t := !(thereP (pv V) (h))) (hA.eval (by kernel_rfl)) (fun h6 => ?_) (fun h6 => ?_)
 · skip
   have h6 := not_t h6
   first
   | (exfalso; clear hA hW; omega)
   | (
     refine wp_seq ?_
     refine wp_region_lit ?_
     refine st_rd (v := Value.agg #[Value.slice A_V V.length c_V]) hA (by kernel_rfl) (by kernel_rfl) (by kernel_rfl) hW.cls (Rd.load (b := b1) (i := 0) (by kernel_rfl) (fun _ hw => (hw.1).cel 1 rfl) (by kernel_rfl)) ?_; clear hA ac; intro ac hA
     refine st hA (by kernel_rfl) (by kernel_rfl) (by kernel_rfl) (Runs.store (v := Value.agg #[Value.slice A_V V.length c_V]) (b := b3) (j := 0) (n := 1) (cs' := #[Value.slice A_V V.length c_V]) (H' := [Cel b3 #[Value.slice A_V V.length c_V] 51, Cel b1 #[Value.slice A_V V.length c_V] 51]) (by kernel_rfl) (by kernel_rfl) (by kernel_rfl) (by kernel_rfl) (by kernel_rfl) hW 0 (by rfl) (Nat.le_of_ble_eq_true (by kernel_rfl)) (by kernel_rfl) (by rfl) ?_); clear hA ac hW; intro w7 hW ac hA
     refine st_rd (v := Value.int .i64 5) hA (by kernel_rfl) (by kernel_rfl) (by kernel_rfl) hW.cls (Rd.pure fun _ => by kernel_rfl) ?_; clear hA ac; intro ac hA
     refine wpList_nil ?_
     refine thenN ?_
     refine wp_ret ?_
     refine thenR ?_
     refine ret2 (v1 := Value.agg #[Value.slice A_V V.length c_V]) (v2 := Value.int .i64 5) (by rfl) hA (Got.cell (b := b3) (i := 0) hA (by kernel_rfl) (by kernel_rfl) (hW.cel 0 rfl) (by kernel_rfl)) (Got.tmp hA (by kernel_rfl) (by kernel_rfl)) ?_
     clear hA
     exact ⟨V, 5, A_V, c_V, by first | rfl | (simp; done), by unfold FreePR; rw [if_pos h6]; exact ⟨rfl, rfl⟩, (by first | assumption | omega | (simp; omega) | simp), hk_V, (hW.outSrc 1 rfl (src_arg (.head _))), (hW.outSrc 0 rfl (src_arg (.tail _ (.head _)))), hW.fr⟩)
 · skip
   have h6 := not_f h6
   first
   | (exfalso; clear hA hW; omega)
   | (
     refine wp_skip ?_
     refine thenN ?_
     refine wp_seq ?_
     have hle_ := there_le h6; rw [pv_len] at hle_
     refine wp_region_lit ?_
     refine st_rd (v := Value.agg #[Value.slice A_V V.length c_V]) hA (by kernel_rfl) (by kernel_rfl) (by kernel_rfl) hW.cls (Rd.load (b := b1) (i := 0) (by kernel_rfl) (fun _ hw => (hw.1).cel 1 rfl) (by kernel_rfl)) ?_; clear hA ac; intro ac hA
     refine st_rd (v := Value.int .i64 h) hA (by kernel_rfl) (by kernel_rfl) (by kernel_rfl) hW.cls (Rd.pure fun _ => by kernel_rfl) ?_; clear hA ac; intro ac hA
     refine st_rd (v := Value.agg #[Value.bool false, Value.slice none 0 0]) hA (by kernel_rfl) (by kernel_rfl) (by kernel_rfl) hW.cls (Rd.pure fun _ => by kernel_rfl) ?_; clear hA ac; intro ac hA
     refine st hA (by kernel_rfl) (by kernel_rfl) (by kernel_rfl) (Runs.call (fun _ => by kernel_rfl) (e_rwith A_V c_V V (h) false none 0 ([] : List One) w5 ((hW).getG 1 rfl) (by first | assumption | omega | (simp; omega) | simp) ((hW).getG 0 rfl) hk_V (RowAt.nil' _ _) (by first | assumption | omega | (simp; omega) | simp) (by first | omega | simp) (by first | omega | simp) (by first | omega | simp)) ?_)
     rintro _ w8 ⟨g9, Ao10, co11, rfl, hw8_hW, hcco11, hkco11, hfco11, hnfco11, hfw8⟩; refine ⟨_, rfl, ?_⟩; have hW0 := hW; have hW := hW0.call hfw8
     have hW := hW0.addFromAt hW hfco11 (in_cons (in_at 1 rfl) (in_cons (in_at 0 rfl) (in_cons in_none in_nil)))
     have hsco11 : Res.src (roR Ao10 2 enVecE g9) [roR A_V 2 enVecE V, nestR innerVecE V] w := src_call hfco11 (srcs_cons (src_arg (.head _)) (srcs_cons (src_arg (.tail _ (.head _))) (srcs_cons src_nil srcs_nil))) hW0.fr.size
     have hW := hW0.addFromAt hW hnfco11 (in_cons (in_at 1 rfl) (in_cons (in_at 0 rfl) (in_cons in_none in_nil)))
     have hsnco11 : Res.src (nestR innerVecE g9) [roR A_V 2 enVecE V, nestR innerVecE V] w := src_call hnfco11 (srcs_cons (src_arg (.head _)) (srcs_cons (src_arg (.tail _ (.head _))) (srcs_cons src_nil srcs_nil))) hW0.fr.size
     clear hW0 hA ac; intro ac hA
     refine st hA (by kernel_rfl) (by kernel_rfl) (by kernel_rfl) (Runs.store (v := Value.agg #[Value.slice Ao10 (g9).length co11]) (b := b3) (j := 0) (n := 1) (cs' := #[Value.slice Ao10 (g9).length co11]) (H' := [Cel b3 #[Value.slice Ao10 (g9).length co11] 51, Cel b1 #[Value.slice A_V V.length c_V] 51]) (by kernel_rfl) (by kernel_rfl) (by kernel_rfl) (by kernel_rfl) (by kernel_rfl) hW 0 (by rfl) (Nat.le_of_ble_eq_true (by kernel_rfl)) (by kernel_rfl) (by rfl) ?_); clear hA ac hW; intro w12 hW ac hA
     refine st_rd (v := Value.int .i64 0) hA (by kernel_rfl) (by kernel_rfl) (by kernel_rfl) hW.cls (Rd.pure fun _ => by kernel_rfl) ?_; clear hA ac; intro ac hA
     refine wpList_nil ?_
     refine thenN ?_
     refine wp_ret ?_
     refine ret2 (v1 := Value.agg #[Value.slice Ao10 (g9).length co11]) (v2 := Value.int .i64 0) (by rfl) hA (Got.cell (b := b3) (i := 0) hA (by kernel_rfl) (by kernel_rfl) (hW.cel 0 rfl) (by kernel_rfl)) (Got.tmp hA (by kernel_rfl) (by kernel_rfl)) ?_
     clear hA
     exact ⟨g9, 0, Ao10, co11, by first | rfl | (simp; done), by unfold FreePR; rw [if_neg (by rw [h6]; simp)]; exact ⟨hw8_hW, rfl⟩, (by first | assumption | omega | (simp; omega) | simp), hkco11, (hW.outSrc 1 rfl hsco11), (hW.outSrc 0 rfl hsnco11), hW.fr⟩)

set_option maxRecDepth 100000 in
theorem e_rall (A_V : Option Addr) (c_V : Nat) (V : List VecE) (h : Int) (w : World) (hr_V : RowAt w A_V 2 enVecE V) (hc_V : V.length ≤ c_V) (hn_V : (nestR innerVecE V).p w) (hk_V : ∀ x_ ∈ V, capVecE x_) (hl : V.length ≤ 1000) : Calls Try.prog 39 #[Value.agg #[Value.slice A_V V.length c_V], Value.int .i64 h] w (fun e w' => ∃ l' : List One, ∃ (A_o : Option Addr) (c_o : Nat), e = .returned (Value.slice A_o (l').length c_o) ∧ (l' = allP (pv V) h) ∧ (l').length ≤ c_o ∧ (roR A_o 4 enOne l').from_ [roR A_V 2 enVecE V, nestR innerVecE V] w w' ∧ Fr No w w') := by
 have _hu := hc_V; have _hv := hr_V; clear _hu _hv
 have _hu := hk_V; have _hv := hn_V; clear _hu _hv
 have _hu := hl; clear _hu
 refine enter_E 16 Try.func39 rfl rfl (by kernel_rfl) (L := [(0, Value.agg #[Value.slice A_V V.length c_V]), (1, Value.int .i64 h)]) (by kernel_rfl) ?_
 intro ac hA
 have hW := Ws.start w No
 have hW := hW.arg hr_V
 have hW := hW.addG _ hn_V (nest_ltVecE hn_V) (by simp)
 refine wp_seq ?_
 refine wp_region_lit ?_
 refine st hA (by kernel_rfl) (by kernel_rfl) (by kernel_rfl) (Runs.cells (fun b => Value.pointer (some ⟨b, 0, none⟩)) #[Value.slice A_V V.length c_V] 51 (fun _ => by kernel_rfl) hW ?_); clear hA ac hW; intro b1 w2 hW hb1 hfw2 ac hA
 refine st_rd (v := Value.slice none 0 0) hA (by kernel_rfl) (by kernel_rfl) (by kernel_rfl) hW.cls (Rd.pure fun _ => by kernel_rfl) ?_; clear hA ac; intro ac hA
 refine wpList_nil ?_
 refine thenN ?_
 refine wp_seq ?_
 refine wp_seq ?_
 refine wp_region_lit ?_
 refine st_rd (v := Value.agg #[Value.slice A_V V.length c_V]) hA (by kernel_rfl) (by kernel_rfl) (by kernel_rfl) hW.cls (Rd.load (b := b1) (i := 0) (by kernel_rfl) (fun _ hw => (hw.1).cel 0 rfl) (by kernel_rfl)) ?_; clear hA ac; intro ac hA
 refine st_rd (v := Value.int .i64 h) hA (by kernel_rfl) (by kernel_rfl) (by kernel_rfl) hW.cls (Rd.pure fun _ => by kernel_rfl) ?_; clear hA ac; intro ac hA
 refine st hA (by kernel_rfl) (by kernel_rfl) (by kernel_rfl) (Runs.callN (v := Value.bool (thereP (pv V) (h))) (fun _ => by kernel_rfl) hW (e_rthere A_V c_V V (h) w2 ((hW).getG 1 rfl) (by first | assumption | omega | (simp; omega) | simp) ((hW).getG 0 rfl) hk_V (by first | omega | (simp; done))) ?_); clear hA ac hW; intro w3 hW hfw3 ac hA
 refine st_rd (v := Value.bool (!(thereP (pv V) (h)))) hA (by kernel_rfl) (by kernel_rfl) (by kernel_rfl) hW.cls (Rd.pure fun _ => by kernel_rfl) ?_; clear hA ac; intro ac hA
 refine wpList_nil ?_
 refine thenN ?_
 refine wp_cond_split (t := !(thereP (pv V) (h))) (hA.eval (by kernel_rfl)) (fun h4 => ?_) (fun h4 => ?_)
 · skip
   have h4 := not_t h4
   first
   | (exfalso; clear hA hW; omega)
   | (
     refine wp_seq ?_
     refine wp_region_lit ?_
     refine st_rd (v := Value.slice none 0 0) hA (by kernel_rfl) (by kernel_rfl) (by kernel_rfl) hW.cls (Rd.pure fun _ => by kernel_rfl) ?_; clear hA ac; intro ac hA
     refine wpList_nil ?_
     refine thenN ?_
     refine wp_ret ?_
     refine thenR ?_
     refine ret1 (v := Value.slice none 0 0) (by rfl) hA (Got.tmp hA (by kernel_rfl) (by kernel_rfl)) ?_
     clear hA
     exact ⟨[], none, 0, by first | rfl | (simp; done), by exact (all_no h4).symm, (by simp), from_nil, hW.fr⟩)
 · skip
   have h4 := not_f h4
   first
   | (exfalso; clear hA hW; omega)
   | (
     refine wp_skip ?_
     refine thenN ?_
     refine wp_seq ?_
     have hle_ := there_le h4; rw [pv_len] at hle_
     refine wp_region_lit ?_
     refine st_rd (v := Value.pointer (some ⟨b1, 0, none⟩)) hA (by kernel_rfl) (by kernel_rfl) (by kernel_rfl) hW.cls (Rd.pure fun _ => by kernel_rfl) ?_; clear hA ac; intro ac hA
     refine st_rd (v := Value.slice A_V V.length c_V) hA (by kernel_rfl) (by kernel_rfl) (by kernel_rfl) hW.cls (Rd.load (b := b1) (i := 0) (by kernel_rfl) (fun _ hw => (hw.1).cel 0 rfl) (by kernel_rfl)) ?_; clear hA ac; intro ac hA
     refine st_rd (v := Value.int .i64 h) hA (by kernel_rfl) (by kernel_rfl) (by kernel_rfl) hW.cls (Rd.pure fun _ => by kernel_rfl) ?_; clear hA ac; intro ac hA
     refine st_rd (v := Value.int .i64 ((h : Int) - 1)) hA (by kernel_rfl) (by kernel_rfl) (by kernel_rfl) hW.cls (Rd.pureE (v0 := Value.int .i64 (IntKind.i64.wrap ((h : Int) - 1))) (fun _ => by kernel_rfl) (congrArg (Value.int .i64) ((w_i64 (x := (h : Int) - 1) (by omega) (by omega)).trans (by omega)))) ?_; clear hA ac; intro ac hA
     obtain ⟨y5, hy5⟩ : ∃ y, V[Int.toNat ((h : Int) - 1)]? = some y := ⟨_, List.getElem?_eq_getElem (by first | omega | (simp; done) | (simp; omega))⟩
     rcases y5 with ⟨y5_there, y5_l, y5_l_A, y5_l_c⟩
     obtain ⟨b6, o7, rfl, hbb6⟩ := row_some ((hW).getG 1 rfl) hy5
     refine st_rd (v := Value.pointer (some ⟨b6, o7 + (Int.toNat ((h : Int) - 1)) * 2, none⟩)) hA (by kernel_rfl) (by kernel_rfl) (by kernel_rfl) hW.cls (Rd.indexAddrI (e := 112) (sz := 2) (b := b6) (off := o7) (n := V.length) (c := c_V) (k := (h : Int) - 1) (by kernel_rfl) (by kernel_rfl) (by omega) (by first | omega | (simp; done) | (simp; omega)) (fun _ => by kernel_rfl) (fun _ => by kernel_rfl)) ?_; clear hA ac; intro ac hA
     refine st_rd (v := Value.pointer (some ⟨b6, o7 + (Int.toNat ((h : Int) - 1)) * 2 + 1, none⟩)) hA (by kernel_rfl) (by kernel_rfl) (by kernel_rfl) hW.cls (Rd.pure fun _ => by kernel_rfl) ?_; clear hA ac; intro ac hA
     have hW := hW.nestAt 0 rfl (List.mem_of_getElem? hy5)
     have hc_y5_l : y5_l.length ≤ y5_l_c := hk_V _ (List.mem_of_getElem? hy5)
     have hsy5_l : Res.src (roR y5_l_A 4 enOne y5_l) [roR (some ⟨b6, o7, none⟩) 2 enVecE V, nestR innerVecE V] w := nsrc_at (inner := innerVecE) (x := (⟨y5_there, y5_l, y5_l_A, y5_l_c⟩ : VecE)) (src_arg (.tail _ (.head _))) (List.mem_of_getElem? hy5)
     replace hW : Ws w No [Cel b1 #[Value.slice (some ⟨b6, o7, none⟩) V.length c_V] 51] [roR y5_l_A 4 enOne y5_l, nestR innerVecE V, roR (some ⟨b6, o7, none⟩) 2 enVecE V] w3 := hW
     refine st_rd (v := Value.slice y5_l_A y5_l.length y5_l_c) hA (by kernel_rfl) (by kernel_rfl) (by kernel_rfl) hW.cls (Rd.loadRow (b := b6) (i := o7 + (Int.toNat ((h : Int) - 1)) * 2 + 1) (xs := [Value.slice y5_l_A y5_l.length y5_l_c]) (by kernel_rfl) (fun _ hw => row_ld ((hw.1).getG 2 rfl) hy5 (Fr.refl No _) (fun h => h) 1 1 (by kernel_rfl)) (by kernel_rfl)) ?_; clear hA ac; intro ac hA
     refine st_rd (v := Value.slice y5_l_A y5_l.length y5_l_c) hA (by kernel_rfl) (by kernel_rfl) (by kernel_rfl) hW.cls (Rd.pure fun _ => by kernel_rfl) ?_; clear hA ac; intro ac hA
     refine wpList_nil ?_
     refine thenN ?_
     refine wp_ret ?_
     refine ret1 (v := Value.slice y5_l_A y5_l.length y5_l_c) (by rfl) hA (Got.tmp hA (by kernel_rfl) (by kernel_rfl)) ?_
     clear hA
     exact ⟨y5_l, y5_l_A, y5_l_c, by first | rfl | (simp; done), by exact (all_at h4 hy5).symm, (by first | assumption | omega | (simp; omega) | simp), (hW.outSrc 0 rfl hsy5_l), hW.fr⟩)

end Go.Proofs.Ytobbocpacacnhaa.L
