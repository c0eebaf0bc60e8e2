/- Contracts, walked by program over the engine's laws. -/
import Derived.Test.YtobbocpacacnhaaProg
import Derived.Test.YtobbocpacacnhaaT6
namespace Go.Proofs.Ytobbocpacacnhaa.L
open Go.RowKit

theorem make_1 {h : Int} {V : VT23} (hM : MakeR [] h V) : h = 1 ∧ vals V = [(1, [])] := by
  obtain ⟨h1, h2, -, -, b, rfl⟩ := hM
  obtain rfl : h = 1 := by simp at h2; omega
  exact ⟨rfl, rfl⟩
theorem make_end {h : Int} {V V' : VT23} {M : List (Int × MarkM)} (hv : vals V = M) (hM : MakeR V h V') : vals V' = M ++ [(h, [])] ∧ 1 ≤ h ∧ h ≤ M.length + 1 ∧ look M h = none ∧ ∀ j, 1 ≤ j → j < h → (look M j).isSome = true := by
  subst hv
  obtain ⟨h1, h2, h3, h4, b, rfl⟩ := hM
  exact ⟨vals_snoc _ _ _, h1, by rw [vals_len]; exact h2, h3, h4⟩
theorem free_yes {h er : Int} {V V' : VT23} {M : List (Int × MarkM)} (hv : vals V = M) (hM : FreeR V h V' er) (hl : (look M h).isSome = true) : er = 0 ∧ vals V' = del M h := by
  subst hv
  unfold FreeR at hM; rw [if_pos hl] at hM
  obtain ⟨rfl, rfl⟩ := hM
  exact ⟨rfl, vals_delV⟩
theorem free_no {h er : Int} {V V' : VT23} {M : List (Int × MarkM)} (hv : vals V = M) (hM : FreeR V h V' er) (hl : (look M h).isSome = false) : er = 5 ∧ vals V' = M := by
  subst hv
  unfold FreeR at hM; rw [if_neg (by rw [hl]; simp)] at hM
  obtain ⟨rfl, rfl⟩ := hM
  exact ⟨rfl, rfl⟩
theorem mark_yes {h id er : Int} {m : Mark} {c : MarkM} {V V' : VT23} {M : List (Int × MarkM)} (hv : vals V = M) (hn : (keys M).Nodup) (hM : MarkR V h id m V' er) (hf : fineM id m = true) (hl : look M h = some c) : er = 0 ∧ vals V' = put M h (put c id m) := by
  subst hv
  unfold MarkR at hM; rw [if_neg (by rw [hf]; simp), hl] at hM
  obtain ⟨i, b, hi, rfl, rfl⟩ := hM
  exact ⟨rfl, vals_set hn hi⟩
theorem sorted_12 {ks : List Int} (hp : ks.Perm [2, 1]) (hs : ks.Pairwise fun x y => x ≤ y) : ks = [1, 2] := by
  have hl := hp.length_eq
  match ks, hl with
  | [a, b], _ =>
    have ha := (hp.mem_iff (a := a)).1 (by simp)
    have hb := (hp.mem_iff (a := b)).1 (by simp)
    have h1 := (hp.mem_iff (a := 1)).2 (by simp)
    have h2 := (hp.mem_iff (a := 2)).2 (by simp)
    simp at ha hb h1 h2 hs
    have : a = 1 := by omega
    have : b = 2 := by omega
    subst a b; rfl
theorem bey_one {m : Mark} {c : List Int} {id : Int} {mk : Mark} {is : Bool} {i : Int} (h : BeyR (some [(i, m)]) c id mk is) : (is = decide (m.clock > getC c i)) ∧ (m.clock > getC c i → id = i ∧ mk = m) := by
  obtain ⟨ks, hp, -, hf⟩ := h
  obtain rfl : ks = [i] := by
    have : ks.Perm [i] := hp
    exact List.perm_singleton.1 this
  have e : markAt ((some [(i, m)] : Option MarkM).getD []) i = m := by simp [markAt, look]
  by_cases q : m.clock > getC c i
  · rw [List.find?_cons_of_pos (by rw [e]; exact decide_eq_true q)] at hf
    obtain ⟨rfl, hmk, rfl⟩ := hf
    rw [e] at hmk; subst hmk
    exact ⟨(decide_eq_true q).symm, fun _ => ⟨rfl, rfl⟩⟩
  · rw [List.find?_cons_of_neg (by rw [e, decide_eq_false q]; simp)] at hf
    obtain ⟨-, -, rfl⟩ := hf
    exact ⟨(decide_eq_false q).symm, fun h => absurd h q⟩
theorem vals_all {V : VT23} {M : List (Int × MarkM)} {p : Int → MarkM → Prop} (hv : vals V = M) (h : ∀ x ∈ M, p x.1 x.2) : ∀ e ∈ V, p e.1 e.2.2 := fun e he => by
  subst hv
  exact h (e.1, e.2.2) (List.mem_map.2 ⟨e, he, rfl⟩)
theorem e_first3 (a : Ask) (A : Option Addr) (c : Nat) (w : World) (hr : RowAt w A 2 enAsk [⟨true, 1⟩, a]) (hc : 2 ≤ c) : Calls Try.prog 26 #[.slice A 2 c] w fun e w' => e = .returned (.int .i64 1) ∧ Fr No w w' := e_first A c [⟨true, 1⟩, a] w hr hc (by simp)

end Go.Proofs.Ytobbocpacacnhaa.L
