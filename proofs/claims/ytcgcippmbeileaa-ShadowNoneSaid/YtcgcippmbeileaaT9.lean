/- Contracts, walked by program over the engine's laws. -/
import Derived.Test.YtcgcippmbeileaaProg
import Derived.Test.YtcgcippmbeileaaT8
import Derived.Sort.AssemblyPlain
namespace Go.Proofs.Ytcgcippmbeileaa.L
open Go.RowKit

theorem e_pdq_all : ∀ (N : Nat) (A_l : Option Addr) (n_l c_l : Nat) (l : List Int) (a b limit : Nat) (w : World) (_ : (srtR A_l n_l c_l l).p w) (_ : ∀ x_ ∈ (srtR A_l n_l c_l l).fp, x_ < w.heap.size) (_ : a ≤ b ∧ b ≤ l.length ∧ b < a + 50 ∧ limit ≤ 1000) (_ : l.length ≤ 100000) (_ : b - a ≤ N), Calls Try.prog 51 #[Value.slice A_l n_l c_l, Value.int .i64 ((a : Nat) : Int), Value.int .i64 ((b : Nat) : Int), Value.int .i64 ((limit : Nat) : Int)] w (fun e w' => ∃ l' : List Int, e = .returned (Value.tuple #[]) ∧ (l'.toArray = Sort.pdq Sort.ltInt l.toArray a b limit true true) ∧ (l'.length = l.length) ∧ Upd (srtR A_l n_l c_l l) (srtR A_l n_l c_l l') w w')
  | 0, A_l, n_l, c_l, l, a, b, limit, w, ho, hl, hb, hsz, hN => e_pdq0 0 A_l n_l c_l l a b limit w ho hl hb hsz hN (fun _ _ _ _ _ _ _ _ _ _ _ _ h => absurd h (Nat.not_lt_zero _))
  | N + 1, A_l, n_l, c_l, l, a, b, limit, w, ho, hl, hb, hsz, hN => e_pdq0 (N + 1) A_l n_l c_l l a b limit w ho hl hb hsz hN (fun A n c l a b limit w p q r s h => e_pdq_all N A n c l a b limit w p q r s (Nat.le_of_lt_succ h))
theorem e_pdq (A_l : Option Addr) (n_l c_l : Nat) (l : List Int) (a b limit : Nat) (w : World) (ho : (srtR A_l n_l c_l l).p w) (hl : ∀ x_ ∈ (srtR A_l n_l c_l l).fp, x_ < w.heap.size) (hb : a ≤ b ∧ b ≤ l.length ∧ b < a + 50 ∧ limit ≤ 1000) (hsz : l.length ≤ 100000) : Calls Try.prog 51 #[Value.slice A_l n_l c_l, Value.int .i64 ((a : Nat) : Int), Value.int .i64 ((b : Nat) : Int), Value.int .i64 ((limit : Nat) : Int)] w (fun e w' => ∃ l' : List Int, e = .returned (Value.tuple #[]) ∧ (l'.toArray = Sort.pdq Sort.ltInt l.toArray a b limit true true) ∧ (l'.length = l.length) ∧ Upd (srtR A_l n_l c_l l) (srtR A_l n_l c_l l') w w') := e_pdq_all (b - a) A_l n_l c_l l a b limit w ho hl hb hsz (Nat.le_refl _)
theorem sort_fin {l l' : List Int} {n lim : Nat} (hn : n = l.length) (h : l'.toArray = Sort.pdq Sort.ltInt l.toArray 0 n lim true true) : l'.Perm l ∧ l'.Pairwise fun x y => x ≤ y := by
  subst hn
  obtain ⟨⟨hsz, -, hp⟩, hs⟩ := Sort.pdq_sorts Sort.ltInt Sort.swo_ltInt l.toArray 0 l.length lim true true (Nat.zero_le _) (by simp) (.inl rfl)
  rw [← h] at hsz hp hs
  have hlen : l'.length = l.length := by simpa using hsz
  refine ⟨?_, List.pairwise_iff_getElem.2 fun i j hi hj hij => ?_⟩
  · have e1 : (l'.toArray.extract 0 l.length).toList = l' := by rw [← hlen]; simp
    have e2 : (l.toArray.extract 0 l.length).toList = l := by simp
    rwa [e1, e2] at hp
  · have := hs i j (Nat.zero_le _) hij (by omega)
    rw [arr_at (List.getElem?_eq_getElem hi), arr_at (List.getElem?_eq_getElem hj), ltI, decide_eq_false_iff_not] at this
    omega
set_option maxRecDepth 100000 in
theorem e_sort (A_l : Option Addr) (n_l c_l : Nat) (l : List Int) (w : World) (ho_l : (srtR A_l n_l c_l l).p w) (hl_l : ∀ x_ ∈ (srtR A_l n_l c_l l).fp, x_ < w.heap.size) (hsz : l.length < 50) : Calls Try.prog 43 #[Value.slice A_l n_l c_l] w (fun e w' => ∃ l' : List Int, e = .returned (Value.tuple #[]) ∧ (l'.Perm l) ∧ (l'.Pairwise fun x y => x ≤ y) ∧ Upd (srtR A_l n_l c_l l) (srtR A_l n_l c_l l') w w') := by
 have _hu := ho_l; have _hv := hl_l; clear _hu _hv
 have _hu := hsz; clear _hu
 refine enter_E 11 Try.func43 rfl rfl (by kernel_rfl) (L := [(0, Value.slice A_l n_l c_l)]) (by kernel_rfl) ?_
 intro ac hA
 have hW : Ws w (· ∈ (srtR A_l n_l c_l l).fp) [rowR 35 1 enU4 (Value.slice A_l n_l c_l) l] [] w := objW ho_l hl_l
 clear ho_l hl_l
 have hn_l : n_l = l.length := rowR_n (hW.get 0 rfl)
 refine wp_seq ?_
 refine wp_region_lit ?_
 refine st_p (Value.slice A_l n_l c_l) hA ?_; clear hA ac; intro ac hA
 refine st_p (Value.int .i64 ((n_l : Nat) : Int)) hA ?_; clear hA ac; intro ac hA
 refine st_p (Value.int .i64 ((n_l : Nat) : Int)) hA ?_; clear hA ac; intro ac hA
 refine wpList_nil ?_
 refine thenN ?_
 have hbl_ : Sort.bitsLen n_l ≤ 6 := (Sort.bitsLen_le_iff n_l 6).2 (by omega)
 refine wp_region_lit ?_
 refine st_p (Value.slice A_l n_l c_l) hA ?_; clear hA ac; intro ac hA
 refine st_p (Value.int .i64 ((n_l : Nat) : Int)) hA ?_; clear hA ac; intro ac hA
 refine st_p (Value.int .i64 ((n_l : Nat) : Int)) hA ?_; clear hA ac; intro ac hA
 refine st_q (Value.int .u64 ((n_l : Nat) : Int)) hA hW.cls (Rd.pureE (v0 := Value.int .u64 (IntKind.u64.wrap (((n_l : Nat) : Int)))) (fun _ => by kernel_rfl) (congrArg (Value.int .u64) (w_u64 (x := ((n_l : Nat) : Int)) (by omega) (by omega)))) ?_; clear hA ac; intro ac hA
 refine st_s hA (Runs.callS (v := Value.int .i64 ((Sort.bitsLen (n_l) : Nat) : Int)) (fun _ => by kernel_rfl) (e_blen (n_l) w (by first | omega | assumption)) ?_); clear hA ac; intro  ac hA
 refine st_s hA (Runs.call (fun _ => by kernel_rfl) (e_pdq A_l n_l c_l l (0) (n_l) (Sort.bitsLen (n_l)) w ((hW).get 0 rfl) ((hW).lt _ (List.mem_of_getElem? (i := 0) rfl)) (by first | omega | assumption) (by first | omega | assumption)) ?_)
 rintro _ w1 ⟨u2, rfl, hw1_hA, hw1_hL, hu_⟩; refine ⟨_, rfl, ?_⟩; replace hW := hW.upd (H' := [rowR 35 1 enU4 (Value.slice A_l n_l c_l) u2]) 0 rfl hu_ rfl; clear hA ac; intro ac hA
 refine wpList_nil ?_
 refine ret0 (.inr rfl) rfl hA ?_
 clear hA
 exact ⟨u2, rfl, by exact (sort_fin hn_l hw1_hA).1, by exact (sort_fin hn_l hw1_hA).2, (hW.pick [0] (by decide) rfl).updDone 0 rfl⟩

end Go.Proofs.Ytcgcippmbeileaa.L
