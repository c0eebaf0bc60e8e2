/- Contracts, walked by program over the engine's laws. -/
import Derived.Test.YtcokpdlmahlpnaaProg
import Derived.Test.YtcokpdlmahlpnaaT20
namespace Go.Proofs.Ytcokpdlmahlpnaa.L
open Go.RowKit

theorem fix4_rng {n : Int} : ∀ x ∈ fix4 n, 0 ≤ x ∧ x ≤ 255 := by
  intro x hx; simp only [fix4, List.mem_cons, List.not_mem_nil, or_false] at hx; omega
theorem fix4_len {n : Int} : (fix4 n).length = 4 := rfl
/-- A word's bytes; words'. -/
def byt6 (c : Cell6) : List Int := fix4 c.addr ++ fix4 c.word
def bytes6 (L : List Cell6) : List Int := L.flatMap byt6
theorem bytes6_snoc {L : List Cell6} {k : Nat} {y : Cell6} (h : L[k]? = some y) : bytes6 (L.take (k + 1)) = bytes6 (L.take k) ++ (fix4 y.addr ++ fix4 y.word) := by
  unfold bytes6; rw [tk_snoc h, List.flatMap_append]; simp [byt6]
theorem bytes6_rng {L : List Cell6} : ∀ x ∈ bytes6 L, 0 ≤ x ∧ x ≤ 255 := by
  intro x hx
  obtain ⟨c, -, hx⟩ := List.mem_flatMap.1 hx
  rcases List.mem_append.1 hx with hx | hx <;> exact fix4_rng x hx
theorem bytes6_len (L : List Cell6) : (bytes6 L).length = 8 * L.length := by
  unfold bytes6
  induction L with
  | nil => rfl
  | cons c L ih => rw [List.flatMap_cons, List.length_append, ih]; simp [byt6, fix4]; omega
set_option maxRecDepth 100000 in
theorem e_dnum4 (d : Nat) (f : Nat → Int) (sum : Int) (many : Int) (n : Int) (w : World) (ho_p : (DigR d f sum many).p w) (hl_p : ∀ x_ ∈ (DigR d f sum many).fp, x_ < w.heap.size) (hn : 0 ≤ n ∧ n ≤ 4294967295) (hs : 0 ≤ sum ∧ sum ≤ 18446744073709551615) (hm : 0 ≤ many ∧ many ≤ 100000000) (hT : ∀ q, q < 256 → f q = bitsN 8 (q : Int)) : Calls Try.prog 32 #[Value.pointer (some ⟨d, 0, none⟩), Value.int .u64 n, Value.int .i64 4] w (fun e w' => e = .returned (Value.int .i64 0) ∧ Upd (DigR d f sum many) (DigR d f ((fix4 n).foldl byteStep sum) (many + ((fix4 n).length : Int))) w w') := by
 have _hu := ho_p; have _hv := hl_p; clear _hu _hv
 have _hu := hn; clear _hu
 have _hu := hs; clear _hu
 have _hu := hm; clear _hu
 have _hu := hT; clear _hu
 refine enter_E 23 Try.func32 rfl rfl (by kernel_rfl) (L := [(0, Value.pointer (some ⟨d, 0, none⟩)), (1, Value.int .u64 n), (2, Value.int .i64 4)]) (by kernel_rfl) ?_
 intro ac hA
 have hW : Ws w (· ∈ (DigR d f sum many).fp) [DigR d f sum many] [] w := objW ho_p hl_p
 clear ho_p hl_p
 refine wp_seq ?_
 refine wp_region_lit ?_
 refine st_rd (v := Value.int .i64 0) hA (by kernel_rfl) (by kernel_rfl) (by kernel_rfl) hW.cls (Rd.pure fun _ => by kernel_rfl) ?_; clear hA ac; intro ac hA
 refine wpList_nil ?_
 refine thenN ?_
 refine wp_fwd (l := 0) rfl ?_
 refine wp_seq ?_
 refine wp_region_lit ?_
 refine st_rd (v := Value.slice none 0 0) hA (by kernel_rfl) (by kernel_rfl) (by kernel_rfl) hW.cls (Rd.pure fun _ => by kernel_rfl) ?_; clear hA ac; intro ac hA
 refine wpList_nil ?_
 refine thenN ?_
 refine wp_seq ?_
 refine wp_seq ?_
 refine wp_region_lit ?_
 refine st_rd (v := Value.int .i64 1) hA (by kernel_rfl) (by kernel_rfl) (by kernel_rfl) hW.cls (Rd.pure fun _ => by kernel_rfl) ?_; clear hA ac; intro ac hA
 refine wpList_nil ?_
 refine thenN ?_
 refine wp_seq ?_
 refine wp_region_lit ?_
 refine st_rd (v := Value.pointer (some ⟨d, 0, none⟩)) hA (by kernel_rfl) (by kernel_rfl) (by kernel_rfl) hW.cls (Rd.pure fun _ => by kernel_rfl) ?_; clear hA ac; intro ac hA
 refine st hA (by kernel_rfl) (by kernel_rfl) (by kernel_rfl) (Runs.callN (v := Value.bool false) (fun _ => by kernel_rfl) hW (e_dnone d f sum many w ((hW).get 0 rfl) ((hW).lt _ (List.mem_of_getElem? (i := 0) rfl))) ?_); clear hA ac hW; intro w1 hW hfw1 ac hA
 refine wpList_nil ?_
 refine thenN ?_
 refine wp_cond_false (hA.eval (by kernel_rfl)) ?_
 refine wp_skip ?_
 refine thenN ?_
 refine wp_seq ?_
 refine wp_seq ?_
 refine wp_region_lit ?_
 refine st_rd (v := Value.int .u64 n) hA (by kernel_rfl) (by kernel_rfl) (by kernel_rfl) hW.cls (Rd.pure fun _ => by kernel_rfl) ?_; clear hA ac; intro ac hA
 refine st_rd (v := Value.int .i64 4) hA (by kernel_rfl) (by kernel_rfl) (by kernel_rfl) hW.cls (Rd.pure fun _ => by kernel_rfl) ?_; clear hA ac; intro ac hA
 refine st hA (by kernel_rfl) (by kernel_rfl) (by kernel_rfl) (Runs.call (fun _ => by kernel_rfl) (e_fixed4 (n) w1 (by first | assumption | omega | (rw [hlen_]; omega))) ?_)
 rintro _ w2 ⟨g3, Ao4, co5, rfl, hw2_hO, hcco5, hu_⟩; refine ⟨_, rfl, ?_⟩; replace hW := hW.made hu_; clear hA ac; intro ac hA
 have hrng_ : ∀ x ∈ g3, 0 ≤ x ∧ x ≤ 255 := by rw [hw2_hO]; exact fix4_rng
 have hlen_ : g3.length = 4 := by rw [hw2_hO]; rfl
 refine st_rd (v := Value.tuple #[Value.slice Ao4 (g3).length co5, Value.int .i64 0]) hA (by kernel_rfl) (by kernel_rfl) (by kernel_rfl) hW.cls (Rd.pure fun _ => by kernel_rfl) ?_; clear hA ac; intro ac hA
 refine st_rd (v := Value.slice Ao4 (g3).length co5) hA (by kernel_rfl) (by kernel_rfl) (by kernel_rfl) hW.cls (Rd.pure fun _ => by kernel_rfl) ?_; clear hA ac; intro ac hA
 refine st_rd (v := Value.int .i64 0) hA (by kernel_rfl) (by kernel_rfl) (by kernel_rfl) hW.cls (Rd.pure fun _ => by kernel_rfl) ?_; clear hA ac; intro ac hA
 refine st_rd (v := Value.slice Ao4 (g3).length co5) hA (by kernel_rfl) (by kernel_rfl) (by kernel_rfl) hW.cls (Rd.pure fun _ => by kernel_rfl) ?_; clear hA ac; intro ac hA
 refine st_rd (v := Value.int .i64 0) hA (by kernel_rfl) (by kernel_rfl) (by kernel_rfl) hW.cls (Rd.pure fun _ => by kernel_rfl) ?_; clear hA ac; intro ac hA
 refine wpList_nil ?_
 refine thenN ?_
 refine wp_seq ?_
 refine wp_region_lit ?_
 refine st_rd (v := Value.int .i64 0) hA (by kernel_rfl) (by kernel_rfl) (by kernel_rfl) hW.cls (Rd.pure fun _ => by kernel_rfl) ?_; clear hA ac; intro ac hA
 refine st_rd (v := Value.bool false) hA (by kernel_rfl) (by kernel_rfl) (by kernel_rfl) hW.cls (Rd.pure fun _ => by kernel_rfl) ?_; clear hA ac; intro ac hA
 refine wpList_nil ?_
 refine thenN ?_
 refine wp_cond_false (hA.eval (by kernel_rfl)) ?_
 refine wp_skip ?_
 refine thenN ?_
 refine wp_seq ?_
 refine wp_seq ?_
 refine wp_region_lit ?_
 refine st_rd (v := Value.pointer (some ⟨d, 0, none⟩)) hA (by kernel_rfl) (by kernel_rfl) (by kernel_rfl) hW.cls (Rd.pure fun _ => by kernel_rfl) ?_; clear hA ac; intro ac hA
 refine st_rd (v := Value.slice Ao4 (g3).length co5) hA (by kernel_rfl) (by kernel_rfl) (by kernel_rfl) hW.cls (Rd.pure fun _ => by kernel_rfl) ?_; clear hA ac; intro ac hA
 refine st hA (by kernel_rfl) (by kernel_rfl) (by kernel_rfl) (Runs.cells (fun b => Value.slice (some ⟨b, 0, none⟩) 1 1) #[Value.slice Ao4 (g3).length co5] 59 (fun _ => by kernel_rfl) hW ?_); clear hA ac hW; intro b7 w8 hW hb7 hfw8 ac hA
 have hW := hW.share 1 rfl (H' := [Cel b7 #[Value.slice Ao4 (g3).length co5] 59, DigR d f sum many]) rfl
 have hW := hW.nestG (roR Ao4 1 enB6 g3) (rowR_at (E := 5) (hW.getG 0 rfl) elt_B6.len) (fun _ hb_ => ⟨_, List.mem_of_getElem? (i := 0) rfl, rowR_fp _ hb_⟩)
 have hW := hW.share 0 rfl (H' := [DigR d f sum many]) rfl
 refine st hA (by kernel_rfl) (by kernel_rfl) (by kernel_rfl) (Runs.call (fun _ => by kernel_rfl) (e_dwrite d f sum many b7 Ao4 co5 g3 w8 ((hW).get 0 rfl) ((hW).lt _ (List.mem_of_getElem? (i := 0) rfl)) ((hW).getG 0 rfl) ((hW).getG 1 rfl) (by first | assumption | omega | (simp; omega) | simp) ((hW).gd _ (List.mem_of_getElem? (i := 1) rfl) _ (List.mem_of_getElem? (i := 0) rfl)) ((hW).gd _ (List.mem_of_getElem? (i := 0) rfl) _ (List.mem_of_getElem? (i := 0) rfl)) (by first | assumption | omega | (rw [hlen_]; omega)) (by first | assumption | omega | (rw [hlen_]; omega)) (by first | assumption | omega | (rw [hlen_]; omega)) (by first | assumption | omega | (rw [hlen_]; omega)) (by first | assumption | omega | (rw [hlen_]; omega))) ?_)
 rintro _ w9 ⟨rfl, hu_⟩; refine ⟨_, rfl, ?_⟩; replace hW := hW.upd (H' := [DigR d f (g3.foldl byteStep sum) (many + (g3.length : Int))]) 0 rfl hu_ rfl; clear hA ac; intro ac hA
 refine st_rd (v := Value.int .i64 0) hA (by kernel_rfl) (by kernel_rfl) (by kernel_rfl) hW.cls (Rd.pure fun _ => by kernel_rfl) ?_; clear hA ac; intro ac hA
 refine wpList_nil ?_
 refine thenN ?_
 refine wp_ret ?_
 refine thenR ?_
 refine fwdR ?_
 refine ret1 (v := Value.int .i64 0) (by rfl) hA (Got.tmp hA (by kernel_rfl) (by kernel_rfl)) ?_
 clear hA
 have hW := (hW.pick [0] (by decide) rfl).pickG [] rfl; rw [hw2_hO] at hW
 replace hW : Ws w (· ∈ (DigR d f sum many).fp) [DigR d f ((fix4 n).foldl byteStep sum) (many + ((fix4 n).length : Int))] [] w9 := hW
 exact ⟨rfl, hW.updDone 0 rfl⟩

end Go.Proofs.Ytcokpdlmahlpnaa.L
