/- Contracts, walked by program over the engine's laws. -/
import Derived.Test.YtefmglgejjaipaaGreatDoorProg
import Derived.Test.YtefmglgejjaipaaGreatDoorT19
namespace Go.Proofs.YtefmglgejjaipaaGreatDoor.L
open Go.RowKit

structure Pr where
  i : Int
  j : Int
deriving DecidableEq
def Pr.v (x : Pr) : Value := .agg #[.int .i64 x.i, .int .i64 x.j]
def enPr (x : Pr) : List Value := [.int .i64 x.i, .int .i64 x.j]
theorem elt_Pr : Elt Tryz.prog 41 2 enPr := ⟨⟨Value.agg #[Value.int .i64 0, Value.int .i64 0], 16, by kernel_rfl, rfl, by decide⟩, by decide, fun _ => rfl, fun x u hu => List.all_eq_true.1 (show (enPr x).all (·.oneCell') = true from rfl) u hu⟩
set_option maxRecDepth 100000 in
theorem eqIn_Pr (d : Nat) (a b : Pr) (w : World) : (Op.equalIn (d + 2) 41 a.v b.v).run Tryz.prog w = .ok (decide (a = b)) w := by
  have h := eq_struct (P := Tryz.prog) (d := d + 1) (t := 41) (u := a.v) (v := b.v) rfl rfl (by kernel_rfl) (by kernel_rfl) (eqF_cons { name := "I", type := 3, offset := 0, embedded := false, tag := "", pkgPath := "", byteOffset := 0 } (fs := [{ name := "J", type := 3, offset := 1, embedded := false, tag := "", pkgPath := "", byteOffset := 8 }]) (u := Value.int .i64 a.i) (v := Value.int .i64 b.i) (r := (a.i == b.i)) (by kernel_rfl) (by decide) (fun _ => by kernel_rfl) (fun _ => by kernel_rfl) (fun _ => by kernel_rfl) (eqF_cons { name := "J", type := 3, offset := 1, embedded := false, tag := "", pkgPath := "", byteOffset := 8 } (fs := []) (u := Value.int .i64 a.j) (v := Value.int .i64 b.j) (r := (a.j == b.j)) (by kernel_rfl) (by decide) (fun _ => by kernel_rfl) (fun _ => by kernel_rfl) (fun _ => by kernel_rfl) (eqF_nil (by kernel_rfl)))) w
  rw [h]; congr 1
  obtain ⟨x0, x1⟩ := a; obtain ⟨y0, y1⟩ := b; rw [Bool.eq_iff_iff]; simp
theorem eq_Pr (w : World) (a b : Pr) : (Op.equal 41 a.v b.v).run Tryz.prog w = .ok (decide (a = b)) w := eqIn_Pr 9998 a b w
theorem Pr.eqi (a b : Pr) : a = b ↔ a.i = b.i ∧ a.j = b.j := by
  obtain ⟨x0, x1⟩ := a; obtain ⟨y0, y1⟩ := b; simp
def clF (L : List Event) (i j q : Nat) : Bool := !(decide (i < q) && (befE L (q : Int) (j : Int) && befE L (i : Int) (q : Int)))
def clB (L : List Event) (i j : Nat) : Bool := befE L (i : Int) (j : Int) && (List.range j).all (clF L i j)
def rclJ (L : List Event) (j : Nat) (n : Nat) : List Pr := ((List.range n).filter fun i => clB L i j).map fun i : Nat => (⟨(i : Int), (j : Int)⟩ : Pr)
def rclP (L : List Event) (n : Nat) : List Pr := (List.range n).flatMap fun j => rclJ L j j
theorem rclP_snoc (L : List Event) (n : Nat) : rclP L (n + 1) = rclP L n ++ rclJ L n n := by unfold rclP; rw [List.range_succ, List.flatMap_append]; simp
theorem rclJ_snoc (L : List Event) (j n : Nat) : rclJ L j (n + 1) = rclJ L j n ++ if clB L n j = true then [(⟨(n : Int), (j : Int)⟩ : Pr)] else [] := by
  unfold rclJ; rw [List.range_succ, List.filter_append, List.map_append]; congr 1
  by_cases h : clB L n j = true
  · rw [if_pos h]; simp [h]
  · rw [if_neg h]; simp [h]
theorem rclJ_len (L : List Event) (j n : Nat) : (rclJ L j n).length ≤ n := by unfold rclJ; rw [List.length_map]; exact Nat.le_trans (List.length_filter_le _ _) (by simp)
theorem rclP_len (L : List Event) : ∀ n : Nat, n ≤ 100 → (rclP L n).length ≤ n * 100
  | 0, _ => by simp [rclP]
  | n + 1, h => by have := rclP_len L n (by omega); have := rclJ_len L n n; rw [rclP_snoc, List.length_append]; omega
theorem all_small (L : List Event) (i j : Nat) : (List.range (i + 1)).all (clF L i j) = true := by
  rw [List.all_eq_true]; intro q hq; have := List.mem_range.1 hq; unfold clF; rw [decide_eq_false (by omega)]; rfl
theorem cl_step {b : Bool} {k : Nat} {f : Nat → Bool} (h : true = (b && (List.range k).all f)) : f k = (b && (List.range (k + 1)).all f) := by
  rw [eq_comm, Bool.and_eq_true] at h
  rw [List.range_succ, List.all_append, h.1, h.2]; simp
theorem cl_stop {L : List Event} {i j k : Nat} (h : (befE L (i : Int) (j : Int) && (List.range k).all (clF L i j)) = false) (hk : k ≤ j) : clB L i j = false := by
  unfold clB
  rw [Bool.and_eq_false_iff] at h ⊢
  rcases h with h | h
  · exact .inl h
  · refine .inr ?_
    rw [List.all_eq_false] at h ⊢
    obtain ⟨q, hq, hf⟩ := h
    exact ⟨q, List.mem_range.2 (by have := List.mem_range.1 hq; omega), hf⟩
theorem closeL_eq (L : List Event) (j : Nat) : closeL L (j : Int) = ((List.range j).filter fun i => clB L i j).map fun i : Nat => (i : Int) := by
  unfold closeL
  rw [Int.toNat_natCast]
  have e : ∀ i : Nat, (siftL L j (j : Int)).any (fun k => befE L (i : Int) k) = !((List.range j).all (clF L i j)) := fun i => by
    rw [Bool.eq_iff_iff]
    simp only [List.any_eq_true, Bool.not_eq_true', List.all_eq_false]
    constructor
    · rintro ⟨k, hk, hb⟩
      have hm := sift_mem hk
      refine ⟨k.toNat, List.mem_range.2 (by omega), ?_⟩
      have e1 : ((k.toNat : Nat) : Int) = k := by omega
      have hr := bef_rng hb
      unfold clF; rw [e1, hm.2.2, hb, decide_eq_true (by omega)]; decide
    · rintro ⟨q, hq, hf⟩
      unfold clF at hf
      simp at hf
      refine ⟨(q : Int), ?_, hf.2.2⟩
      unfold siftL
      exact List.mem_map.2 ⟨q, List.mem_filter.2 ⟨hq, hf.2.1⟩, rfl⟩
  unfold siftL at e ⊢
  rw [List.filter_map, List.filter_filter]
  congr 1
  refine List.filter_congr fun i _ => ?_
  have e' := e i
  simp only [Function.comp]
  rw [e']
  unfold clB
  rw [Bool.not_not, Bool.and_comm]
theorem rcl_eq (L : List Event) : ∀ n : Nat, rclP L n = (closeP L n).map fun x => (⟨x.a, x.b⟩ : Pr)
  | 0 => rfl
  | n + 1 => by
    rw [rclP_snoc, closeP_snoc, List.map_append, rcl_eq L n]
    congr 1
    unfold closeJ rclJ
    rw [closeL_eq, List.map_map, List.map_map]
    rfl
set_option maxRecDepth 100000 in
theorem e_rclose (A_L : Option Addr) (c_L : Nat) (L : List Event) (A_B : Option Addr) (c_B : Nat) (B : List BV) (w : World) (hr_L : RowAt w A_L 9 enEvent L) (hc_L : L.length ≤ c_L) (hr_B : RowAt w A_B 1 enBV B) (hc_B : B.length ≤ c_B) (hn_B : (nestR innerBV B).p w) (hk_B : ∀ x_ ∈ B, capBV x_) (hL : L.length ≤ 100) (hB : B.map BV.l = ahM L) : Calls Tryz.prog 12 #[Value.agg #[Value.slice A_L L.length c_L, Value.slice A_B B.length c_B]] w (Fresh 41 2 enPr (rclP L L.length) w) := by
 have _hu := hc_L; have _hv := hr_L; clear _hu _hv
 have _hu := hc_B; have _hv := hr_B; clear _hu _hv
 have _hu := hk_B; have _hv := hn_B; clear _hu _hv
 have _hu := hL; clear _hu
 have _hu := hB; clear _hu
 have hbl_ := ah_blen hB
 refine enter_E 65 Tryz.func12 rfl rfl (by kernel_rfl) (L := [(0, Value.agg #[Value.slice A_L L.length c_L, Value.slice A_B B.length c_B])]) (by kernel_rfl) ?_
 intro ac hA
 have hW := Ws.start w No
 have hW := hW.arg hr_L
 have hW := hW.arg hr_B
 have hW := hW.addG _ hn_B (nest_ltBV hn_B) (by simp)
 refine wp_seq ?_
 refine wp_region_lit ?_
 refine st_s hA (Runs.cells (fun b => Value.pointer (some ⟨b, 0, none⟩)) #[Value.slice A_L L.length c_L, Value.slice A_B B.length c_B] 31 (fun _ => by kernel_rfl) hW ?_); clear hA ac hW; intro b1 w2 hW hb1 hfw2 ac hA
 refine st_p (Value.slice none 0 0) hA ?_; clear hA ac; intro ac hA
 refine wpList_nil ?_
 refine thenN ?_
 refine wp_seq ?_
 refine wp_region_lit ?_
 refine st_p (Value.slice none 0 0) hA ?_; clear hA ac; intro ac hA
 refine wpList_nil ?_
 refine thenN ?_
 refine wp_seq ?_
 refine wp_seq ?_
 refine wp_region_lit ?_
 refine st_p (Value.int .i64 0) hA ?_; clear hA ac; intro ac hA
 refine wpList_nil ?_
 refine thenN ?_
 refine wp_block ?_
 have hW := hW.addNil 41 2 enPr
 refine wp_loop_m (fun m_ ac_ wl_ => ∃ j : Nat, ∃ d : List Pr, ∃ A : Option Addr, ∃ cc : Nat, m_ = L.length - j ∧ (d = rclP L j) ∧ (j ≤ L.length) ∧ (d.length ≤ cc) ∧ Fm 65 [] [(1, Value.pointer (some ⟨b1, 0, none⟩)), (3, Value.slice A d.length cc), (4, Value.int .i64 ((j : Nat) : Int))] ac_ ∧ Ws w No [rowR 41 2 enPr (Value.slice A d.length cc) d, Cel b1 #[Value.slice A_L L.length c_L, Value.slice A_B B.length c_B] 31] [nestR innerBV B, roR A_B 1 enBV B, roR A_L 9 enEvent L] wl_) _ ⟨0, [], none, 0, rfl, by rfl, by omega, by simp, hA.sub (by and_intros <;> first | kernel_rfl | trivial), (hW.pick [0, 1] (by decide) rfl).pickG [0, 1, 2] rfl⟩ ?_
 clear hA ac hW; rintro m_ ac w3 ⟨j, d, A, cc, rfl, hd, hj, hcc, hA, hW⟩
 refine wp_seq ?_
 refine wp_seq ?_
 refine wp_region_lit ?_
 refine st_p (Value.int .i64 ((j : Nat) : Int)) hA fun ac hA => st_p (Value.pointer (some ⟨b1, 0, none⟩)) hA fun ac hA => st_q (Value.slice A_L L.length c_L) hA hW.cls (Rd.load (b := b1) (i := 0) (by kernel_rfl) (fun _ hw => (hw.1).cel 1 rfl) (by kernel_rfl)) fun ac hA => st_p (Value.int .i64 ((L.length : Nat) : Int)) hA fun ac hA => st_p (Value.bool (decide ((((j : Nat) : Int) : Int) < (((L.length : Nat) : Int) : Int)))) hA fun ac hA => ?_
 refine wpList_nil ?_
 refine thenN ?_
 refine wp_cond_split (t := decide ((((j : Nat) : Int) : Int) < (((L.length : Nat) : Int) : Int))) (hA.eval (by kernel_rfl)) (fun h4 => ?_) (fun h4 => ?_)
 ·
  have h4 := of_decide_eq_true h4
  first
  | (exfalso; clear hA hW; omega)
  | (
   refine wp_skip ?_
   refine thenN ?_
   refine wp_seq ?_
   refine wp_block ?_
   refine wp_seq ?_
   refine wp_region_lit ?_
   refine st_p (Value.int .i64 0) hA ?_; clear hA ac; intro ac hA
   refine wpList_nil ?_
   refine thenN ?_
   refine wp_block ?_
   refine wp_loop_m (fun m_ ac_ wl_ => ∃ i : Nat, ∃ d : List Pr, ∃ A : Option Addr, ∃ cc : Nat, m_ = j - i ∧ (d = rclP L j ++ rclJ L j i) ∧ (i ≤ j) ∧ (d.length ≤ cc) ∧ Fm 65 [] [(1, Value.pointer (some ⟨b1, 0, none⟩)), (3, Value.slice A d.length cc), (4, Value.int .i64 ((j : Nat) : Int)), (5, Value.int .i64 ((i : Nat) : Int))] ac_ ∧ Ws w No [rowR 41 2 enPr (Value.slice A d.length cc) d, Cel b1 #[Value.slice A_L L.length c_L, Value.slice A_B B.length c_B] 31] [nestR innerBV B, roR A_B 1 enBV B, roR A_L 9 enEvent L] wl_) _ ⟨0, d, A, cc, rfl, by rw [hd]; simp [rclJ], by omega, by exact hcc, hA.sub (by and_intros <;> first | kernel_rfl | trivial), (hW.pick [0, 1] (by decide) rfl).pickG [0, 1, 2] rfl⟩ ?_
   clear hA ac hW; rintro m_ ac w5 ⟨i, d, A, cc, rfl, hd2, hi, hcc2, hA, hW⟩
   have hdl_ : d.length ≤ 20000 := by rw [hd2, List.length_append]; have := rclP_len L j (by omega); have := rclJ_len L j i; omega
   refine wp_seq ?_
   refine wp_seq ?_
   refine wp_region_lit ?_
   refine st_p (Value.int .i64 ((i : Nat) : Int)) hA fun ac hA => st_p (Value.int .i64 ((j : Nat) : Int)) hA fun ac hA => st_p (Value.bool (decide ((((i : Nat) : Int) : Int) < (((j : Nat) : Int) : Int)))) hA fun ac hA => ?_
   refine wpList_nil ?_
   refine thenN ?_
   refine wp_cond_split (t := decide ((((i : Nat) : Int) : Int) < (((j : Nat) : Int) : Int))) (hA.eval (by kernel_rfl)) (fun h6 => ?_) (fun h6 => ?_)
   ·
    have h6 := of_decide_eq_true h6
    first
    | (exfalso; clear hA hW; omega)
    | (
     refine wp_skip ?_
     refine thenN ?_
     refine wp_seq ?_
     refine wp_block ?_
     refine wp_seq ?_
     refine wp_region_lit ?_
     refine st_p (Value.pointer (some ⟨b1, 1, none⟩)) hA fun ac hA => st_q (Value.slice A_B B.length c_B) hA hW.cls (Rd.load (b := b1) (i := 1) (by kernel_rfl) (fun _ hw => (hw.1).cel 1 rfl) (by kernel_rfl)) fun ac hA => st_p (Value.int .i64 ((j : Nat) : Int)) hA fun ac hA => ?_
     obtain ⟨y7, hy7⟩ : ∃ y, B[j]? = some y := ⟨_, List.getElem?_eq_getElem (by first | omega | (simp; done) | (simp; omega) | (have := ah_len hB (by assumption); omega))⟩
     rcases y7 with ⟨y7_l, y7_l_A, y7_l_c⟩
     obtain ⟨b8, o9, rfl, hbb8⟩ := row_some ((hW).getG 1 rfl) hy7
     refine st_q (Value.pointer (some ⟨b8, o9 + j * 1, none⟩)) hA hW.cls (Rd.indexAddr (e := 76) (sz := 1) (b := b8) (off := o9) (n := B.length) (c := c_B) (k := j) (by kernel_rfl) (by kernel_rfl) (by first | omega | (simp; done) | (simp; omega) | (have := ah_len hB (by assumption); omega)) (fun _ => by kernel_rfl) (fun _ => by kernel_rfl)) ?_; clear hA ac; intro ac hA
     have hW := hW.nestAt 0 rfl (List.mem_of_getElem? hy7)
     have hc_y7_l : y7_l.length ≤ y7_l_c := hk_B _ (List.mem_of_getElem? hy7)
     replace hW : Ws w No [rowR 41 2 enPr (Value.slice A d.length cc) d, Cel b1 #[Value.slice A_L L.length c_L, Value.slice (some ⟨b8, o9, none⟩) B.length c_B] 31] [roR y7_l_A 1 enBo y7_l, nestR innerBV B, roR (some ⟨b8, o9, none⟩) 1 enBV B, roR A_L 9 enEvent L] w5 := hW
     refine st_q (Value.slice y7_l_A y7_l.length y7_l_c) hA hW.cls (Rd.loadRow (b := b8) (i := o9 + j * 1) (xs := [Value.slice y7_l_A y7_l.length y7_l_c]) (by kernel_rfl) (fun _ hw => row_ld ((hw.1).getG 2 rfl) hy7 (Fr.refl No _) (fun h => h) 0 1 (by kernel_rfl)) (by kernel_rfl)) fun ac hA => st_p (Value.int .i64 ((i : Nat) : Int)) hA fun ac hA => ?_
     obtain ⟨y10, hy10⟩ : ∃ y, y7_l[i]? = some y := ⟨_, List.getElem?_eq_getElem (by first | omega | (simp; done) | (simp; omega) | (have := ah_len hB (by assumption); omega))⟩
     obtain ⟨b11, o12, rfl, hbb11⟩ := row_some ((hW).getG 0 rfl) hy10
     refine st_q (Value.pointer (some ⟨b11, o12 + i * 1, none⟩)) hA hW.cls (Rd.indexAddr (e := 4) (sz := 1) (b := b11) (off := o12) (n := y7_l.length) (c := y7_l_c) (k := i) (by kernel_rfl) (by kernel_rfl) (by first | omega | (simp; done) | (simp; omega) | (have := ah_len hB (by assumption); omega)) (fun _ => by kernel_rfl) (fun _ => by kernel_rfl)) fun ac hA => st_q (Value.bool y10) hA hW.cls (Rd.loadRow (b := b11) (i := o12 + i * 1) (xs := [Value.bool y10]) (by kernel_rfl) (fun _ hw => row_ld ((hw.1).getG 0 rfl) hy10 (Fr.refl No _) (fun h => h) 0 1 (by kernel_rfl)) (by kernel_rfl)) fun ac hA => st_p (Value.bool y10) hA fun ac hA => ?_
     refine wpList_nil ?_
     refine thenN ?_
     refine wp_seq ?_
     refine wp_seq ?_
     refine wp_region_lit ?_
     refine st_p (Value.int .i64 ((i : Nat) : Int)) hA fun ac hA => st_q (Value.int .i64 ((i + 1 : Nat) : Int)) hA hW.cls (Rd.pureE (v0 := Value.int .i64 (IntKind.i64.wrap ((((i : Nat) : Int) : Int) + 1))) (fun _ => by kernel_rfl) (congrArg (Value.int .i64) ((w_i64 (x := (((i : Nat) : Int) : Int) + 1) (by omega) (by omega)).trans (by omega)))) fun ac hA => st_p (Value.int .i64 ((i + 1 : Nat) : Int)) hA fun ac hA => ?_
     refine wpList_nil ?_
     refine thenN ?_
     refine wp_block ?_
     refine wp_loop_m (fun m_ ac_ wl_ => ∃ k : Nat, ∃ cl : Bool, m_ = j - k ∧ (i + 1 ≤ k ∧ k ≤ j) ∧ (cl = (befE L (i : Int) (j : Int) && (List.range k).all (clF L i j))) ∧ Fm 65 [] [(1, Value.pointer (some ⟨b1, 0, none⟩)), (3, Value.slice A d.length cc), (4, Value.int .i64 ((j : Nat) : Int)), (5, Value.int .i64 ((i : Nat) : Int)), (6, Value.bool cl), (7, Value.int .i64 ((k : Nat) : Int))] ac_ ∧ Ws w No [rowR 41 2 enPr (Value.slice A d.length cc) d, Cel b1 #[Value.slice A_L L.length c_L, Value.slice (some ⟨b8, o9, none⟩) B.length c_B] 31] [roR (some ⟨b11, o12, none⟩) 1 enBo y7_l, nestR innerBV B, roR (some ⟨b8, o9, none⟩) 1 enBV B, roR A_L 9 enEvent L] wl_) _ ⟨i + 1, y10, rfl, by omega, by rw [all_small, Bool.and_true]; exact ah_el hB hy7 hy10, hA.sub (by and_intros <;> first | kernel_rfl | trivial), (hW.pick [0, 1] (by decide) rfl).pickG [0, 1, 2, 3] rfl⟩ ?_
     clear hA ac hW; rintro m_ ac w13 ⟨k, cl, rfl, hk, hcl, hA, hW⟩
     refine wp_seq ?_
     refine wp_seq ?_
     refine wp_region_lit ?_
     refine st_p (Value.int .i64 ((k : Nat) : Int)) hA fun ac hA => st_p (Value.int .i64 ((j : Nat) : Int)) hA fun ac hA => st_p (Value.bool (decide ((((k : Nat) : Int) : Int) < (((j : Nat) : Int) : Int)))) hA fun ac hA => st_p (Value.bool (decide ((((k : Nat) : Int) : Int) < (((j : Nat) : Int) : Int)))) hA fun ac hA => ?_
     rcases Bool.eq_false_or_eq_true (decide ((((k : Nat) : Int) : Int) < (((j : Nat) : Int) : Int))) with h14 | h14
     ·
      rw [h14] at hA
      have h14 := of_decide_eq_true h14
      first
      | (exfalso; clear hA hW; omega)
      | (
       refine st_p (Value.bool cl) hA fun ac hA => st_p (Value.bool cl) hA fun ac hA => ?_
       refine wpList_nil ?_
       refine thenN ?_
       refine wp_cond_split (t := cl) (hA.eval (by kernel_rfl)) (fun h15 => ?_) (fun h15 => ?_)
       ·
        first
        | (exfalso; clear hA hW; omega)
        | (
         refine wp_skip ?_
         refine thenN ?_
         refine wp_seq ?_
         refine wp_block ?_
         refine wp_region_lit ?_
         refine st_p (Value.pointer (some ⟨b1, 1, none⟩)) hA fun ac hA => st_q (Value.slice (some ⟨b8, o9, none⟩) B.length c_B) hA hW.cls (Rd.load (b := b1) (i := 1) (by kernel_rfl) (fun _ hw => (hw.1).cel 1 rfl) (by kernel_rfl)) fun ac hA => st_p (Value.int .i64 ((j : Nat) : Int)) hA fun ac hA => ?_
         obtain ⟨y16, hy16⟩ : ∃ y, B[j]? = some y := ⟨_, List.getElem?_eq_getElem (by first | omega | (simp; done) | (simp; omega) | (have := ah_len hB (by assumption); omega))⟩
         rcases y16 with ⟨y16_l, y16_l_A, y16_l_c⟩
         refine st_q (Value.pointer (some ⟨b8, o9 + j * 1, none⟩)) hA hW.cls (Rd.indexAddr (e := 76) (sz := 1) (b := b8) (off := o9) (n := B.length) (c := c_B) (k := j) (by kernel_rfl) (by kernel_rfl) (by first | omega | (simp; done) | (simp; omega) | (have := ah_len hB (by assumption); omega)) (fun _ => by kernel_rfl) (fun _ => by kernel_rfl)) ?_; clear hA ac; intro ac hA
         have hW := hW.nestAt 1 rfl (List.mem_of_getElem? hy16)
         have hc_y16_l : y16_l.length ≤ y16_l_c := hk_B _ (List.mem_of_getElem? hy16)
         replace hW : Ws w No [rowR 41 2 enPr (Value.slice A d.length cc) d, Cel b1 #[Value.slice A_L L.length c_L, Value.slice (some ⟨b8, o9, none⟩) B.length c_B] 31] [roR y16_l_A 1 enBo y16_l, roR (some ⟨b11, o12, none⟩) 1 enBo y7_l, nestR innerBV B, roR (some ⟨b8, o9, none⟩) 1 enBV B, roR A_L 9 enEvent L] w13 := hW
         refine st_q (Value.slice y16_l_A y16_l.length y16_l_c) hA hW.cls (Rd.loadRow (b := b8) (i := o9 + j * 1) (xs := [Value.slice y16_l_A y16_l.length y16_l_c]) (by kernel_rfl) (fun _ hw => row_ld ((hw.1).getG 3 rfl) hy16 (Fr.refl No _) (fun h => h) 0 1 (by kernel_rfl)) (by kernel_rfl)) fun ac hA => st_p (Value.int .i64 ((k : Nat) : Int)) hA fun ac hA => ?_
         obtain ⟨y17, hy17⟩ : ∃ y, y16_l[k]? = some y := ⟨_, List.getElem?_eq_getElem (by first | omega | (simp; done) | (simp; omega) | (have := ah_len hB (by assumption); omega))⟩
         obtain ⟨b18, o19, rfl, hbb18⟩ := row_some ((hW).getG 0 rfl) hy17
         refine st_q (Value.pointer (some ⟨b18, o19 + k * 1, none⟩)) hA hW.cls (Rd.indexAddr (e := 4) (sz := 1) (b := b18) (off := o19) (n := y16_l.length) (c := y16_l_c) (k := k) (by kernel_rfl) (by kernel_rfl) (by first | omega | (simp; done) | (simp; omega) | (have := ah_len hB (by assumption); omega)) (fun _ => by kernel_rfl) (fun _ => by kernel_rfl)) fun ac hA => st_q (Value.bool y17) hA hW.cls (Rd.loadRow (b := b18) (i := o19 + k * 1) (xs := [Value.bool y17]) (by kernel_rfl) (fun _ hw => row_ld ((hw.1).getG 0 rfl) hy17 (Fr.refl No _) (fun h => h) 0 1 (by kernel_rfl)) (by kernel_rfl)) fun ac hA => st_p (Value.bool y17) hA fun ac hA => ?_
         rcases Bool.eq_false_or_eq_true (y17) with h20 | h20
         ·
          rw [h20] at hA
          first
          | (exfalso; clear hA hW; omega)
          | (
           refine st_p (Value.pointer (some ⟨b1, 1, none⟩)) hA fun ac hA => st_q (Value.slice (some ⟨b8, o9, none⟩) B.length c_B) hA hW.cls (Rd.load (b := b1) (i := 1) (by kernel_rfl) (fun _ hw => (hw.1).cel 1 rfl) (by kernel_rfl)) fun ac hA => st_p (Value.int .i64 ((k : Nat) : Int)) hA fun ac hA => ?_
           obtain ⟨y21, hy21⟩ : ∃ y, B[k]? = some y := ⟨_, List.getElem?_eq_getElem (by first | omega | (simp; done) | (simp; omega) | (have := ah_len hB (by assumption); omega))⟩
           rcases y21 with ⟨y21_l, y21_l_A, y21_l_c⟩
           refine st_q (Value.pointer (some ⟨b8, o9 + k * 1, none⟩)) hA hW.cls (Rd.indexAddr (e := 76) (sz := 1) (b := b8) (off := o9) (n := B.length) (c := c_B) (k := k) (by kernel_rfl) (by kernel_rfl) (by first | omega | (simp; done) | (simp; omega) | (have := ah_len hB (by assumption); omega)) (fun _ => by kernel_rfl) (fun _ => by kernel_rfl)) ?_; clear hA ac; intro ac hA
           have hW := hW.nestAt 2 rfl (List.mem_of_getElem? hy21)
           have hc_y21_l : y21_l.length ≤ y21_l_c := hk_B _ (List.mem_of_getElem? hy21)
           replace hW : Ws w No [rowR 41 2 enPr (Value.slice A d.length cc) d, Cel b1 #[Value.slice A_L L.length c_L, Value.slice (some ⟨b8, o9, none⟩) B.length c_B] 31] [roR y21_l_A 1 enBo y21_l, roR (some ⟨b18, o19, none⟩) 1 enBo y16_l, roR (some ⟨b11, o12, none⟩) 1 enBo y7_l, nestR innerBV B, roR (some ⟨b8, o9, none⟩) 1 enBV B, roR A_L 9 enEvent L] w13 := hW
           refine st_q (Value.slice y21_l_A y21_l.length y21_l_c) hA hW.cls (Rd.loadRow (b := b8) (i := o9 + k * 1) (xs := [Value.slice y21_l_A y21_l.length y21_l_c]) (by kernel_rfl) (fun _ hw => row_ld ((hw.1).getG 4 rfl) hy21 (Fr.refl No _) (fun h => h) 0 1 (by kernel_rfl)) (by kernel_rfl)) fun ac hA => st_p (Value.int .i64 ((i : Nat) : Int)) hA fun ac hA => ?_
           obtain ⟨y22, hy22⟩ : ∃ y, y21_l[i]? = some y := ⟨_, List.getElem?_eq_getElem (by first | omega | (simp; done) | (simp; omega) | (have := ah_len hB (by assumption); omega))⟩
           obtain ⟨b23, o24, rfl, hbb23⟩ := row_some ((hW).getG 0 rfl) hy22
           refine st_q (Value.pointer (some ⟨b23, o24 + i * 1, none⟩)) hA hW.cls (Rd.indexAddr (e := 4) (sz := 1) (b := b23) (off := o24) (n := y21_l.length) (c := y21_l_c) (k := i) (by kernel_rfl) (by kernel_rfl) (by first | omega | (simp; done) | (simp; omega) | (have := ah_len hB (by assumption); omega)) (fun _ => by kernel_rfl) (fun _ => by kernel_rfl)) fun ac hA => st_q (Value.bool y22) hA hW.cls (Rd.loadRow (b := b23) (i := o24 + i * 1) (xs := [Value.bool y22]) (by kernel_rfl) (fun _ hw => row_ld ((hw.1).getG 0 rfl) hy22 (Fr.refl No _) (fun h => h) 0 1 (by kernel_rfl)) (by kernel_rfl)) fun ac hA => st_p (Value.bool y22) hA fun ac hA => st_p (Value.bool (!y22)) hA fun ac hA => st_p (Value.bool (!y22)) hA fun ac hA => ?_
           refine wpList_nil ?_
           refine blkN ?_
           refine thenN ?_
           refine wp_region_lit ?_
           refine st_p (Value.int .i64 ((k : Nat) : Int)) hA fun ac hA => st_q (Value.int .i64 ((k + 1 : Nat) : Int)) hA hW.cls (Rd.pureE (v0 := Value.int .i64 (IntKind.i64.wrap ((((k : Nat) : Int) : Int) + 1))) (fun _ => by kernel_rfl) (congrArg (Value.int .i64) ((w_i64 (x := (((k : Nat) : Int) : Int) + 1) (by omega) (by omega)).trans (by omega)))) fun ac hA => st_p (Value.int .i64 ((k + 1 : Nat) : Int)) hA fun ac hA => ?_
           refine wpList_nil ?_
           refine thenN ?_
           exact ⟨j - (k + 1), by omega, k + 1, !y22, rfl, by omega, by rw [← cl_step (k := k) (f := clF L i j) (by rw [← hcl]; exact h15.symm)]; have q1_ := ah_el hB hy16 hy17; have q2_ := ah_el hB hy21 hy22; unfold clF; rw [← q1_, ← q2_, h20, decide_eq_true (show i < k from by omega)]; simp, hA.sub (by and_intros <;> first | kernel_rfl | trivial), (hW.pick [0, 1] (by decide) rfl).pickG [2, 3, 4, 5] rfl⟩)
         rw [h20] at hA
         first
         | (exfalso; clear hA hW; omega)
         | (
          refine st_k hA fun ac hA => st_k hA fun ac hA => st_k hA fun ac hA => st_k hA fun ac hA => st_k hA fun ac hA => st_k hA fun ac hA => st_k hA fun ac hA => st_k hA fun ac hA => st_p (Value.bool false) hA fun ac hA => st_p (Value.bool true) hA fun ac hA => st_p (Value.bool true) hA fun ac hA => ?_
          refine wpList_nil ?_
          refine blkN ?_
          refine thenN ?_
          refine wp_region_lit ?_
          refine st_p (Value.int .i64 ((k : Nat) : Int)) hA fun ac hA => st_q (Value.int .i64 ((k + 1 : Nat) : Int)) hA hW.cls (Rd.pureE (v0 := Value.int .i64 (IntKind.i64.wrap ((((k : Nat) : Int) : Int) + 1))) (fun _ => by kernel_rfl) (congrArg (Value.int .i64) ((w_i64 (x := (((k : Nat) : Int) : Int) + 1) (by omega) (by omega)).trans (by omega)))) fun ac hA => st_p (Value.int .i64 ((k + 1 : Nat) : Int)) hA fun ac hA => ?_
          refine wpList_nil ?_
          refine thenN ?_
          exact ⟨j - (k + 1), by omega, k + 1, true, rfl, by omega, by rw [← cl_step (k := k) (f := clF L i j) (by rw [← hcl]; exact h15.symm)]; have q1_ := ah_el hB hy16 hy17; unfold clF; rw [← q1_, h20]; simp, hA.sub (by and_intros <;> first | kernel_rfl | trivial), (hW.pick [0, 1] (by decide) rfl).pickG [1, 2, 3, 4] rfl⟩))
       first
       | (exfalso; clear hA hW; omega)
       | (
        refine wp_exit ?_
        refine thenX ?_
        refine thenX ?_
        refine blkX ?_
        refine thenN ?_
        refine wp_seq ?_
        have hcb_ : clB L i j = false := cl_stop (k := k) (by rw [← hcl]; exact h15) (by omega)
        refine wp_region_lit ?_
        refine st_p (Value.bool cl) hA ?_; clear hA ac; intro ac hA
        refine wpList_nil ?_
        refine thenN ?_
        refine wp_cond_split (t := cl) (hA.eval (by kernel_rfl)) (fun h25 => ?_) (fun h25 => ?_)
        ·
         first
         | (exfalso; clear hA hW; omega)
         | (exfalso; clear hA hW; exact absurd (h15.symm.trans h25) (by decide); done)
         | (
          fail)
        first
        | (exfalso; clear hA hW; omega)
        | (
         refine wp_skip ?_
         refine blkN ?_
         refine thenN ?_
         refine wp_region_lit ?_
         refine st_p (Value.int .i64 ((i : Nat) : Int)) hA fun ac hA => st_q (Value.int .i64 ((i + 1 : Nat) : Int)) hA hW.cls (Rd.pureE (v0 := Value.int .i64 (IntKind.i64.wrap ((((i : Nat) : Int) : Int) + 1))) (fun _ => by kernel_rfl) (congrArg (Value.int .i64) ((w_i64 (x := (((i : Nat) : Int) : Int) + 1) (by omega) (by omega)).trans (by omega)))) fun ac hA => st_p (Value.int .i64 ((i + 1 : Nat) : Int)) hA fun ac hA => ?_
         refine wpList_nil ?_
         refine thenN ?_
         exact ⟨j - (i + 1), by omega, i + 1, d, A, cc, rfl, by rw [rclJ_snoc, if_neg (by rw [hcb_]; decide), hd2, List.append_nil], by omega, by exact hcc2, hA.sub (by and_intros <;> first | kernel_rfl | trivial), (hW.pick [0, 1] (by decide) rfl).pickG [1, 2, 3] rfl⟩)))
     rw [h14] at hA
     have h14 := of_decide_eq_false h14
     first
     | (exfalso; clear hA hW; omega)
     | (
      refine st_k hA fun ac hA => st_p (Value.bool false) hA fun ac hA => ?_
      refine wpList_nil ?_
      refine thenN ?_
      refine wp_cond_false (hA.eval (by kernel_rfl)) ?_
      refine wp_exit ?_
      refine thenX ?_
      refine thenX ?_
      refine blkX ?_
      refine thenN ?_
      refine wp_seq ?_
      have hcb_ : clB L i j = cl := by rw [hcl]; unfold clB; rw [show k = j from by omega]
      refine wp_region_lit ?_
      refine st_p (Value.bool cl) hA ?_; clear hA ac; intro ac hA
      refine wpList_nil ?_
      refine thenN ?_
      refine wp_cond_split (t := cl) (hA.eval (by kernel_rfl)) (fun h26 => ?_) (fun h26 => ?_)
      ·
       first
       | (exfalso; clear hA hW; omega)
       | (
        refine wp_region_lit ?_
        refine st_p (Value.slice A d.length cc) hA fun ac hA => st_p (Value.int .i64 ((i : Nat) : Int)) hA fun ac hA => st_p (Value.int .i64 ((j : Nat) : Int)) hA fun ac hA => st_p (Value.agg #[Value.int .i64 ((i : Nat) : Int), Value.int .i64 ((j : Nat) : Int)]) hA fun ac hA => ?_
        refine st_s hA (Runs.cells (fun b => Value.slice (some ⟨b, 0, none⟩) 1 1) #[Value.int .i64 ((i : Nat) : Int), Value.int .i64 ((j : Nat) : Int)] 41 (fun _ => by kernel_rfl) hW ?_); clear hA ac hW; intro b27 w28 hW hb27 hfw28 ac hA
        refine st_s hA (Runs.appOwn (B := (some ⟨b27, 0, none⟩)) (k := 1) (E := 41) (sz := 2) (en := enPr) (l := d) (m := ([(⟨((i : Nat) : Int), ((j : Nat) : Int)⟩ : Pr)] : List Pr)) (i := 1) (by kernel_rfl) (by kernel_rfl) elt_Pr (by kernel_rfl) hW rfl (rowAt_cel ((hW).cel 0 rfl) ([(⟨((i : Nat) : Int), ((j : Nat) : Int)⟩ : Pr)] : List Pr) (by rfl) elt_Pr.len) (by first | omega | (simp; done) | (simp; omega)) (by first | omega | (simp; done) | (simp; omega)) ?_); clear hA ac hW; intro A29 c30 w31 hW hcc30 ac hA
        refine st_p (Value.slice A29 (d ++ ([(⟨((i : Nat) : Int), ((j : Nat) : Int)⟩ : Pr)] : List Pr)).length c30) hA ?_; clear hA ac; intro ac hA
        refine wpList_nil ?_
        refine blkN ?_
        refine thenN ?_
        refine wp_region_lit ?_
        refine st_p (Value.int .i64 ((i : Nat) : Int)) hA fun ac hA => st_q (Value.int .i64 ((i + 1 : Nat) : Int)) hA hW.cls (Rd.pureE (v0 := Value.int .i64 (IntKind.i64.wrap ((((i : Nat) : Int) : Int) + 1))) (fun _ => by kernel_rfl) (congrArg (Value.int .i64) ((w_i64 (x := (((i : Nat) : Int) : Int) + 1) (by omega) (by omega)).trans (by omega)))) fun ac hA => st_p (Value.int .i64 ((i + 1 : Nat) : Int)) hA fun ac hA => ?_
        refine wpList_nil ?_
        refine thenN ?_
        exact ⟨j - (i + 1), by omega, i + 1, d ++ ([(⟨((i : Nat) : Int), ((j : Nat) : Int)⟩ : Pr)] : List Pr), A29, c30, rfl, by rw [rclJ_snoc, if_pos (hcb_.trans h26), hd2, List.append_assoc], by omega, by exact hcc30, hA.sub (by and_intros <;> first | kernel_rfl | trivial), (hW.pick [1, 2] (by decide) rfl).pickG [1, 2, 3] rfl⟩)
      first
      | (exfalso; clear hA hW; omega)
      | (
       refine wp_skip ?_
       refine blkN ?_
       refine thenN ?_
       refine wp_region_lit ?_
       refine st_p (Value.int .i64 ((i : Nat) : Int)) hA fun ac hA => st_q (Value.int .i64 ((i + 1 : Nat) : Int)) hA hW.cls (Rd.pureE (v0 := Value.int .i64 (IntKind.i64.wrap ((((i : Nat) : Int) : Int) + 1))) (fun _ => by kernel_rfl) (congrArg (Value.int .i64) ((w_i64 (x := (((i : Nat) : Int) : Int) + 1) (by omega) (by omega)).trans (by omega)))) fun ac hA => st_p (Value.int .i64 ((i + 1 : Nat) : Int)) hA fun ac hA => ?_
       refine wpList_nil ?_
       refine thenN ?_
       exact ⟨j - (i + 1), by omega, i + 1, d, A, cc, rfl, by rw [rclJ_snoc, if_neg (by rw [hcb_, h26]; decide), hd2, List.append_nil], by omega, by exact hcc2, hA.sub (by and_intros <;> first | kernel_rfl | trivial), (hW.pick [0, 1] (by decide) rfl).pickG [1, 2, 3] rfl⟩)))
   have h6 := of_decide_eq_false h6
   first
   | (exfalso; clear hA hW; omega)
   | (
    refine wp_exit ?_
    refine thenX ?_
    refine thenX ?_
    refine blkX ?_
    refine blkN ?_
    refine thenN ?_
    refine wp_region_lit ?_
    refine st_p (Value.int .i64 ((j : Nat) : Int)) hA fun ac hA => st_q (Value.int .i64 ((j + 1 : Nat) : Int)) hA hW.cls (Rd.pureE (v0 := Value.int .i64 (IntKind.i64.wrap ((((j : Nat) : Int) : Int) + 1))) (fun _ => by kernel_rfl) (congrArg (Value.int .i64) ((w_i64 (x := (((j : Nat) : Int) : Int) + 1) (by omega) (by omega)).trans (by omega)))) fun ac hA => st_p (Value.int .i64 ((j + 1 : Nat) : Int)) hA fun ac hA => ?_
    refine wpList_nil ?_
    refine thenN ?_
    exact ⟨L.length - (j + 1), by omega, j + 1, d, A, cc, rfl, by rw [rclP_snoc, hd2, show i = j from by omega], by omega, by exact hcc2, hA.sub (by and_intros <;> first | kernel_rfl | trivial), (hW.pick [0, 1] (by decide) rfl).pickG [0, 1, 2] rfl⟩))
 have h4 := of_decide_eq_false h4
 first
 | (exfalso; clear hA hW; omega)
 | (
  refine wp_exit ?_
  refine thenX ?_
  refine thenX ?_
  refine blkX ?_
  refine thenN ?_
  refine wp_seq ?_
  refine wp_region_lit ?_
  refine st_p (Value.slice A d.length cc) hA fun ac hA => st_p (Value.slice A d.length cc) hA fun ac hA => ?_
  refine wpList_nil ?_
  refine thenN ?_
  refine wp_ret ?_
  refine ret1 (v := Value.slice A d.length cc) (by rfl) hA (Got.tmp hA (by kernel_rfl) (by kernel_rfl)) ?_
  clear hA
  rw [show rclP L L.length = d from by rw [hd, show j = L.length from by omega]]; exact ⟨_, rfl, hW.fresh 0 rfl (fun _ h => h), hW.fr⟩)

end Go.Proofs.YtefmglgejjaipaaGreatDoor.L
