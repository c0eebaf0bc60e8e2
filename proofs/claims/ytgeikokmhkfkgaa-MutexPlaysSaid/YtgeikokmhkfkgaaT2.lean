/- Contracts, walked by program over the engine's laws. -/
import Derived.Test.YtgeikokmhkfkgaaProg
import Derived.Test.YtgeikokmhkfkgaaT1
namespace Go.Proofs.Ytgeikokmhkfkgaa.L
open Go.RowKit

def enI (x : Int) : List Value := [.int .i64 x]
def rLock (L : List Int) (i by_ : Int) : List Int × Int :=
  if by_ < 0 ∨ 65535 < by_ then (L, 2) else if i < 0 ∨ (L.length : Int) ≤ i then (L, 4) else if 0 < (L[i.toNat]?).getD 0 then (L, 230) else (L.set i.toNat (by_ + 1), 0)
def rUnlock (L : List Int) (i : Int) : List Int × Int × Int :=
  if i < 0 ∨ (L.length : Int) ≤ i then (L, 0, 4) else if (L[i.toNat]?).getD 0 = 0 then (L, 0, 231) else (L.set i.toNat 0, (L[i.toNat]?).getD 0 - 1, 0)
def rHolder (L : List Int) (i : Int) : Int × Bool :=
  if i < 0 ∨ (L.length : Int) ≤ i ∨ (L[i.toNat]?).getD 0 = 0 then (0, false) else ((L[i.toNat]?).getD 0 - 1, true)
theorem elt_I : Elt Try.prog 3 1 enI := ⟨⟨Value.int .i64 0, 8, by kernel_rfl, rfl, by decide⟩, by decide, fun _ => rfl, fun x u hu => List.all_eq_true.1 (show (enI x).all (·.oneCell') = true from rfl) u hu⟩
set_option maxRecDepth 100000 in
theorem e_with13 (A_L : Option Addr) (c_L : Nat) (L : List Int) (i : Int) (v : Int) (w : World) (hr_L : RowAt w A_L 1 enI L) (hc_L : L.length ≤ c_L) (hi : 0 ≤ i ∧ i < L.length) (hl : L.length ≤ 1000) : Calls Try.prog 34 #[Value.agg #[Value.slice A_L L.length c_L], Value.int .i64 i, Value.int .i64 v] w (fun e w' => ∃ (A_o : Option Addr) (c_o : Nat), e = .returned (Value.agg #[Value.slice A_o (List.set L (Int.toNat (i)) v).length c_o]) ∧ (List.set L (Int.toNat (i)) v).length ≤ c_o ∧ (roR A_o 1 enI (List.set L (Int.toNat (i)) v)).from_ [roR A_L 1 enI L] w w' ∧ Fr No w w') := by
  have _hu := hc_L; have _hv := hr_L; clear _hu _hv
  have _hu := hi; clear _hu
  have _hu := hl; clear _hu
  refine enter_E 18 Try.func34 rfl rfl (by kernel_rfl) (L := [(0, Value.agg #[Value.slice A_L L.length c_L]), (1, Value.int .i64 i), (2, Value.int .i64 v)]) (by kernel_rfl) ?_
  intro ac hA
  have hW := Ws.start w No
  have hW := hW.arg hr_L
  refine wp_seq ?_
  refine wp_region_lit ?_
  refine st hA (by kernel_rfl) (by kernel_rfl) (by kernel_rfl) (Runs.cells (fun b => Value.pointer (some ⟨b, 0, none⟩)) #[Value.slice A_L L.length c_L] 40 (fun _ => by kernel_rfl) hW ?_); clear hA ac hW; intro b1 w2 hW hb1 hfw2 ac hA
  refine st hA (by kernel_rfl) (by kernel_rfl) (by kernel_rfl) (Runs.cells (fun b => Value.pointer (some ⟨b, 0, none⟩)) #[Value.slice none 0 0] 40 (fun _ => by kernel_rfl) hW ?_); clear hA ac hW; intro b3 w4 hW hb3 hfw4 ac hA
  refine wpList_nil ?_
  refine thenN ?_
  refine wp_seq ?_
  refine wp_region_lit ?_
  refine st hA (by kernel_rfl) (by kernel_rfl) (by kernel_rfl) (Runs.cells (fun b => Value.slice (some ⟨b, 0, none⟩) 0 0) #[] 3 (fun _ => by kernel_rfl) hW ?_); clear hA ac hW; intro b5 w6 hW hb5 hfw6 ac hA
  refine st_rd (v := Value.pointer (some ⟨b1, 0, none⟩)) hA (by kernel_rfl) (by kernel_rfl) (by kernel_rfl) hW.cls (Rd.pure fun _ => by kernel_rfl) ?_; clear hA ac; intro ac hA
  refine st_rd (v := Value.slice A_L L.length c_L) hA (by kernel_rfl) (by kernel_rfl) (by kernel_rfl) hW.cls (Rd.load (b := b1) (i := 0) (by kernel_rfl) (fun _ hw => (hw.1).cel 2 rfl) (by kernel_rfl)) ?_; clear hA ac; intro ac hA
  have hW := hW.celRow (en := enI) (H' := [rowR 3 1 enI (Value.slice (some ⟨b5, 0, none⟩) ([] : List Int).length ([] : List Int).length) ([] : List Int), Cel b3 #[Value.slice none 0 0] 40, Cel b1 #[Value.slice A_L L.length c_L] 40]) 0 rfl ([] : List Int) (by rfl) elt_I.len (by decide) rfl
  refine st hA (by kernel_rfl) (by kernel_rfl) (by kernel_rfl) (Runs.appOwn (B := A_L) (k := c_L) (E := 3) (sz := 1) (en := enI) (l := ([] : List Int)) (m := L) (i := 0) (by kernel_rfl) (by kernel_rfl) elt_I (by kernel_rfl) hW rfl ((hW).getG 0 rfl) (by first | omega | (simp; done) | (simp; omega)) (by first | omega | (simp; done) | (simp; omega)) ?_); clear hA ac hW; intro A8 c9 w10 hW hcc9 ac hA
  refine st_rd (v := Value.slice A8 (([] : List Int) ++ L).length c9) hA (by kernel_rfl) (by kernel_rfl) (by kernel_rfl) hW.cls (Rd.pure fun _ => by kernel_rfl) ?_; clear hA ac; intro ac hA
  refine wpList_nil ?_
  refine thenN ?_
  refine wp_seq ?_
  refine wp_region_lit ?_
  refine st_rd (v := Value.slice A8 (([] : List Int) ++ L).length c9) hA (by kernel_rfl) (by kernel_rfl) (by kernel_rfl) hW.cls (Rd.pure fun _ => by kernel_rfl) ?_; clear hA ac; intro ac hA
  refine st_rd (v := Value.int .i64 i) hA (by kernel_rfl) (by kernel_rfl) (by kernel_rfl) hW.cls (Rd.pure fun _ => by kernel_rfl) ?_; clear hA ac; intro ac hA
  refine st_rd (v := Value.int .i64 v) hA (by kernel_rfl) (by kernel_rfl) (by kernel_rfl) hW.cls (Rd.pure fun _ => by kernel_rfl) ?_; clear hA ac; intro ac hA
  obtain ⟨y11, hy11⟩ : ∃ y, (([] : List Int) ++ L)[Int.toNat (i)]? = some y := ⟨_, List.getElem?_eq_getElem (by first | omega | (simp; done) | (simp; omega))⟩
  obtain ⟨b12, o13, rfl, hbb12⟩ := row_some (rowR_at ((hW).get 0 rfl) elt_I.len) hy11
  refine st_rd (v := Value.pointer (some ⟨b12, o13 + (Int.toNat (i)) * 1, none⟩)) hA (by kernel_rfl) (by kernel_rfl) (by kernel_rfl) hW.cls (Rd.indexAddrI (e := 3) (sz := 1) (b := b12) (off := o13) (n := (([] : List Int) ++ L).length) (c := c9) (k := i) (by kernel_rfl) (by kernel_rfl) (by omega) (by first | omega | (simp; done) | (simp; omega)) (fun _ => by kernel_rfl) (fun _ => by kernel_rfl)) ?_; clear hA ac; intro ac hA
  refine st hA (by kernel_rfl) (by kernel_rfl) (by kernel_rfl) (Runs.storeRow (E := 3) (sz := 1) (en := enI) (b := b12) (off := o13) (k := Int.toNat (i)) (n := (([] : List Int) ++ L).length) (c := c9) (v := Value.int .i64 v) (v : Int) elt_I (by kernel_rfl) (by kernel_rfl) (by kernel_rfl) (by kernel_rfl) hW (i := 0) rfl (by first | omega | (simp; done) | (simp; omega)) (by first | rfl | (simp; done) | (simp; omega)) ?_); clear hA ac hW; intro w14 hW ac hA
  refine wpList_nil ?_
  refine thenN ?_
  refine wp_seq ?_
  refine wp_region_lit ?_
  refine st_rd (v := Value.slice (some ⟨b12, o13, none⟩) (([] : List Int) ++ L).length c9) hA (by kernel_rfl) (by kernel_rfl) (by kernel_rfl) hW.cls (Rd.pure fun _ => by kernel_rfl) ?_; clear hA ac; intro ac hA
  refine st_rd (v := Value.agg #[Value.slice (some ⟨b12, o13, none⟩) (([] : List Int) ++ L).length c9]) hA (by kernel_rfl) (by kernel_rfl) (by kernel_rfl) hW.cls (Rd.pure fun _ => by kernel_rfl) ?_; clear hA ac; intro ac hA
  refine st hA (by kernel_rfl) (by kernel_rfl) (by kernel_rfl) (Runs.store (v := Value.agg #[Value.slice (some ⟨b12, o13, none⟩) (([] : List Int) ++ L).length c9]) (b := b3) (j := 0) (n := 1) (cs' := #[Value.slice (some ⟨b12, o13, none⟩) (([] : List Int) ++ L).length c9]) (H' := [rowR 3 1 enI (Value.slice (some ⟨b12, o13, none⟩) (([] : List Int) ++ L).length c9) (List.set (([] : List Int) ++ L) (Int.toNat (i)) (v : Int)), Cel b3 #[Value.slice (some ⟨b12, o13, none⟩) (([] : List Int) ++ L).length c9] 40, Cel b1 #[Value.slice A_L L.length c_L] 40]) (by kernel_rfl) (by kernel_rfl) (by kernel_rfl) (by kernel_rfl) (by kernel_rfl) hW 1 (by rfl) (Nat.le_of_ble_eq_true (by kernel_rfl)) (by kernel_rfl) (by rfl) ?_); clear hA ac hW; intro w15 hW ac hA
  refine wpList_nil ?_
  refine thenN ?_
  refine wp_ret ?_
  refine ret1 (v := Value.agg #[Value.slice (some ⟨b12, o13, none⟩) (([] : List Int) ++ L).length c9]) (by rfl) hA (Got.cell (b := b3) (i := 0) hA (by kernel_rfl) (by kernel_rfl) (hW.cel 1 rfl) (by kernel_rfl)) ?_
  clear hA
  exact ⟨(some ⟨b12, o13, none⟩), c9, by first | rfl | (simp; done), (own_cap ((hW).get 0 rfl)), (hW.outRow 0 rfl elt_I.len (fun _ h => h)), hW.fr⟩

set_option maxRecDepth 100000 in
theorem e_rlock (A_L : Option Addr) (c_L : Nat) (L : List Int) (i : Int) (by_ : Int) (w : World) (hr_L : RowAt w A_L 1 enI L) (hc_L : L.length ≤ c_L) (hl : L.length ≤ 1000) (hB : ∀ x ∈ L, 0 ≤ x ∧ x ≤ 65536) : Calls Try.prog 25 #[Value.agg #[Value.slice A_L L.length c_L], Value.int .i64 i, Value.int .i64 by_] w (fun e w' => ∃ L' : List Int, ∃ er : Int, ∃ (A_o : Option Addr) (c_o : Nat), e = .returned (Value.tuple #[Value.agg #[Value.slice A_o (L').length c_o], Value.int .i64 er]) ∧ ((L', er) = rLock L i by_) ∧ (L').length ≤ c_o ∧ (roR A_o 1 enI L').from_ [roR A_L 1 enI L] w w' ∧ Fr No w w') := by
  have _hu := hc_L; have _hv := hr_L; clear _hu _hv
  have _hu := hl; clear _hu
  have _hu := hB; clear _hu
  refine enter_E 37 Try.func25 rfl rfl (by kernel_rfl) (L := [(0, Value.agg #[Value.slice A_L L.length c_L]), (1, Value.int .i64 i), (2, Value.int .i64 by_)]) (by kernel_rfl) ?_
  intro ac hA
  have hW := Ws.start w No
  have hW := hW.arg hr_L
  refine wp_seq ?_
  refine wp_region_lit ?_
  refine st hA (by kernel_rfl) (by kernel_rfl) (by kernel_rfl) (Runs.cells (fun b => Value.pointer (some ⟨b, 0, none⟩)) #[Value.slice A_L L.length c_L] 40 (fun _ => by kernel_rfl) hW ?_); clear hA ac hW; intro b1 w2 hW hb1 hfw2 ac hA
  refine st hA (by kernel_rfl) (by kernel_rfl) (by kernel_rfl) (Runs.cells (fun b => Value.pointer (some ⟨b, 0, none⟩)) #[Value.slice none 0 0] 40 (fun _ => by kernel_rfl) hW ?_); clear hA ac hW; intro b3 w4 hW hb3 hfw4 ac hA
  refine st_rd (v := Value.int .i64 0) hA (by kernel_rfl) (by kernel_rfl) (by kernel_rfl) hW.cls (Rd.pure fun _ => by kernel_rfl) ?_; clear hA ac; intro ac hA
  refine wpList_nil ?_
  refine thenN ?_
  refine wp_seq ?_
  refine wp_seq ?_
  refine wp_region_lit ?_
  refine st_rd (v := Value.int .i64 by_) hA (by kernel_rfl) (by kernel_rfl) (by kernel_rfl) hW.cls (Rd.pure fun _ => by kernel_rfl) ?_; clear hA ac; intro ac hA
  refine st_rd (v := Value.bool (decide ((by_ : Int) < (0 : Int)))) hA (by kernel_rfl) (by kernel_rfl) (by kernel_rfl) hW.cls (Rd.pure fun _ => by kernel_rfl) ?_; clear hA ac; intro ac hA
  refine st_rd (v := Value.bool (decide ((by_ : Int) < (0 : Int)))) hA (by kernel_rfl) (by kernel_rfl) (by kernel_rfl) hW.cls (Rd.pure fun _ => by kernel_rfl) ?_; clear hA ac; intro ac hA
  rcases Bool.eq_false_or_eq_true (decide ((by_ : Int) < (0 : Int))) with h5 | h5
  · skip
    rw [h5] at hA
    have h5 := of_decide_eq_true h5
    first
    | (exfalso; clear hA hW; omega)
    | (
        refine st_skip hA (by kernel_rfl) (by kernel_rfl) ?_; clear hA ac; intro ac hA
        refine st_skip hA (by kernel_rfl) (by kernel_rfl) ?_; clear hA ac; intro ac hA
        refine st_rd (v := Value.bool true) hA (by kernel_rfl) (by kernel_rfl) (by kernel_rfl) hW.cls (Rd.pure fun _ => by kernel_rfl) ?_; clear hA ac; intro ac hA
        refine wpList_nil ?_
        refine thenN ?_
        refine wp_cond_true (hA.eval (by kernel_rfl)) ?_
        refine wp_seq ?_
        refine wp_region_lit ?_
        refine st_rd (v := Value.agg #[Value.slice A_L L.length c_L]) hA (by kernel_rfl) (by kernel_rfl) (by kernel_rfl) hW.cls (Rd.load (b := b1) (i := 0) (by kernel_rfl) (fun _ hw => (hw.1).cel 1 rfl) (by kernel_rfl)) ?_; clear hA ac; intro ac hA
        refine st hA (by kernel_rfl) (by kernel_rfl) (by kernel_rfl) (Runs.store (v := Value.agg #[Value.slice A_L L.length c_L]) (b := b3) (j := 0) (n := 1) (cs' := #[Value.slice A_L L.length c_L]) (H' := [Cel b3 #[Value.slice A_L L.length c_L] 40, Cel b1 #[Value.slice A_L L.length c_L] 40]) (by kernel_rfl) (by kernel_rfl) (by kernel_rfl) (by kernel_rfl) (by kernel_rfl) hW 0 (by rfl) (Nat.le_of_ble_eq_true (by kernel_rfl)) (by kernel_rfl) (by rfl) ?_); clear hA ac hW; intro w6 hW ac hA
        refine st_rd (v := Value.int .i64 2) hA (by kernel_rfl) (by kernel_rfl) (by kernel_rfl) hW.cls (Rd.pure fun _ => by kernel_rfl) ?_; clear hA ac; intro ac hA
        refine wpList_nil ?_
        refine thenN ?_
        refine wp_ret ?_
        refine thenR ?_
        refine ret2 (v1 := Value.agg #[Value.slice A_L L.length c_L]) (v2 := Value.int .i64 2) (by rfl) hA (Got.cell (b := b3) (i := 0) hA (by kernel_rfl) (by kernel_rfl) (hW.cel 0 rfl) (by kernel_rfl)) (Got.tmp hA (by kernel_rfl) (by kernel_rfl)) ?_
        clear hA
        exact ⟨L, 2, A_L, c_L, by first | rfl | (simp; done), by simp only [rLock]; (repeat' split) <;> first | rfl | (exfalso; omega) | omega | (exfalso; simp_all; done) | (simp_all; done) | (simp_all; omega), (by first | assumption | omega | (simp; omega) | simp), (hW.outSrc 0 rfl (src_arg (.head _))), hW.fr⟩)
  · skip
    rw [h5] at hA
    have h5 := of_decide_eq_false h5
    first
    | (exfalso; clear hA hW; omega)
    | (
        refine st_rd (v := Value.int .i64 by_) hA (by kernel_rfl) (by kernel_rfl) (by kernel_rfl) hW.cls (Rd.pure fun _ => by kernel_rfl) ?_; clear hA ac; intro ac hA
        refine st_rd (v := Value.bool (decide ((by_ : Int) > (65535 : Int)))) hA (by kernel_rfl) (by kernel_rfl) (by kernel_rfl) hW.cls (Rd.pure fun _ => by kernel_rfl) ?_; clear hA ac; intro ac hA
        refine st_rd (v := Value.bool (decide ((by_ : Int) > (65535 : Int)))) hA (by kernel_rfl) (by kernel_rfl) (by kernel_rfl) hW.cls (Rd.pure fun _ => by kernel_rfl) ?_; clear hA ac; intro ac hA
        refine wpList_nil ?_
        refine thenN ?_
        refine wp_cond_split (t := decide ((by_ : Int) > (65535 : Int))) (hA.eval (by kernel_rfl)) (fun h7 => ?_) (fun h7 => ?_)
        · skip
          have h7 := of_decide_eq_true h7
          first
          | (exfalso; clear hA hW; omega)
          | (
              refine wp_seq ?_
              refine wp_region_lit ?_
              refine st_rd (v := Value.agg #[Value.slice A_L L.length c_L]) hA (by kernel_rfl) (by kernel_rfl) (by kernel_rfl) hW.cls (Rd.load (b := b1) (i := 0) (by kernel_rfl) (fun _ hw => (hw.1).cel 1 rfl) (by kernel_rfl)) ?_; clear hA ac; intro ac hA
              refine st hA (by kernel_rfl) (by kernel_rfl) (by kernel_rfl) (Runs.store (v := Value.agg #[Value.slice A_L L.length c_L]) (b := b3) (j := 0) (n := 1) (cs' := #[Value.slice A_L L.length c_L]) (H' := [Cel b3 #[Value.slice A_L L.length c_L] 40, Cel b1 #[Value.slice A_L L.length c_L] 40]) (by kernel_rfl) (by kernel_rfl) (by kernel_rfl) (by kernel_rfl) (by kernel_rfl) hW 0 (by rfl) (Nat.le_of_ble_eq_true (by kernel_rfl)) (by kernel_rfl) (by rfl) ?_); clear hA ac hW; intro w8 hW ac hA
              refine st_rd (v := Value.int .i64 2) hA (by kernel_rfl) (by kernel_rfl) (by kernel_rfl) hW.cls (Rd.pure fun _ => by kernel_rfl) ?_; clear hA ac; intro ac hA
              refine wpList_nil ?_
              refine thenN ?_
              refine wp_ret ?_
              refine thenR ?_
              refine ret2 (v1 := Value.agg #[Value.slice A_L L.length c_L]) (v2 := Value.int .i64 2) (by rfl) hA (Got.cell (b := b3) (i := 0) hA (by kernel_rfl) (by kernel_rfl) (hW.cel 0 rfl) (by kernel_rfl)) (Got.tmp hA (by kernel_rfl) (by kernel_rfl)) ?_
              clear hA
              exact ⟨L, 2, A_L, c_L, by first | rfl | (simp; done), by simp only [rLock]; (repeat' split) <;> first | rfl | (exfalso; omega) | omega | (exfalso; simp_all; done) | (simp_all; done) | (simp_all; omega), (by first | assumption | omega | (simp; omega) | simp), (hW.outSrc 0 rfl (src_arg (.head _))), hW.fr⟩)
        · skip
          have h7 := of_decide_eq_false h7
          first
          | (exfalso; clear hA hW; omega)
          | (
              refine wp_skip ?_
              refine thenN ?_
              refine wp_seq ?_
              refine wp_seq ?_
              refine wp_region_lit ?_
              refine st_rd (v := Value.int .i64 i) hA (by kernel_rfl) (by kernel_rfl) (by kernel_rfl) hW.cls (Rd.pure fun _ => by kernel_rfl) ?_; clear hA ac; intro ac hA
              refine st_rd (v := Value.bool (decide ((i : Int) < (0 : Int)))) hA (by kernel_rfl) (by kernel_rfl) (by kernel_rfl) hW.cls (Rd.pure fun _ => by kernel_rfl) ?_; clear hA ac; intro ac hA
              refine st_rd (v := Value.bool (decide ((i : Int) < (0 : Int)))) hA (by kernel_rfl) (by kernel_rfl) (by kernel_rfl) hW.cls (Rd.pure fun _ => by kernel_rfl) ?_; clear hA ac; intro ac hA
              rcases Bool.eq_false_or_eq_true (decide ((i : Int) < (0 : Int))) with h9 | h9
              · skip
                rw [h9] at hA
                have h9 := of_decide_eq_true h9
                first
                | (exfalso; clear hA hW; omega)
                | (
                    refine st_skip hA (by kernel_rfl) (by kernel_rfl) ?_; clear hA ac; intro ac hA
                    refine st_skip hA (by kernel_rfl) (by kernel_rfl) ?_; clear hA ac; intro ac hA
                    refine st_skip hA (by kernel_rfl) (by kernel_rfl) ?_; clear hA ac; intro ac hA
                    refine st_skip hA (by kernel_rfl) (by kernel_rfl) ?_; clear hA ac; intro ac hA
                    refine st_skip hA (by kernel_rfl) (by kernel_rfl) ?_; clear hA ac; intro ac hA
                    refine st_rd (v := Value.bool true) hA (by kernel_rfl) (by kernel_rfl) (by kernel_rfl) hW.cls (Rd.pure fun _ => by kernel_rfl) ?_; clear hA ac; intro ac hA
                    refine wpList_nil ?_
                    refine thenN ?_
                    refine wp_cond_true (hA.eval (by kernel_rfl)) ?_
                    refine wp_seq ?_
                    refine wp_region_lit ?_
                    refine st_rd (v := Value.agg #[Value.slice A_L L.length c_L]) hA (by kernel_rfl) (by kernel_rfl) (by kernel_rfl) hW.cls (Rd.load (b := b1) (i := 0) (by kernel_rfl) (fun _ hw => (hw.1).cel 1 rfl) (by kernel_rfl)) ?_; clear hA ac; intro ac hA
                    refine st hA (by kernel_rfl) (by kernel_rfl) (by kernel_rfl) (Runs.store (v := Value.agg #[Value.slice A_L L.length c_L]) (b := b3) (j := 0) (n := 1) (cs' := #[Value.slice A_L L.length c_L]) (H' := [Cel b3 #[Value.slice A_L L.length c_L] 40, Cel b1 #[Value.slice A_L L.length c_L] 40]) (by kernel_rfl) (by kernel_rfl) (by kernel_rfl) (by kernel_rfl) (by kernel_rfl) hW 0 (by rfl) (Nat.le_of_ble_eq_true (by kernel_rfl)) (by kernel_rfl) (by rfl) ?_); clear hA ac hW; intro w10 hW ac hA
                    refine st_rd (v := Value.int .i64 4) hA (by kernel_rfl) (by kernel_rfl) (by kernel_rfl) hW.cls (Rd.pure fun _ => by kernel_rfl) ?_; clear hA ac; intro ac hA
                    refine wpList_nil ?_
                    refine thenN ?_
                    refine wp_ret ?_
                    refine thenR ?_
                    refine ret2 (v1 := Value.agg #[Value.slice A_L L.length c_L]) (v2 := Value.int .i64 4) (by rfl) hA (Got.cell (b := b3) (i := 0) hA (by kernel_rfl) (by kernel_rfl) (hW.cel 0 rfl) (by kernel_rfl)) (Got.tmp hA (by kernel_rfl) (by kernel_rfl)) ?_
                    clear hA
                    exact ⟨L, 4, A_L, c_L, by first | rfl | (simp; done), by simp only [rLock]; (repeat' split) <;> first | rfl | (exfalso; omega) | omega | (exfalso; simp_all; done) | (simp_all; done) | (simp_all; omega), (by first | assumption | omega | (simp; omega) | simp), (hW.outSrc 0 rfl (src_arg (.head _))), hW.fr⟩)
              · skip
                rw [h9] at hA
                have h9 := of_decide_eq_false h9
                first
                | (exfalso; clear hA hW; omega)
                | (
                    refine st_rd (v := Value.int .i64 i) hA (by kernel_rfl) (by kernel_rfl) (by kernel_rfl) hW.cls (Rd.pure fun _ => by kernel_rfl) ?_; clear hA ac; intro ac hA
                    refine st_rd (v := Value.pointer (some ⟨b1, 0, none⟩)) hA (by kernel_rfl) (by kernel_rfl) (by kernel_rfl) hW.cls (Rd.pure fun _ => by kernel_rfl) ?_; clear hA ac; intro ac hA
                    refine st_rd (v := Value.slice A_L L.length c_L) hA (by kernel_rfl) (by kernel_rfl) (by kernel_rfl) hW.cls (Rd.load (b := b1) (i := 0) (by kernel_rfl) (fun _ hw => (hw.1).cel 1 rfl) (by kernel_rfl)) ?_; clear hA ac; intro ac hA
                    refine st_rd (v := Value.int .i64 ((L.length : Nat) : Int)) hA (by kernel_rfl) (by kernel_rfl) (by kernel_rfl) hW.cls (Rd.pure fun _ => by kernel_rfl) ?_; clear hA ac; intro ac hA
                    refine st_rd (v := Value.bool (decide ((i : Int) ≥ (((L.length : Nat) : Int) : Int)))) hA (by kernel_rfl) (by kernel_rfl) (by kernel_rfl) hW.cls (Rd.pure fun _ => by kernel_rfl) ?_; clear hA ac; intro ac hA
                    refine st_rd (v := Value.bool (decide ((i : Int) ≥ (((L.length : Nat) : Int) : Int)))) hA (by kernel_rfl) (by kernel_rfl) (by kernel_rfl) hW.cls (Rd.pure fun _ => by kernel_rfl) ?_; clear hA ac; intro ac hA
                    refine wpList_nil ?_
                    refine thenN ?_
                    refine wp_cond_split (t := decide ((i : Int) ≥ (((L.length : Nat) : Int) : Int))) (hA.eval (by kernel_rfl)) (fun h11 => ?_) (fun h11 => ?_)
                    · skip
                      have h11 := of_decide_eq_true h11
                      first
                      | (exfalso; clear hA hW; omega)
                      | (
                          refine wp_seq ?_
                          refine wp_region_lit ?_
                          refine st_rd (v := Value.agg #[Value.slice A_L L.length c_L]) hA (by kernel_rfl) (by kernel_rfl) (by kernel_rfl) hW.cls (Rd.load (b := b1) (i := 0) (by kernel_rfl) (fun _ hw => (hw.1).cel 1 rfl) (by kernel_rfl)) ?_; clear hA ac; intro ac hA
                          refine st hA (by kernel_rfl) (by kernel_rfl) (by kernel_rfl) (Runs.store (v := Value.agg #[Value.slice A_L L.length c_L]) (b := b3) (j := 0) (n := 1) (cs' := #[Value.slice A_L L.length c_L]) (H' := [Cel b3 #[Value.slice A_L L.length c_L] 40, Cel b1 #[Value.slice A_L L.length c_L] 40]) (by kernel_rfl) (by kernel_rfl) (by kernel_rfl) (by kernel_rfl) (by kernel_rfl) hW 0 (by rfl) (Nat.le_of_ble_eq_true (by kernel_rfl)) (by kernel_rfl) (by rfl) ?_); clear hA ac hW; intro w12 hW ac hA
                          refine st_rd (v := Value.int .i64 4) hA (by kernel_rfl) (by kernel_rfl) (by kernel_rfl) hW.cls (Rd.pure fun _ => by kernel_rfl) ?_; clear hA ac; intro ac hA
                          refine wpList_nil ?_
                          refine thenN ?_
                          refine wp_ret ?_
                          refine thenR ?_
                          refine ret2 (v1 := Value.agg #[Value.slice A_L L.length c_L]) (v2 := Value.int .i64 4) (by rfl) hA (Got.cell (b := b3) (i := 0) hA (by kernel_rfl) (by kernel_rfl) (hW.cel 0 rfl) (by kernel_rfl)) (Got.tmp hA (by kernel_rfl) (by kernel_rfl)) ?_
                          clear hA
                          exact ⟨L, 4, A_L, c_L, by first | rfl | (simp; done), by simp only [rLock]; (repeat' split) <;> first | rfl | (exfalso; omega) | omega | (exfalso; simp_all; done) | (simp_all; done) | (simp_all; omega), (by first | assumption | omega | (simp; omega) | simp), (hW.outSrc 0 rfl (src_arg (.head _))), hW.fr⟩)
                    · skip
                      have h11 := of_decide_eq_false h11
                      first
                      | (exfalso; clear hA hW; omega)
                      | (
                          refine wp_skip ?_
                          refine thenN ?_
                          refine wp_seq ?_
                          refine wp_seq ?_
                          refine wp_region_lit ?_
                          refine st_rd (v := Value.pointer (some ⟨b1, 0, none⟩)) hA (by kernel_rfl) (by kernel_rfl) (by kernel_rfl) hW.cls (Rd.pure fun _ => by kernel_rfl) ?_; clear hA ac; intro ac hA
                          refine st_rd (v := Value.slice A_L L.length c_L) hA (by kernel_rfl) (by kernel_rfl) (by kernel_rfl) hW.cls (Rd.load (b := b1) (i := 0) (by kernel_rfl) (fun _ hw => (hw.1).cel 1 rfl) (by kernel_rfl)) ?_; clear hA ac; intro ac hA
                          refine st_rd (v := Value.int .i64 i) hA (by kernel_rfl) (by kernel_rfl) (by kernel_rfl) hW.cls (Rd.pure fun _ => by kernel_rfl) ?_; clear hA ac; intro ac hA
                          obtain ⟨y13, hy13⟩ : ∃ y, L[Int.toNat (i)]? = some y := ⟨_, List.getElem?_eq_getElem (by first | omega | (simp; done) | (simp; omega))⟩
                          obtain ⟨b14, o15, rfl, hbb14⟩ := row_some ((hW).getG 0 rfl) hy13
                          refine st_rd (v := Value.pointer (some ⟨b14, o15 + (Int.toNat (i)) * 1, none⟩)) hA (by kernel_rfl) (by kernel_rfl) (by kernel_rfl) hW.cls (Rd.indexAddrI (e := 3) (sz := 1) (b := b14) (off := o15) (n := L.length) (c := c_L) (k := i) (by kernel_rfl) (by kernel_rfl) (by omega) (by first | omega | (simp; done) | (simp; omega)) (fun _ => by kernel_rfl) (fun _ => by kernel_rfl)) ?_; clear hA ac; intro ac hA
                          refine st_rd (v := Value.int .i64 y13) hA (by kernel_rfl) (by kernel_rfl) (by kernel_rfl) hW.cls (Rd.loadRow (b := b14) (i := o15 + (Int.toNat (i)) * 1) (xs := [Value.int .i64 y13]) (by kernel_rfl) (fun _ hw => row_ld ((hw.1).getG 0 rfl) hy13 (Fr.refl No _) (fun h => h) 0 1 (by kernel_rfl)) (by kernel_rfl)) ?_; clear hA ac; intro ac hA
                          refine st_rd (v := Value.bool (decide ((y13 : Int) > (0 : Int)))) hA (by kernel_rfl) (by kernel_rfl) (by kernel_rfl) hW.cls (Rd.pure fun _ => by kernel_rfl) ?_; clear hA ac; intro ac hA
                          refine wpList_nil ?_
                          refine thenN ?_
                          refine wp_cond_split (t := decide ((y13 : Int) > (0 : Int))) (hA.eval (by kernel_rfl)) (fun h16 => ?_) (fun h16 => ?_)
                          · skip
                            have h16 := of_decide_eq_true h16
                            first
                            | (exfalso; clear hA hW; omega)
                            | (
                                refine wp_seq ?_
                                have hby13 := hB y13 (List.mem_of_getElem? hy13); have hdy13 : (L[Int.toNat (i)]?).getD 0 = y13 := by rw [hy13]; rfl
                                refine wp_region_lit ?_
                                refine st_rd (v := Value.agg #[Value.slice (some ⟨b14, o15, none⟩) L.length c_L]) hA (by kernel_rfl) (by kernel_rfl) (by kernel_rfl) hW.cls (Rd.load (b := b1) (i := 0) (by kernel_rfl) (fun _ hw => (hw.1).cel 1 rfl) (by kernel_rfl)) ?_; clear hA ac; intro ac hA
                                refine st hA (by kernel_rfl) (by kernel_rfl) (by kernel_rfl) (Runs.store (v := Value.agg #[Value.slice (some ⟨b14, o15, none⟩) L.length c_L]) (b := b3) (j := 0) (n := 1) (cs' := #[Value.slice (some ⟨b14, o15, none⟩) L.length c_L]) (H' := [Cel b3 #[Value.slice (some ⟨b14, o15, none⟩) L.length c_L] 40, Cel b1 #[Value.slice (some ⟨b14, o15, none⟩) L.length c_L] 40]) (by kernel_rfl) (by kernel_rfl) (by kernel_rfl) (by kernel_rfl) (by kernel_rfl) hW 0 (by rfl) (Nat.le_of_ble_eq_true (by kernel_rfl)) (by kernel_rfl) (by rfl) ?_); clear hA ac hW; intro w17 hW ac hA
                                refine st_rd (v := Value.int .i64 230) hA (by kernel_rfl) (by kernel_rfl) (by kernel_rfl) hW.cls (Rd.pure fun _ => by kernel_rfl) ?_; clear hA ac; intro ac hA
                                refine wpList_nil ?_
                                refine thenN ?_
                                refine wp_ret ?_
                                refine thenR ?_
                                refine ret2 (v1 := Value.agg #[Value.slice (some ⟨b14, o15, none⟩) L.length c_L]) (v2 := Value.int .i64 230) (by rfl) hA (Got.cell (b := b3) (i := 0) hA (by kernel_rfl) (by kernel_rfl) (hW.cel 0 rfl) (by kernel_rfl)) (Got.tmp hA (by kernel_rfl) (by kernel_rfl)) ?_
                                clear hA
                                exact ⟨L, 230, (some ⟨b14, o15, none⟩), c_L, by first | rfl | (simp; done), by simp only [rLock]; (repeat' split) <;> first | rfl | (exfalso; omega) | omega | (exfalso; simp_all; done) | (simp_all; done) | (simp_all; omega), (by first | assumption | omega | (simp; omega) | simp), (hW.outSrc 0 rfl (src_arg (.head _))), hW.fr⟩)
                          · skip
                            have h16 := of_decide_eq_false h16
                            first
                            | (exfalso; clear hA hW; omega)
                            | (
                                refine wp_skip ?_
                                refine thenN ?_
                                refine wp_seq ?_
                                have hby13 := hB y13 (List.mem_of_getElem? hy13); have hdy13 : (L[Int.toNat (i)]?).getD 0 = y13 := by rw [hy13]; rfl
                                refine wp_region_lit ?_
                                refine st_rd (v := Value.agg #[Value.slice (some ⟨b14, o15, none⟩) L.length c_L]) hA (by kernel_rfl) (by kernel_rfl) (by kernel_rfl) hW.cls (Rd.load (b := b1) (i := 0) (by kernel_rfl) (fun _ hw => (hw.1).cel 1 rfl) (by kernel_rfl)) ?_; clear hA ac; intro ac hA
                                refine st_rd (v := Value.int .i64 i) hA (by kernel_rfl) (by kernel_rfl) (by kernel_rfl) hW.cls (Rd.pure fun _ => by kernel_rfl) ?_; clear hA ac; intro ac hA
                                refine st_rd (v := Value.int .i64 by_) hA (by kernel_rfl) (by kernel_rfl) (by kernel_rfl) hW.cls (Rd.pure fun _ => by kernel_rfl) ?_; clear hA ac; intro ac hA
                                refine st_rd (v := Value.int .i64 ((by_ : Int) + 1)) hA (by kernel_rfl) (by kernel_rfl) (by kernel_rfl) hW.cls (Rd.pureE (v0 := Value.int .i64 (IntKind.i64.wrap ((by_ : Int) + 1))) (fun _ => by kernel_rfl) (congrArg (Value.int .i64) ((w_i64 (x := (by_ : Int) + 1) (by omega) (by omega)).trans (by omega)))) ?_; clear hA ac; intro ac hA
                                refine st hA (by kernel_rfl) (by kernel_rfl) (by kernel_rfl) (Runs.call (fun _ => by kernel_rfl) (e_with13 (some ⟨b14, o15, none⟩) c_L L (i) ((by_ : Int) + 1) w4 ((hW).getG 0 rfl) (by first | assumption | omega | (simp; omega) | simp) (by first | omega | (simp; done)) (by first | omega | (simp; done))) ?_)
                                rintro _ w18 ⟨Ao19, co20, rfl, hcco20, hfco20, hfw18⟩; refine ⟨_, rfl, ?_⟩; have hW0 := hW; have hW := hW0.call hfw18
                                have hW := hW0.addFromAt hW hfco20 (in_cons (in_at 0 rfl) in_nil)
                                have hsco20 : Res.src (roR Ao19 1 enI (List.set L (Int.toNat ((i))) ((by_ : Int) + 1))) [roR (some ⟨b14, o15, none⟩) 1 enI L] w := src_call hfco20 (srcs_cons (src_arg (.head _)) srcs_nil) hW0.fr.size
                                clear hW0 hA ac; intro ac hA
                                refine st hA (by kernel_rfl) (by kernel_rfl) (by kernel_rfl) (Runs.store (v := Value.agg #[Value.slice Ao19 (List.set L (Int.toNat ((i))) ((by_ : Int) + 1)).length co20]) (b := b3) (j := 0) (n := 1) (cs' := #[Value.slice Ao19 (List.set L (Int.toNat ((i))) ((by_ : Int) + 1)).length co20]) (H' := [Cel b3 #[Value.slice Ao19 (List.set L (Int.toNat ((i))) ((by_ : Int) + 1)).length co20] 40, Cel b1 #[Value.slice (some ⟨b14, o15, none⟩) L.length c_L] 40]) (by kernel_rfl) (by kernel_rfl) (by kernel_rfl) (by kernel_rfl) (by kernel_rfl) hW 0 (by rfl) (Nat.le_of_ble_eq_true (by kernel_rfl)) (by kernel_rfl) (by rfl) ?_); clear hA ac hW; intro w21 hW ac hA
                                refine st_rd (v := Value.int .i64 0) hA (by kernel_rfl) (by kernel_rfl) (by kernel_rfl) hW.cls (Rd.pure fun _ => by kernel_rfl) ?_; clear hA ac; intro ac hA
                                refine wpList_nil ?_
                                refine thenN ?_
                                refine wp_ret ?_
                                refine ret2 (v1 := Value.agg #[Value.slice Ao19 (List.set L (Int.toNat ((i))) ((by_ : Int) + 1)).length co20]) (v2 := Value.int .i64 0) (by rfl) hA (Got.cell (b := b3) (i := 0) hA (by kernel_rfl) (by kernel_rfl) (hW.cel 0 rfl) (by kernel_rfl)) (Got.tmp hA (by kernel_rfl) (by kernel_rfl)) ?_
                                clear hA
                                exact ⟨List.set L (Int.toNat ((i))) ((by_ : Int) + 1), 0, Ao19, co20, by first | rfl | (simp; done), by simp only [rLock]; (repeat' split) <;> first | rfl | (exfalso; omega) | omega | (exfalso; simp_all; done) | (simp_all; done) | (simp_all; omega), (by first | assumption | omega | (simp; omega) | simp), (hW.outSrc 0 rfl hsco20), hW.fr⟩)))))

set_option maxRecDepth 100000 in
theorem e_runlock (A_L : Option Addr) (c_L : Nat) (L : List Int) (i : Int) (w : World) (hr_L : RowAt w A_L 1 enI L) (hc_L : L.length ≤ c_L) (hl : L.length ≤ 1000) (hB : ∀ x ∈ L, 0 ≤ x ∧ x ≤ 65536) : Calls Try.prog 26 #[Value.agg #[Value.slice A_L L.length c_L], Value.int .i64 i] w (fun e w' => ∃ L' : List Int, ∃ who : Int, ∃ er : Int, ∃ (A_o : Option Addr) (c_o : Nat), e = .returned (Value.tuple #[Value.agg #[Value.slice A_o (L').length c_o], Value.int .i64 who, Value.int .i64 er]) ∧ ((L', who, er) = rUnlock L i) ∧ (L').length ≤ c_o ∧ (roR A_o 1 enI L').from_ [roR A_L 1 enI L] w w' ∧ Fr No w w') := by
  have _hu := hc_L; have _hv := hr_L; clear _hu _hv
  have _hu := hl; clear _hu
  have _hu := hB; clear _hu
  refine enter_E 33 Try.func26 rfl rfl (by kernel_rfl) (L := [(0, Value.agg #[Value.slice A_L L.length c_L]), (1, Value.int .i64 i)]) (by kernel_rfl) ?_
  intro ac hA
  have hW := Ws.start w No
  have hW := hW.arg hr_L
  refine wp_seq ?_
  refine wp_region_lit ?_
  refine st hA (by kernel_rfl) (by kernel_rfl) (by kernel_rfl) (Runs.cells (fun b => Value.pointer (some ⟨b, 0, none⟩)) #[Value.slice A_L L.length c_L] 40 (fun _ => by kernel_rfl) hW ?_); clear hA ac hW; intro b1 w2 hW hb1 hfw2 ac hA
  refine st hA (by kernel_rfl) (by kernel_rfl) (by kernel_rfl) (Runs.cells (fun b => Value.pointer (some ⟨b, 0, none⟩)) #[Value.slice none 0 0] 40 (fun _ => by kernel_rfl) hW ?_); clear hA ac hW; intro b3 w4 hW hb3 hfw4 ac hA
  refine st_rd (v := Value.int .i64 0) hA (by kernel_rfl) (by kernel_rfl) (by kernel_rfl) hW.cls (Rd.pure fun _ => by kernel_rfl) ?_; clear hA ac; intro ac hA
  refine st_rd (v := Value.int .i64 0) hA (by kernel_rfl) (by kernel_rfl) (by kernel_rfl) hW.cls (Rd.pure fun _ => by kernel_rfl) ?_; clear hA ac; intro ac hA
  refine wpList_nil ?_
  refine thenN ?_
  refine wp_seq ?_
  refine wp_seq ?_
  refine wp_region_lit ?_
  refine st_rd (v := Value.int .i64 i) hA (by kernel_rfl) (by kernel_rfl) (by kernel_rfl) hW.cls (Rd.pure fun _ => by kernel_rfl) ?_; clear hA ac; intro ac hA
  refine st_rd (v := Value.bool (decide ((i : Int) < (0 : Int)))) hA (by kernel_rfl) (by kernel_rfl) (by kernel_rfl) hW.cls (Rd.pure fun _ => by kernel_rfl) ?_; clear hA ac; intro ac hA
  refine st_rd (v := Value.bool (decide ((i : Int) < (0 : Int)))) hA (by kernel_rfl) (by kernel_rfl) (by kernel_rfl) hW.cls (Rd.pure fun _ => by kernel_rfl) ?_; clear hA ac; intro ac hA
  rcases Bool.eq_false_or_eq_true (decide ((i : Int) < (0 : Int))) with h5 | h5
  · skip
    rw [h5] at hA
    have h5 := of_decide_eq_true h5
    first
    | (exfalso; clear hA hW; omega)
    | (
        refine st_skip hA (by kernel_rfl) (by kernel_rfl) ?_; clear hA ac; intro ac hA
        refine st_skip hA (by kernel_rfl) (by kernel_rfl) ?_; clear hA ac; intro ac hA
        refine st_skip hA (by kernel_rfl) (by kernel_rfl) ?_; clear hA ac; intro ac hA
        refine st_skip hA (by kernel_rfl) (by kernel_rfl) ?_; clear hA ac; intro ac hA
        refine st_skip hA (by kernel_rfl) (by kernel_rfl) ?_; clear hA ac; intro ac hA
        refine st_rd (v := Value.bool true) hA (by kernel_rfl) (by kernel_rfl) (by kernel_rfl) hW.cls (Rd.pure fun _ => by kernel_rfl) ?_; clear hA ac; intro ac hA
        refine wpList_nil ?_
        refine thenN ?_
        refine wp_cond_true (hA.eval (by kernel_rfl)) ?_
        refine wp_seq ?_
        refine wp_region_lit ?_
        refine st_rd (v := Value.agg #[Value.slice A_L L.length c_L]) hA (by kernel_rfl) (by kernel_rfl) (by kernel_rfl) hW.cls (Rd.load (b := b1) (i := 0) (by kernel_rfl) (fun _ hw => (hw.1).cel 1 rfl) (by kernel_rfl)) ?_; clear hA ac; intro ac hA
        refine st hA (by kernel_rfl) (by kernel_rfl) (by kernel_rfl) (Runs.store (v := Value.agg #[Value.slice A_L L.length c_L]) (b := b3) (j := 0) (n := 1) (cs' := #[Value.slice A_L L.length c_L]) (H' := [Cel b3 #[Value.slice A_L L.length c_L] 40, Cel b1 #[Value.slice A_L L.length c_L] 40]) (by kernel_rfl) (by kernel_rfl) (by kernel_rfl) (by kernel_rfl) (by kernel_rfl) hW 0 (by rfl) (Nat.le_of_ble_eq_true (by kernel_rfl)) (by kernel_rfl) (by rfl) ?_); clear hA ac hW; intro w6 hW ac hA
        refine st_rd (v := Value.int .i64 0) hA (by kernel_rfl) (by kernel_rfl) (by kernel_rfl) hW.cls (Rd.pure fun _ => by kernel_rfl) ?_; clear hA ac; intro ac hA
        refine st_rd (v := Value.int .i64 4) hA (by kernel_rfl) (by kernel_rfl) (by kernel_rfl) hW.cls (Rd.pure fun _ => by kernel_rfl) ?_; clear hA ac; intro ac hA
        refine wpList_nil ?_
        refine thenN ?_
        refine wp_ret ?_
        refine thenR ?_
        refine ret3 (v1 := Value.agg #[Value.slice A_L L.length c_L]) (v2 := Value.int .i64 0) (v3 := Value.int .i64 4) (by rfl) hA (Got.cell (b := b3) (i := 0) hA (by kernel_rfl) (by kernel_rfl) (hW.cel 0 rfl) (by kernel_rfl)) (Got.tmp hA (by kernel_rfl) (by kernel_rfl)) (Got.tmp hA (by kernel_rfl) (by kernel_rfl)) ?_
        clear hA
        exact ⟨L, 0, 4, A_L, c_L, by first | rfl | (simp; done), by simp only [rUnlock]; (repeat' split) <;> first | rfl | (exfalso; omega) | omega | (exfalso; simp_all; done) | (simp_all; done) | (simp_all; omega), (by first | assumption | omega | (simp; omega) | simp), (hW.outSrc 0 rfl (src_arg (.head _))), hW.fr⟩)
  · skip
    rw [h5] at hA
    have h5 := of_decide_eq_false h5
    first
    | (exfalso; clear hA hW; omega)
    | (
        refine st_rd (v := Value.int .i64 i) hA (by kernel_rfl) (by kernel_rfl) (by kernel_rfl) hW.cls (Rd.pure fun _ => by kernel_rfl) ?_; clear hA ac; intro ac hA
        refine st_rd (v := Value.pointer (some ⟨b1, 0, none⟩)) hA (by kernel_rfl) (by kernel_rfl) (by kernel_rfl) hW.cls (Rd.pure fun _ => by kernel_rfl) ?_; clear hA ac; intro ac hA
        refine st_rd (v := Value.slice A_L L.length c_L) hA (by kernel_rfl) (by kernel_rfl) (by kernel_rfl) hW.cls (Rd.load (b := b1) (i := 0) (by kernel_rfl) (fun _ hw => (hw.1).cel 1 rfl) (by kernel_rfl)) ?_; clear hA ac; intro ac hA
        refine st_rd (v := Value.int .i64 ((L.length : Nat) : Int)) hA (by kernel_rfl) (by kernel_rfl) (by kernel_rfl) hW.cls (Rd.pure fun _ => by kernel_rfl) ?_; clear hA ac; intro ac hA
        refine st_rd (v := Value.bool (decide ((i : Int) ≥ (((L.length : Nat) : Int) : Int)))) hA (by kernel_rfl) (by kernel_rfl) (by kernel_rfl) hW.cls (Rd.pure fun _ => by kernel_rfl) ?_; clear hA ac; intro ac hA
        refine st_rd (v := Value.bool (decide ((i : Int) ≥ (((L.length : Nat) : Int) : Int)))) hA (by kernel_rfl) (by kernel_rfl) (by kernel_rfl) hW.cls (Rd.pure fun _ => by kernel_rfl) ?_; clear hA ac; intro ac hA
        refine wpList_nil ?_
        refine thenN ?_
        refine wp_cond_split (t := decide ((i : Int) ≥ (((L.length : Nat) : Int) : Int))) (hA.eval (by kernel_rfl)) (fun h7 => ?_) (fun h7 => ?_)
        · skip
          have h7 := of_decide_eq_true h7
          first
          | (exfalso; clear hA hW; omega)
          | (
              refine wp_seq ?_
              refine wp_region_lit ?_
              refine st_rd (v := Value.agg #[Value.slice A_L L.length c_L]) hA (by kernel_rfl) (by kernel_rfl) (by kernel_rfl) hW.cls (Rd.load (b := b1) (i := 0) (by kernel_rfl) (fun _ hw => (hw.1).cel 1 rfl) (by kernel_rfl)) ?_; clear hA ac; intro ac hA
              refine st hA (by kernel_rfl) (by kernel_rfl) (by kernel_rfl) (Runs.store (v := Value.agg #[Value.slice A_L L.length c_L]) (b := b3) (j := 0) (n := 1) (cs' := #[Value.slice A_L L.length c_L]) (H' := [Cel b3 #[Value.slice A_L L.length c_L] 40, Cel b1 #[Value.slice A_L L.length c_L] 40]) (by kernel_rfl) (by kernel_rfl) (by kernel_rfl) (by kernel_rfl) (by kernel_rfl) hW 0 (by rfl) (Nat.le_of_ble_eq_true (by kernel_rfl)) (by kernel_rfl) (by rfl) ?_); clear hA ac hW; intro w8 hW ac hA
              refine st_rd (v := Value.int .i64 0) hA (by kernel_rfl) (by kernel_rfl) (by kernel_rfl) hW.cls (Rd.pure fun _ => by kernel_rfl) ?_; clear hA ac; intro ac hA
              refine st_rd (v := Value.int .i64 4) hA (by kernel_rfl) (by kernel_rfl) (by kernel_rfl) hW.cls (Rd.pure fun _ => by kernel_rfl) ?_; clear hA ac; intro ac hA
              refine wpList_nil ?_
              refine thenN ?_
              refine wp_ret ?_
              refine thenR ?_
              refine ret3 (v1 := Value.agg #[Value.slice A_L L.length c_L]) (v2 := Value.int .i64 0) (v3 := Value.int .i64 4) (by rfl) hA (Got.cell (b := b3) (i := 0) hA (by kernel_rfl) (by kernel_rfl) (hW.cel 0 rfl) (by kernel_rfl)) (Got.tmp hA (by kernel_rfl) (by kernel_rfl)) (Got.tmp hA (by kernel_rfl) (by kernel_rfl)) ?_
              clear hA
              exact ⟨L, 0, 4, A_L, c_L, by first | rfl | (simp; done), by simp only [rUnlock]; (repeat' split) <;> first | rfl | (exfalso; omega) | omega | (exfalso; simp_all; done) | (simp_all; done) | (simp_all; omega), (by first | assumption | omega | (simp; omega) | simp), (hW.outSrc 0 rfl (src_arg (.head _))), hW.fr⟩)
        · skip
          have h7 := of_decide_eq_false h7
          first
          | (exfalso; clear hA hW; omega)
          | (
              refine wp_skip ?_
              refine thenN ?_
              refine wp_seq ?_
              refine wp_seq ?_
              refine wp_region_lit ?_
              refine st_rd (v := Value.pointer (some ⟨b1, 0, none⟩)) hA (by kernel_rfl) (by kernel_rfl) (by kernel_rfl) hW.cls (Rd.pure fun _ => by kernel_rfl) ?_; clear hA ac; intro ac hA
              refine st_rd (v := Value.slice A_L L.length c_L) hA (by kernel_rfl) (by kernel_rfl) (by kernel_rfl) hW.cls (Rd.load (b := b1) (i := 0) (by kernel_rfl) (fun _ hw => (hw.1).cel 1 rfl) (by kernel_rfl)) ?_; clear hA ac; intro ac hA
              refine st_rd (v := Value.int .i64 i) hA (by kernel_rfl) (by kernel_rfl) (by kernel_rfl) hW.cls (Rd.pure fun _ => by kernel_rfl) ?_; clear hA ac; intro ac hA
              obtain ⟨y9, hy9⟩ : ∃ y, L[Int.toNat (i)]? = some y := ⟨_, List.getElem?_eq_getElem (by first | omega | (simp; done) | (simp; omega))⟩
              obtain ⟨b10, o11, rfl, hbb10⟩ := row_some ((hW).getG 0 rfl) hy9
              refine st_rd (v := Value.pointer (some ⟨b10, o11 + (Int.toNat (i)) * 1, none⟩)) hA (by kernel_rfl) (by kernel_rfl) (by kernel_rfl) hW.cls (Rd.indexAddrI (e := 3) (sz := 1) (b := b10) (off := o11) (n := L.length) (c := c_L) (k := i) (by kernel_rfl) (by kernel_rfl) (by omega) (by first | omega | (simp; done) | (simp; omega)) (fun _ => by kernel_rfl) (fun _ => by kernel_rfl)) ?_; clear hA ac; intro ac hA
              refine st_rd (v := Value.int .i64 y9) hA (by kernel_rfl) (by kernel_rfl) (by kernel_rfl) hW.cls (Rd.loadRow (b := b10) (i := o11 + (Int.toNat (i)) * 1) (xs := [Value.int .i64 y9]) (by kernel_rfl) (fun _ hw => row_ld ((hw.1).getG 0 rfl) hy9 (Fr.refl No _) (fun h => h) 0 1 (by kernel_rfl)) (by kernel_rfl)) ?_; clear hA ac; intro ac hA
              refine st_rd (v := Value.bool ((y9 : Int) == (0 : Int))) hA (by kernel_rfl) (by kernel_rfl) (by kernel_rfl) hW.cls (Rd.pure fun _ => by kernel_rfl) ?_; clear hA ac; intro ac hA
              refine wpList_nil ?_
              refine thenN ?_
              refine wp_cond_split (t := (y9 : Int) == (0 : Int)) (hA.eval (by kernel_rfl)) (fun h12 => ?_) (fun h12 => ?_)
              · skip
                have h12 := eq_of_beq h12
                first
                | (exfalso; clear hA hW; omega)
                | (
                    refine wp_seq ?_
                    have hby9 := hB y9 (List.mem_of_getElem? hy9); have hdy9 : (L[Int.toNat (i)]?).getD 0 = y9 := by rw [hy9]; rfl
                    refine wp_region_lit ?_
                    refine st_rd (v := Value.agg #[Value.slice (some ⟨b10, o11, none⟩) L.length c_L]) hA (by kernel_rfl) (by kernel_rfl) (by kernel_rfl) hW.cls (Rd.load (b := b1) (i := 0) (by kernel_rfl) (fun _ hw => (hw.1).cel 1 rfl) (by kernel_rfl)) ?_; clear hA ac; intro ac hA
                    refine st hA (by kernel_rfl) (by kernel_rfl) (by kernel_rfl) (Runs.store (v := Value.agg #[Value.slice (some ⟨b10, o11, none⟩) L.length c_L]) (b := b3) (j := 0) (n := 1) (cs' := #[Value.slice (some ⟨b10, o11, none⟩) L.length c_L]) (H' := [Cel b3 #[Value.slice (some ⟨b10, o11, none⟩) L.length c_L] 40, Cel b1 #[Value.slice (some ⟨b10, o11, none⟩) L.length c_L] 40]) (by kernel_rfl) (by kernel_rfl) (by kernel_rfl) (by kernel_rfl) (by kernel_rfl) hW 0 (by rfl) (Nat.le_of_ble_eq_true (by kernel_rfl)) (by kernel_rfl) (by rfl) ?_); clear hA ac hW; intro w13 hW ac hA
                    refine st_rd (v := Value.int .i64 0) hA (by kernel_rfl) (by kernel_rfl) (by kernel_rfl) hW.cls (Rd.pure fun _ => by kernel_rfl) ?_; clear hA ac; intro ac hA
                    refine st_rd (v := Value.int .i64 231) hA (by kernel_rfl) (by kernel_rfl) (by kernel_rfl) hW.cls (Rd.pure fun _ => by kernel_rfl) ?_; clear hA ac; intro ac hA
                    refine wpList_nil ?_
                    refine thenN ?_
                    refine wp_ret ?_
                    refine thenR ?_
                    refine ret3 (v1 := Value.agg #[Value.slice (some ⟨b10, o11, none⟩) L.length c_L]) (v2 := Value.int .i64 0) (v3 := Value.int .i64 231) (by rfl) hA (Got.cell (b := b3) (i := 0) hA (by kernel_rfl) (by kernel_rfl) (hW.cel 0 rfl) (by kernel_rfl)) (Got.tmp hA (by kernel_rfl) (by kernel_rfl)) (Got.tmp hA (by kernel_rfl) (by kernel_rfl)) ?_
                    clear hA
                    exact ⟨L, 0, 231, (some ⟨b10, o11, none⟩), c_L, by first | rfl | (simp; done), by simp only [rUnlock]; (repeat' split) <;> first | rfl | (exfalso; omega) | omega | (exfalso; simp_all; done) | (simp_all; done) | (simp_all; omega), (by first | assumption | omega | (simp; omega) | simp), (hW.outSrc 0 rfl (src_arg (.head _))), hW.fr⟩)
              · skip
                have h12 := ne_of_beq_false h12
                first
                | (exfalso; clear hA hW; omega)
                | (
                    refine wp_skip ?_
                    refine thenN ?_
                    refine wp_seq ?_
                    have hby9 := hB y9 (List.mem_of_getElem? hy9); have hdy9 : (L[Int.toNat (i)]?).getD 0 = y9 := by rw [hy9]; rfl
                    refine wp_cut (fun ac_ wl_ => ∃ Aor5_2 : Option Addr, ∃ cor5_2 : Nat, ((List.set L (Int.toNat ((i))) (0)).length ≤ cor5_2) ∧ (Res.src (roR Aor5_2 1 enI (List.set L (Int.toNat ((i))) (0))) [roR (some ⟨b10, o11, none⟩) 1 enI L] w) ∧ Fm 33 [] [(0, Value.agg #[Value.slice (some ⟨b10, o11, none⟩) L.length c_L]), (1, Value.int .i64 i), (2, Value.pointer (some ⟨b1, 0, none⟩)), (4, Value.pointer (some ⟨b3, 0, none⟩)), (5, Value.int .i64 ((y9 : Int) - 1)), (6, Value.int .i64 0), (7, Value.int .i64 i), (8, Value.bool false), (9, Value.bool false), (10, Value.int .i64 i), (11, Value.pointer (some ⟨b1, 0, none⟩)), (12, Value.slice (some ⟨b10, o11, none⟩) L.length c_L), (13, Value.int .i64 ((L.length : Nat) : Int)), (14, Value.bool (decide ((i : Int) ≥ (((L.length : Nat) : Int) : Int)))), (15, Value.bool (decide ((i : Int) ≥ (((L.length : Nat) : Int) : Int)))), (17, Value.pointer (some ⟨b1, 0, none⟩)), (18, Value.slice (some ⟨b10, o11, none⟩) L.length c_L), (19, Value.int .i64 i), (20, Value.pointer (some ⟨b10, o11 + (Int.toNat (i)) * 1, none⟩)), (21, Value.int .i64 y9), (22, Value.bool ((y9 : Int) == (0 : Int)))] ac_ ∧ Ws w No [Cel b3 #[Value.slice Aor5_2 (List.set L (Int.toNat ((i))) (0)).length cor5_2] 40, Cel b1 #[Value.slice (some ⟨b10, o11, none⟩) L.length c_L] 40] [roR Aor5_2 1 enI (List.set L (Int.toNat ((i))) (0)), roR (some ⟨b10, o11, none⟩) 1 enI L] wl_) ?_ ?_
                    · refine sr_region (m := 12) (C := Ws w No [Cel b1 #[Value.slice (some ⟨b10, o11, none⟩) L.length c_L] 40] [roR (some ⟨b10, o11, none⟩) 1 enI L]) (fun i => [0, 4, 7].contains i) (fun i => [0, 2, 4, 7, 9].contains i) (fun i => [1, 3, 5, 6, 8, 10, 11].contains i) (by kernel_rfl) (by kernel_rfl) (by kernel_rfl) (by kernel_rfl) hW ?_; clear hW; intro w14 hW hfw14 hR; have hC : Ws w No [Cel b1 #[Value.slice (some ⟨b10, o11, none⟩) L.length c_L] 40] [roR (some ⟨b10, o11, none⟩) 1 enI L] w14 := hW.pick [1] (by decide) rfl
                      refine sr_take (i := 0) (v := Value.agg #[Value.slice (some ⟨b10, o11, none⟩) L.length c_L]) hR (by kernel_rfl) rfl (by kernel_rfl) (by kernel_rfl) (by kernel_rfl) (fun _ _ _ h => h.elim) hA (by kernel_rfl) (by kernel_rfl) (by kernel_rfl) hC (Rd.load (b := b1) (i := 0) (by kernel_rfl) (fun _ hw => (hw).cel 0 rfl) (by kernel_rfl)) ?_; clear hA ac; intro ac hA
                      refine sr_pure (i := 1) (v := Value.int .i64 i) hR (by kernel_rfl) rfl (by kernel_rfl) (by kernel_rfl) (fun _ _ _ h => h.elim) hA (by kernel_rfl) (by kernel_rfl) (by kernel_rfl) (Rd.pure fun _ => by kernel_rfl) ?_; clear hA ac; intro ac hA
                      refine sr_pure (i := 3) (v := Value.pointer (some ⟨b1, 0, none⟩)) hR (by kernel_rfl) rfl (by kernel_rfl) (by kernel_rfl) (fun _ _ _ h => h.elim) hA (by kernel_rfl) (by kernel_rfl) (by kernel_rfl) (Rd.pure fun _ => by kernel_rfl) ?_; clear hA ac; intro ac hA
                      refine sr_take (i := 4) (v := Value.slice (some ⟨b10, o11, none⟩) L.length c_L) hR (by kernel_rfl) rfl (by kernel_rfl) (by kernel_rfl) (by kernel_rfl) (fun _ _ _ h => h.elim) hA (by kernel_rfl) (by kernel_rfl) (by kernel_rfl) hC (Rd.load (b := b1) (i := 0) (by kernel_rfl) (fun _ hw => (hw).cel 0 rfl) (by kernel_rfl)) ?_; clear hA ac; intro ac hA
                      refine sr_pure (i := 5) (v := Value.int .i64 i) hR (by kernel_rfl) rfl (by kernel_rfl) (by kernel_rfl) (fun _ _ _ h => h.elim) hA (by kernel_rfl) (by kernel_rfl) (by kernel_rfl) (Rd.pure fun _ => by kernel_rfl) ?_; clear hA ac; intro ac hA
                      refine sr_pure (i := 6) (v := Value.pointer (some ⟨b10, o11 + (Int.toNat (i)) * 1, none⟩)) hR (by kernel_rfl) rfl (by kernel_rfl) (by kernel_rfl) (fun _ _ _ h => h.elim) hA (by kernel_rfl) (by kernel_rfl) (by kernel_rfl) (Rd.indexAddrI (e := 3) (sz := 1) (b := b10) (off := o11) (n := L.length) (c := c_L) (k := i) (by kernel_rfl) (by kernel_rfl) (by omega) (by first | omega | (simp; done) | (simp; omega)) (fun _ => by kernel_rfl) (fun _ => by kernel_rfl)) ?_; clear hA ac; intro ac hA
                      refine sr_take (i := 7) (v := Value.int .i64 y9) hR (by kernel_rfl) rfl (by kernel_rfl) (by kernel_rfl) (by kernel_rfl) (fun _ _ _ h => h.elim) hA (by kernel_rfl) (by kernel_rfl) (by kernel_rfl) hC (Rd.loadRow (b := b10) (i := o11 + (Int.toNat (i)) * 1) (xs := [Value.int .i64 y9]) (by kernel_rfl) (fun _ hw => row_ld ((hw).getG 0 rfl) hy9 (Fr.refl No _) (fun h => h) 0 1 (by kernel_rfl)) (by kernel_rfl)) ?_; clear hA ac; intro ac hA
                      refine sr_pure (i := 8) (v := Value.int .i64 ((y9 : Int) - 1)) hR (by kernel_rfl) rfl (by kernel_rfl) (by kernel_rfl) (fun _ _ _ h => h.elim) hA (by kernel_rfl) (by kernel_rfl) (by kernel_rfl) (Rd.pureE (v0 := Value.int .i64 (IntKind.i64.wrap ((y9 : Int) - 1))) (fun _ => by kernel_rfl) (congrArg (Value.int .i64) ((w_i64 (x := (y9 : Int) - 1) (by omega) (by omega)).trans (by omega)))) ?_; clear hA ac; intro ac hA
                      refine sr_one (i := 2) (by kernel_rfl) (sr_do rfl hA (by kernel_rfl) (by kernel_rfl) (by kernel_rfl) (Runs.call (fun _ => by kernel_rfl) (e_with13 (some ⟨b10, o11, none⟩) c_L L (i) (0) w14 ((hW).getG 0 rfl) (by first | assumption | omega | (simp; omega) | simp) (by first | omega | (simp; done)) (by first | omega | (simp; done))) ?_))
                      rintro _ w15 ⟨Aor5_2, cor5_2, rfl, hccor5_2, hfcor5_2, hfw15⟩; refine ⟨_, rfl, ?_⟩; have hW0 := hW; have hW := hW0.call hfw15
                      have hW := hW0.addFromAt hW hfcor5_2 (in_cons (in_at 0 rfl) in_nil)
                      have hscor5_2 : Res.src (roR Aor5_2 1 enI (List.set L (Int.toNat ((i))) (0))) [roR (some ⟨b10, o11, none⟩) 1 enI L] w := src_call hfcor5_2 (srcs_cons (src_arg (.head _)) srcs_nil) hW0.fr.size
                      clear hW0 hA ac; intro ac hA
                      refine ⟨⟨fun _ => (hW.pick [1] (by decide) rfl).pickG [1] rfl, fun h => absurd h (by decide)⟩, ?_⟩; have hC : Ws w No [Cel b1 #[Value.slice (some ⟨b10, o11, none⟩) L.length c_L] 40] [roR (some ⟨b10, o11, none⟩) 1 enI L] w15 := (hW.pick [1] (by decide) rfl).pickG [1] rfl
                      refine sr_one (i := 9) (by kernel_rfl) (sr_do rfl hA (by kernel_rfl) (by kernel_rfl) (by kernel_rfl) (Runs.store (v := Value.agg #[Value.slice Aor5_2 (List.set L (Int.toNat ((i))) (0)).length cor5_2]) (b := b3) (j := 0) (n := 1) (cs' := #[Value.slice Aor5_2 (List.set L (Int.toNat ((i))) (0)).length cor5_2]) (H' := [Cel b3 #[Value.slice Aor5_2 (List.set L (Int.toNat ((i))) (0)).length cor5_2] 40, Cel b1 #[Value.slice (some ⟨b10, o11, none⟩) L.length c_L] 40]) (by kernel_rfl) (by kernel_rfl) (by kernel_rfl) (by kernel_rfl) (by kernel_rfl) hW 0 (by rfl) (Nat.le_of_ble_eq_true (by kernel_rfl)) (by kernel_rfl) (by rfl) ?_)); clear hA ac hW; intro w16 hW ac hA
                      refine ⟨⟨fun _ => (hW.pick [1] (by decide) rfl).pickG [1] rfl, fun h => absurd h (by decide)⟩, ?_⟩; have hC : Ws w No [Cel b1 #[Value.slice (some ⟨b10, o11, none⟩) L.length c_L] 40] [roR (some ⟨b10, o11, none⟩) 1 enI L] w16 := (hW.pick [1] (by decide) rfl).pickG [1] rfl
                      refine sr_pure (i := 10) (v := Value.int .i64 ((y9 : Int) - 1)) hR (by kernel_rfl) rfl (by kernel_rfl) (by kernel_rfl) (fun _ _ _ h => h.elim) hA (by kernel_rfl) (by kernel_rfl) (by kernel_rfl) (Rd.pure fun _ => by kernel_rfl) ?_; clear hA ac; intro ac hA
                      refine sr_pure (i := 11) (v := Value.int .i64 0) hR (by kernel_rfl) rfl (by kernel_rfl) (by kernel_rfl) (fun _ _ _ h => h.elim) hA (by kernel_rfl) (by kernel_rfl) (by kernel_rfl) (Rd.pure fun _ => by kernel_rfl) ?_; clear hA ac; intro ac hA
                      refine sr_done (by kernel_rfl) ?_ _
                      exact ⟨Aor5_2, cor5_2, hccor5_2, hscor5_2, hA.sub ⟨⟨by kernel_rfl, by kernel_rfl⟩, ⟨by kernel_rfl, by kernel_rfl⟩, ⟨by kernel_rfl, by kernel_rfl⟩, ⟨by kernel_rfl, by kernel_rfl⟩, ⟨by kernel_rfl, by kernel_rfl⟩, ⟨by kernel_rfl, by kernel_rfl⟩, ⟨by kernel_rfl, by kernel_rfl⟩, ⟨by kernel_rfl, by kernel_rfl⟩, ⟨by kernel_rfl, by kernel_rfl⟩, ⟨by kernel_rfl, by kernel_rfl⟩, ⟨by kernel_rfl, by kernel_rfl⟩, ⟨by kernel_rfl, by kernel_rfl⟩, ⟨by kernel_rfl, by kernel_rfl⟩, ⟨by kernel_rfl, by kernel_rfl⟩, ⟨by kernel_rfl, by kernel_rfl⟩, ⟨by kernel_rfl, by kernel_rfl⟩, ⟨by kernel_rfl, by kernel_rfl⟩, ⟨by kernel_rfl, by kernel_rfl⟩, ⟨by kernel_rfl, by kernel_rfl⟩, ⟨by kernel_rfl, by kernel_rfl⟩, ⟨by kernel_rfl, by kernel_rfl⟩, trivial⟩, (hW.pick [0, 1] (by decide) rfl).pickG [0, 1] rfl⟩
                    clear hA ac hW; rintro ac w17 ⟨Aor5_2, cor5_2, hccor5_2, hscor5_2, hA, hW⟩
                    refine thenN ?_
                    refine wp_ret ?_
                    refine ret3 (v1 := Value.agg #[Value.slice Aor5_2 (List.set L (Int.toNat ((i))) (0)).length cor5_2]) (v2 := Value.int .i64 ((y9 : Int) - 1)) (v3 := Value.int .i64 0) (by rfl) hA (Got.cell (b := b3) (i := 0) hA (by kernel_rfl) (by kernel_rfl) (hW.cel 0 rfl) (by kernel_rfl)) (Got.tmp hA (by kernel_rfl) (by kernel_rfl)) (Got.tmp hA (by kernel_rfl) (by kernel_rfl)) ?_
                    clear hA
                    exact ⟨List.set L (Int.toNat ((i))) (0), (y9 : Int) - 1, 0, Aor5_2, cor5_2, by first | rfl | (simp; done), by simp only [rUnlock]; (repeat' split) <;> first | rfl | (exfalso; omega) | omega | (exfalso; simp_all; done) | (simp_all; done) | (simp_all; omega), (by first | assumption | omega | (simp; omega) | simp), (hW.outSrc 0 rfl hscor5_2), hW.fr⟩)))

end Go.Proofs.Ytgeikokmhkfkgaa.L
