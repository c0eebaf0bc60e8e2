/- Contracts, walked by program over the engine's laws. -/
import Derived.Test.YtcokpdlmahlpnaaProg
import Derived.Test.YtcokpdlmahlpnaaT13
namespace Go.Proofs.Ytcokpdlmahlpnaa.L
open Go.RowKit

set_option maxRecDepth 100000 in
theorem e_dnew  (w : World)  : Calls Try.prog 31 #[] w (fun e w' => ∃ nd : Nat, ∃ f' : Nat → Int, e = .returned (Value.pointer (some ⟨nd, 0, none⟩)) ∧ (∀ q, q < 256 → f' q = bitsN 8 (q : Int)) ∧ Made (DigR nd f' 18446744073709551615 0) w w') := by
 refine enter_E 9 Try.func31 rfl rfl (by kernel_rfl) (L := []) (by kernel_rfl) ?_
 intro ac hA
 have hW := Ws.start w No
 refine wp_seq ?_
 refine wp_region_lit ?_
 refine st_rd (v := Value.pointer none) hA (by kernel_rfl) (by kernel_rfl) (by kernel_rfl) hW.cls (Rd.pure fun _ => by kernel_rfl) ?_; clear hA ac; intro ac hA
 refine wpList_nil ?_
 refine thenN ?_
 refine wp_seq ?_
 refine wp_region_lit ?_
 refine st_rd (v := Value.agg (pgT .u64 256 (fun _ => 0) #[Value.int .u64 18446744073709551615, Value.int .i64 0, Value.bool true])) hA (by kernel_rfl) (by kernel_rfl) (by kernel_rfl) hW.cls (Rd.pure fun _ => by kernel_rfl) ?_; clear hA ac; intro ac hA
 refine st hA (by kernel_rfl) (by kernel_rfl) (by kernel_rfl) (Runs.cells (fun b => Value.pointer (some ⟨b, 0, none⟩)) (pgT .u64 256 (fun _ => 0) #[Value.int .u64 18446744073709551615, Value.int .i64 0, Value.bool true]) 81 (fun _ => by kernel_rfl) hW ?_); clear hA ac hW; intro b1 w2 hW hb1 hfw2 ac hA
 refine st_rd (v := Value.pointer (some ⟨b1, 0, none⟩)) hA (by kernel_rfl) (by kernel_rfl) (by kernel_rfl) hW.cls (Rd.pure fun _ => by kernel_rfl) ?_; clear hA ac; intro ac hA
 refine wpList_nil ?_
 refine thenN ?_
 refine wp_seq ?_
 have hW : Ws w No [DigR b1 (fun _ => 0) (18446744073709551615 : Int) (0 : Int)] [] w2 := Ws.pack (L := [PgTR .u64 256 81 (fun _ => 0) #[Value.int .u64 18446744073709551615, Value.int .i64 0, Value.bool true] b1]) (hW.pick [0] (by decide) rfl)
 refine wp_region_lit ?_
 refine st_rd (v := Value.pointer (some ⟨b1, 0, none⟩)) hA (by kernel_rfl) (by kernel_rfl) (by kernel_rfl) hW.cls (Rd.pure fun _ => by kernel_rfl) ?_; clear hA ac; intro ac hA
 refine st_rd (v := Value.pointer (some ⟨b1, 0, none⟩)) hA (by kernel_rfl) (by kernel_rfl) (by kernel_rfl) hW.cls (Rd.pure fun _ => by kernel_rfl) ?_; clear hA ac; intro ac hA
 refine st_rd (v := Value.pointer (some ⟨b1, 0, none⟩)) hA (by kernel_rfl) (by kernel_rfl) (by kernel_rfl) hW.cls (Rd.pure fun _ => by kernel_rfl) ?_; clear hA ac; intro ac hA
 refine st hA (by kernel_rfl) (by kernel_rfl) (by kernel_rfl) (Runs.call (fun _ => by kernel_rfl) (e_dfill b1 (fun _ => 0) (18446744073709551615 : Int) (0 : Int) w2 ((hW).get 0 rfl) ((hW).lt _ (List.mem_of_getElem? (i := 0) rfl))) ?_)
 rintro _ w3 ⟨u4, rfl, hw3_hT, hu_⟩; refine ⟨_, rfl, ?_⟩; replace hW := hW.upd (H' := [DigR b1 u4 (18446744073709551615 : Int) (0 : Int)]) 0 rfl hu_ rfl; clear hA ac; intro ac hA
 refine wpList_nil ?_
 refine thenN ?_
 refine wp_seq ?_
 refine wp_region_lit ?_
 refine st_rd (v := Value.pointer (some ⟨b1, 0, none⟩)) hA (by kernel_rfl) (by kernel_rfl) (by kernel_rfl) hW.cls (Rd.pure fun _ => by kernel_rfl) ?_; clear hA ac; intro ac hA
 refine st_rd (v := Value.pointer (some ⟨b1, 0, none⟩)) hA (by kernel_rfl) (by kernel_rfl) (by kernel_rfl) hW.cls (Rd.pure fun _ => by kernel_rfl) ?_; clear hA ac; intro ac hA
 refine wpList_nil ?_
 refine thenN ?_
 refine wp_ret ?_
 refine ret1 (v := Value.pointer (some ⟨b1, 0, none⟩)) (by rfl) hA (Got.tmp hA (by kernel_rfl) (by kernel_rfl)) ?_
 clear hA
 exact ⟨b1, u4, rfl, hw3_hT, hW.madeDone 0 rfl⟩

end Go.Proofs.Ytcokpdlmahlpnaa.L
