/- Layer 2, the plain law: a byte's eight steps are one look into the table. -/
import Derived.Test.YtcokpdlmahlpnaaT12
import Derived.Laws.Bits64
import Derived.Laws.BitsAllLaws
namespace Go.Proofs.Ytcokpdlmahlpnaa.L
open Go.RowKit Go.MapKept Go.Maps

def stepN (s : Nat) : Nat := if s % 2 = 1 then (s / 2) ^^^ 14514072000185962306 else s / 2
def stepsN : Nat → Nat → Nat
  | 0, s => s
  | n + 1, s => stepN (stepsN n s)
theorem stepN_xor (a b : Nat) : stepN (a ^^^ b) = stepN a ^^^ stepN b := by
  have h1 : (a ^^^ b) / 2 = a / 2 ^^^ b / 2 := Nat.xor_div_two
  have h2 : ((a ^^^ b) % 2 = 1) ↔ ¬ ((a % 2 = 1) ↔ (b % 2 = 1)) := by rw [Nat.xor_mod_two_eq_one]
  unfold stepN
  rw [h1]
  by_cases ha : a % 2 = 1 <;> by_cases hb : b % 2 = 1
  · rw [if_neg (by rw [h2]; simp [ha, hb]), if_pos ha, if_pos hb]
    rw [Nat.xor_assoc, Nat.xor_comm 14514072000185962306 (b / 2 ^^^ 14514072000185962306), Nat.xor_assoc (b / 2), Nat.xor_self, Nat.xor_zero]
  · rw [if_pos (by rw [h2]; simp [ha, hb]), if_pos ha, if_neg hb, Nat.xor_assoc, Nat.xor_comm (b / 2), ← Nat.xor_assoc]
  · rw [if_pos (by rw [h2]; simp [ha, hb]), if_neg ha, if_pos hb, Nat.xor_assoc]
  · rw [if_neg (by rw [h2]; simp [ha, hb]), if_neg ha, if_neg hb]
theorem stepsN_xor : ∀ (n a b : Nat), stepsN n (a ^^^ b) = stepsN n a ^^^ stepsN n b
  | 0, _, _ => rfl
  | n + 1, a, b => by show stepN (stepsN n (a ^^^ b)) = _; rw [stepsN_xor n, stepN_xor]; rfl
theorem stepN_even (m : Nat) : stepN (2 * m) = m := by unfold stepN; rw [if_neg (by omega)]; omega
theorem stepsN_256 (m : Nat) : stepsN 8 (256 * m) = m := by
  have e : ∀ (k m : Nat), stepN (2 * k * m) = k * m := fun k m => by rw [Nat.mul_assoc]; exact stepN_even _
  show stepN (stepN (stepN (stepN (stepN (stepN (stepN (stepN (256 * m)))))))) = m
  rw [show 256 = 2 * 128 from rfl, e 128, show 128 = 2 * 64 from rfl, e 64, show 64 = 2 * 32 from rfl, e 32, show 32 = 2 * 16 from rfl, e 16, show 16 = 2 * 8 from rfl, e 8, show 8 = 2 * 4 from rfl, e 4, show 4 = 2 * 2 from rfl, e 2, stepN_even]
theorem split_256 (s : Nat) : s = (256 * (s / 256)) ^^^ (s % 256) := by
  apply Nat.eq_of_testBit_eq
  intro i
  rw [Nat.testBit_xor, show 256 = 2 ^ 8 from rfl, Nat.testBit_two_pow_mul, Nat.testBit_mod_two_pow, Nat.testBit_div_two_pow]
  by_cases h : i < 8
  · simp [h, show ¬ (8 ≤ i) from by omega]
  · simp [h, show 8 ≤ i from by omega, show i - 8 + 8 = i from by omega]
/-- Eight steps: one look into the table. -/
theorem table_law (s c : Nat) : stepsN 8 (s ^^^ c) = stepsN 8 ((s % 256) ^^^ c) ^^^ (s / 256) := by
  conv => lhs; rw [split_256 s]
  rw [Nat.xor_assoc, stepsN_xor, stepsN_256, Nat.xor_comm]
theorem stepN_lt {s : Nat} (h : s < 18446744073709551616) : stepN s < 18446744073709551616 := by
  unfold stepN
  split
  · exact Nat.xor_lt_two_pow (n := 64) (by omega) (by decide)
  · omega
theorem stepsN_lt {s : Nat} (h : s < 18446744073709551616) : ∀ n, stepsN n s < 18446744073709551616
  | 0 => h
  | n + 1 => stepN_lt (stepsN_lt h n)
theorem bitStep_nat {s : Nat} (h : s < 18446744073709551616) : bitStep (s : Int) = ((stepN s : Nat) : Int) := by
  unfold bitStep stepN
  by_cases q : s % 2 = 1
  · rw [if_pos (by omega), if_pos q, show ((s : Int) / 2) = ((s / 2 : Nat) : Int) from by omega]
    exact bits_xor_u64_nat (s / 2) 14514072000185962306 (by omega) (by decide)
  · rw [if_neg (by omega), if_neg q]; omega
theorem bitsN_nat {s : Nat} (h : s < 18446744073709551616) : ∀ n, bitsN n (s : Int) = ((stepsN n s : Nat) : Int)
  | 0 => rfl
  | n + 1 => by show bitStep (bitsN n _) = _; rw [bitsN_nat h n, bitStep_nat (stepsN_lt h n)]; rfl
/-- The program's step: what the table holds at the low byte, and the rest. -/
theorem byteStep_table {s c : Int} (hs : 0 ≤ s ∧ s ≤ 18446744073709551615) (hc : 0 ≤ c ∧ c ≤ 255) : byteStep s c = bits .xor .u64 (bitsN 8 (bits .xor .u8 (s % 256) c)) (s / 256) := by
  obtain ⟨s, rfl⟩ : ∃ n : Nat, s = (n : Int) := ⟨s.toNat, by omega⟩
  obtain ⟨c, rfl⟩ : ∃ n : Nat, c = (n : Int) := ⟨c.toNat, by omega⟩
  have h1 : (s % 256) ^^^ c < 256 := Nat.xor_lt_two_pow (n := 8) (by omega) (by omega)
  have h2 : s ^^^ c < 18446744073709551616 := Nat.xor_lt_two_pow (n := 64) (by omega) (by omega)
  unfold byteStep
  rw [bits_xor_u64_nat s c (by omega) (by omega), show ((s : Int) % 256) = ((s % 256 : Nat) : Int) from by omega, u8_xor_nat _ _ (by omega) (by omega), bitsN_nat h2, bitsN_nat (s := s % 256 ^^^ c) (by omega),
    show ((s : Int) / 256) = ((s / 256 : Nat) : Int) from by omega, bits_xor_u64_nat _ _ (stepsN_lt (by omega) 8) (by omega), table_law]
end Go.Proofs.Ytcokpdlmahlpnaa.L
