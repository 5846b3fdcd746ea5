/- Plain facts: the bits of an int under a mask are its remainder; what wraps stays, if it fits. -/
import Derived.WalkKit
import Derived.Laws.BitsLemmas
namespace Go.Proofs.Ytimnhdmpfndeaaa.Bt
open Go

theorem bits_and64 (x m : Int) : Go.bits .and .i64 x m = IntKind.i64.wrap (((BitVec.ofInt 64 x).toNat &&& (BitVec.ofInt 64 m).toNat : Nat) : Int) := by
  rw [← BitVec.toNat_and]; rfl

/-- `x & (2^j - 1)` of any int is its remainder by `2^j`. -/
theorem mask64 (j : Nat) (hj : j ≤ 62) (x : Int) : Go.bits .and .i64 x (2 ^ j - 1) = x % 2 ^ j := by
  have hpos : 0 < 2 ^ j := Nat.two_pow_pos j
  have hlt : 2 ^ j - 1 < 2 ^ 64 := Nat.lt_of_lt_of_le (Nat.sub_lt hpos (by decide)) (Nat.pow_le_pow_right (by decide) (by omega))
  have hle : 2 ^ j ≤ 2 ^ 62 := Nat.pow_le_pow_right (by decide) hj
  have hc : ((2 : Int) ^ j - 1) = ((2 ^ j - 1 : Nat) : Int) := by
    rw [Int.natCast_sub hpos]; simp
  rw [hc, bits_and64]
  have hb : (BitVec.ofInt 64 ((2 ^ j - 1 : Nat) : Int)).toNat = 2 ^ j - 1 := by
    rw [BitVec.ofInt_natCast, BitVec.toNat_ofNat]; exact Nat.mod_eq_of_lt hlt
  rw [hb, Nat.and_two_pow_sub_one_eq_mod]
  have hx : (BitVec.ofInt 64 x).toNat = (x % 2 ^ 64).toNat := by rw [BitVec.toNat_ofInt]; simp
  rw [hx]
  have h0 : 0 ≤ x % 2 ^ 64 := Int.emod_nonneg _ (by decide)
  have hcast : (((x % 2 ^ 64).toNat % 2 ^ j : Nat) : Int) = x % 2 ^ j := by
    rw [Int.natCast_emod, Int.toNat_of_nonneg h0]
    have hd : ((2 : Int) ^ j) ∣ 2 ^ 64 := ⟨2 ^ (64 - j), by rw [← Int.pow_add]; congr 1; omega⟩
    rw [show (((2 ^ j : Nat)) : Int) = (2 : Int) ^ j from by simp]
    exact Int.emod_emod_of_dvd x hd
  rw [hcast]
  have hp : (0 : Int) < 2 ^ j := by exact_mod_cast hpos
  have hl : (2 : Int) ^ j ≤ 2 ^ 62 := by exact_mod_cast hle
  have h1 : 0 ≤ x % 2 ^ j := Int.emod_nonneg _ (by omega)
  have h2 : x % 2 ^ j < 2 ^ j := Int.emod_lt_of_pos _ hp
  generalize x % 2 ^ j = y at *
  generalize (2 : Int) ^ j = z at *
  rw [IntKind.wrap_i64]; omega

theorem and1 (x : Int) : Go.bits .and .i64 x 1 = x % 2 := mask64 1 (by decide) x
theorem and3 (x : Int) : Go.bits .and .i64 x 3 = x % 4 := mask64 2 (by decide) x
theorem and7 (x : Int) : Go.bits .and .i64 x 7 = x % 8 := mask64 3 (by decide) x
theorem and15 (x : Int) : Go.bits .and .i64 x 15 = x % 16 := mask64 4 (by decide) x
theorem and31 (x : Int) : Go.bits .and .i64 x 31 = x % 32 := mask64 5 (by decide) x
theorem and127 (x : Int) : Go.bits .and .i64 x 127 = x % 128 := mask64 7 (by decide) x
theorem and255 (x : Int) : Go.bits .and .i64 x 255 = x % 256 := mask64 8 (by decide) x
theorem and1023 (x : Int) : Go.bits .and .i64 x 1023 = x % 1024 := mask64 10 (by decide) x
theorem and32767 (x : Int) : Go.bits .and .i64 x 32767 = x % 32768 := mask64 15 (by decide) x
theorem and65535 (x : Int) : Go.bits .and .i64 x 65535 = x % 65536 := mask64 16 (by decide) x

theorem and_one_bit (y j : Nat) : y &&& 2 ^ j = 2 ^ j * (y / 2 ^ j % 2) := by
  apply Nat.eq_of_testBit_eq
  intro i
  rw [Nat.testBit_and, Nat.testBit_two_pow, Nat.testBit_two_pow_mul]
  by_cases h : j = i
  · subst h
    simp [Nat.testBit_eq_decide_div_mod_eq]
  · have h2 : (y / 2 ^ j % 2).testBit (i - j) = false ∨ ¬ j ≤ i := by
      by_cases h3 : j ≤ i
      · left
        obtain ⟨k, hk⟩ : ∃ k, i - j = k + 1 := ⟨i - j - 1, by omega⟩
        rw [hk, Nat.testBit_succ]
        have : y / 2 ^ j % 2 / 2 = 0 := by omega
        rw [this]; simp
      · right; exact h3
    rcases h2 with h2 | h2
    · simp [h, h2]
    · simp [h, h2]

/-- `x & 2` is two times the second bit. -/
theorem and_pow (j : Nat) (hj : j ≤ 60) (x : Int) : Go.bits .and .i64 x (2 ^ j) = x % 2 ^ (j + 1) - x % 2 ^ j := by
  have hpos : 0 < 2 ^ j := Nat.two_pow_pos j
  have hlt : 2 ^ j < 2 ^ 64 := Nat.pow_lt_pow_right (by decide) (by omega)
  have hle : 2 ^ j ≤ 2 ^ 60 := Nat.pow_le_pow_right (by decide) hj
  have hc : ((2 : Int) ^ j) = ((2 ^ j : Nat) : Int) := by simp
  have hx0 : Go.bits .and .i64 x (2 ^ j) = ((Go.bits .and .i64 x (2 ^ (j + 1) - 1)) - (Go.bits .and .i64 x (2 ^ j - 1))) := by
    rw [mask64 (j + 1) (by omega), mask64 j (by omega)]
    rw [hc, bits_and64]
    have hb : (BitVec.ofInt 64 ((2 ^ j : Nat) : Int)).toNat = 2 ^ j := by
      rw [BitVec.ofInt_natCast, BitVec.toNat_ofNat]; exact Nat.mod_eq_of_lt hlt
    rw [hb]
    have hx : (BitVec.ofInt 64 x).toNat = (x % 2 ^ 64).toNat := by rw [BitVec.toNat_ofInt]; simp
    rw [hx]
    have h0 : 0 ≤ x % 2 ^ 64 := Int.emod_nonneg _ (by decide)
    generalize hy : (x % 2 ^ 64).toNat = y
    have e1 : ∀ i, i ≤ 64 → x % 2 ^ i = ((y % 2 ^ i : Nat) : Int) := by
      intro i hi
      rw [← hy, Int.natCast_emod, Int.toNat_of_nonneg h0]
      have hd : ((2 : Int) ^ i) ∣ 2 ^ 64 := ⟨2 ^ (64 - i), by rw [← Int.pow_add]; congr 1; omega⟩
      rw [show (((2 ^ i : Nat)) : Int) = (2 : Int) ^ i from by simp]
      exact (Int.emod_emod_of_dvd x hd).symm
    have key : y &&& 2 ^ j = y % 2 ^ (j + 1) - y % 2 ^ j := by
      have hs : y % 2 ^ (j + 1) = 2 ^ j * (y / 2 ^ j % 2) + y % 2 ^ j := by
        rw [Nat.pow_succ, Nat.mod_mul]; omega
      rw [and_one_bit, hs]; omega
    have hs2 : y % 2 ^ j ≤ y % 2 ^ (j + 1) := by
      rw [Nat.pow_succ, Nat.mod_mul]; omega
    have hs3 : y % 2 ^ (j + 1) < 2 ^ (j + 1) := Nat.mod_lt _ (Nat.two_pow_pos _)
    have hs4 : 2 ^ (j + 1) ≤ 2 ^ 61 := Nat.pow_le_pow_right (by decide) (by omega)
    rw [key, ← hc, e1 (j + 1) (by omega), e1 j (by omega)]
    generalize y % 2 ^ (j + 1) = p at *
    generalize y % 2 ^ j = q at *
    rw [IntKind.wrap_i64]; omega
  rw [hx0, mask64 (j + 1) (by omega), mask64 j (by omega)]

theorem and2 (x : Int) : Go.bits .and .i64 x 2 = x % 4 - x % 2 := and_pow 1 (by decide) x
theorem and4 (x : Int) : Go.bits .and .i64 x 4 = x % 8 - x % 4 := and_pow 2 (by decide) x
theorem and8 (x : Int) : Go.bits .and .i64 x 8 = x % 16 - x % 8 := and_pow 3 (by decide) x
theorem and16 (x : Int) : Go.bits .and .i64 x 16 = x % 32 - x % 16 := and_pow 4 (by decide) x

/-- a remainder of an unsigned number: an index. -/
theorem wrapu (x : Int) : 0 ≤ IntKind.u64.wrap x ∧ IntKind.u64.wrap x < 18446744073709551616 := by
  simp only [IntKind.wrap, IntKind.bits, IntKind.signed]
  simp
  omega
/-- `int(uint(x) % m)` lies from 0 to m - 1. -/
theorem umod (x m : Int) (h0 : 0 < m) (h1 : m ≤ 1000000) : 0 ≤ IntKind.i64.wrap (Int.tmod (IntKind.u64.wrap x) m) ∧ IntKind.i64.wrap (Int.tmod (IntKind.u64.wrap x) m) < m := by
  have h := wrapu x
  rw [Int.tmod_eq_emod_of_nonneg h.1]
  have a := Int.emod_nonneg (IntKind.u64.wrap x) (show m ≠ 0 by omega)
  have b := Int.emod_lt_of_pos (IntKind.u64.wrap x) h0
  rw [IntKind.wrap_i64]; omega
end Go.Proofs.Ytimnhdmpfndeaaa.Bt
