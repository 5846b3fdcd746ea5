/- The sum of a text, in plain Lean: one turn of the register, a byte, a text; unlike in one byte, unlike in the sum. -/
import Derived.Test.YtimnhdmpfndeaaaStr
import Derived.Test.YtimnhdmpfndeaaaBits
namespace Go.Proofs.Ytimnhdmpfndeaaa.Cr
open Go.RowKit Go.Proofs.Ytimnhdmpfndeaaa.Kt Go.Proofs.Ytimnhdmpfndeaaa.Lw Go.Proofs.Ytimnhdmpfndeaaa.St
set_option linter.unusedVariables false
set_option linter.unusedSimpArgs false
theorem bits_xor32 (x y : Int) : Go.bits .xor .u32 x y = IntKind.u32.wrap (((BitVec.ofInt 32 x).toNat ^^^ (BitVec.ofInt 32 y).toNat : Nat) : Int) := by
  rw [← BitVec.toNat_xor]; rfl
theorem bits_and32 (x y : Int) : Go.bits .and .u32 x y = IntKind.u32.wrap (((BitVec.ofInt 32 x).toNat &&& (BitVec.ofInt 32 y).toNat : Nat) : Int) := by
  rw [← BitVec.toNat_and]; rfl
theorem xor32 {x y : Int} (h0 : 0 ≤ x) (h1 : x < 4294967296) (h2 : 0 ≤ y) (h3 : y < 4294967296) : Go.bits .xor .u32 x y = ((x.toNat ^^^ y.toNat : Nat) : Int) := by
  obtain ⟨a, rfl⟩ := Int.eq_ofNat_of_zero_le h0
  obtain ⟨b, rfl⟩ := Int.eq_ofNat_of_zero_le h2
  have ea : (BitVec.ofInt 32 (a : Int)).toNat = a := by simp; omega
  have eb : (BitVec.ofInt 32 (b : Int)).toNat = b := by simp; omega
  rw [bits_xor32, ea, eb]
  have hx : a ^^^ b < 2 ^ 32 := Nat.xor_lt_two_pow (by omega) (by omega)
  simp only [Int.toNat_natCast]
  generalize a ^^^ b = z at *
  simp only [IntKind.wrap_u32]
  omega
theorem xor32_bd {x y : Int} (h0 : 0 ≤ x) (h1 : x < 4294967296) (h2 : 0 ≤ y) (h3 : y < 4294967296) : 0 ≤ Go.bits .xor .u32 x y ∧ Go.bits .xor .u32 x y < 4294967296 := by
  rw [xor32 h0 h1 h2 h3]
  have hx : x.toNat ^^^ y.toNat < 2 ^ 32 := Nat.xor_lt_two_pow (by omega) (by omega)
  omega
theorem xor32_xor {x y : Int} (h0 : 0 ≤ x) (h1 : x < 4294967296) (h2 : 0 ≤ y) (h3 : y < 4294967296) : Go.bits .xor .u32 (Go.bits .xor .u32 x y) y = x := by
  have hb := xor32_bd h0 h1 h2 h3
  rw [xor32 hb.1 hb.2 h2 h3, xor32 h0 h1 h2 h3]
  simp only [Int.toNat_natCast]
  rw [Nat.xor_assoc, Nat.xor_self, Nat.xor_zero]
  omega
theorem and32 {x : Int} (h0 : 0 ≤ x) (h1 : x < 4294967296) : Go.bits .and .u32 x 1 = x % 2 := by
  obtain ⟨a, rfl⟩ := Int.eq_ofNat_of_zero_le h0
  have ea : (BitVec.ofInt 32 (a : Int)).toNat = a := by simp; omega
  have eb : (BitVec.ofInt 32 (1 : Int)).toNat = 1 := by decide
  rw [bits_and32, ea, eb, Nat.and_one_is_mod]
  simp only [IntKind.wrap_u32]
  omega
/-- one turn of the register. -/
def stU (x : Int) : Int := if x % 2 = 1 then Go.bits .xor .u32 (x / 2) 3988292384 else x / 2
theorem stU_bd {x : Int} (h0 : 0 ≤ x) (h1 : x < 4294967296) : 0 ≤ stU x ∧ stU x < 4294967296 := by
  unfold stU
  split
  · exact xor32_bd (by omega) (by omega) (by decide) (by decide)
  · omega
theorem top_xor {a : Int} (h0 : 0 ≤ a) (h1 : a < 2147483648) : 2147483648 ≤ Go.bits .xor .u32 a 3988292384 := by
  rw [xor32 h0 (by omega) (by decide) (by decide)]
  have e : (3988292384 : Int).toNat = 3988292384 := rfl
  rw [e]
  have hb : (a.toNat ^^^ 3988292384).testBit 31 = true := by
    rw [Nat.testBit_xor]
    have h2 : a.toNat.testBit 31 = false := Nat.testBit_lt_two_pow (by omega)
    rw [h2]; decide
  have := Nat.ge_two_pow_of_testBit hb
  omega
theorem stU_inj {x y : Int} (h0 : 0 ≤ x) (h1 : x < 4294967296) (h2 : 0 ≤ y) (h3 : y < 4294967296) (h : stU x = stU y) : x = y := by
  unfold stU at h
  have tx := top_xor (a := x / 2) (by omega) (by omega)
  have ty := top_xor (a := y / 2) (by omega) (by omega)
  split at h <;> split at h
  · have ex := xor32_xor (x := x / 2) (y := 3988292384) (by omega) (by omega) (by decide) (by decide)
    have ey := xor32_xor (x := y / 2) (y := 3988292384) (by omega) (by omega) (by decide) (by decide)
    rw [h, ey] at ex
    omega
  · omega
  · omega
  · omega
def stN : Nat → Int → Int
  | 0, x => x
  | n + 1, x => stU (stN n x)
theorem stN_bd (n : Nat) {x : Int} (h0 : 0 ≤ x) (h1 : x < 4294967296) : 0 ≤ stN n x ∧ stN n x < 4294967296 := by
  induction n with
  | zero => exact ⟨h0, h1⟩
  | succ n ih => exact stU_bd ih.1 ih.2
theorem stN_inj (n : Nat) {x y : Int} (h0 : 0 ≤ x) (h1 : x < 4294967296) (h2 : 0 ≤ y) (h3 : y < 4294967296) (h : stN n x = stN n y) : x = y := by
  induction n with
  | zero => exact h
  | succ n ih =>
    have hx := stN_bd n h0 h1
    have hy := stN_bd n h2 h3
    exact ih (stU_inj hx.1 hx.2 hy.1 hy.2 h)
/-- the register behind the first n bytes. -/
def crcN (s : ByteArray) : Nat → Int
  | 0 => 4294967295
  | n + 1 => stN 8 (Go.bits .xor .u32 (crcN s n) (byt s n))
theorem crcN_bd (s : ByteArray) (n : Nat) : 0 ≤ crcN s n ∧ crcN s n < 4294967296 := by
  induction n with
  | zero => simp [crcN]
  | succ n ih =>
    have hb := byt_bd s n
    have hx := xor32_bd ih.1 ih.2 hb.1 (by omega)
    exact stN_bd 8 hx.1 hx.2
/-- the sum of a text. -/
def crcB (s : ByteArray) : Int := 4294967295 - crcN s s.size
theorem crcB_bd (s : ByteArray) : 0 ≤ crcB s ∧ crcB s < 4294967296 := by
  have := crcN_bd s s.size
  unfold crcB; omega
theorem xor_inj {x y b : Int} (h0 : 0 ≤ x) (h1 : x < 4294967296) (h2 : 0 ≤ y) (h3 : y < 4294967296) (hb0 : 0 ≤ b) (hb1 : b < 4294967296) (h : Go.bits .xor .u32 x b = Go.bits .xor .u32 y b) : x = y := by
  have ex := xor32_xor h0 h1 hb0 hb1
  have ey := xor32_xor h2 h3 hb0 hb1
  rw [h, ey] at ex
  exact ex.symm
theorem xor_comm {x y : Int} (h0 : 0 ≤ x) (h1 : x < 4294967296) (h2 : 0 ≤ y) (h3 : y < 4294967296) : Go.bits .xor .u32 x y = Go.bits .xor .u32 y x := by
  rw [xor32 h0 h1 h2 h3, xor32 h2 h3 h0 h1, Nat.xor_comm]
/-- texts of one size, alike but in one byte, have unlike sums. -/
theorem crc_one {s t : ByteArray} (hs : s.size = t.size) {p : Nat} (hp : p < s.size) (hd : byt s p ≠ byt t p) (he : ∀ j, j ≠ p → byt s j = byt t j) : crcB s ≠ crcB t := by
  have lo : ∀ n, n ≤ p → crcN s n = crcN t n := by
    intro n
    induction n with
    | zero => intro _; rfl
    | succ n ih => intro h; simp only [crcN]; rw [ih (by omega), he n (by omega)]
  have hi : ∀ n, p < n → crcN s n ≠ crcN t n := by
    intro n
    induction n with
    | zero => intro h; omega
    | succ n ih =>
      intro h e
      simp only [crcN] at e
      have b1 := byt_bd s n
      have b2 := byt_bd t n
      have c1 := crcN_bd s n
      have c2 := crcN_bd t n
      have x1 := xor32_bd c1.1 c1.2 b1.1 (by omega)
      have x2 := xor32_bd c2.1 c2.2 b2.1 (by omega)
      have e2 := stN_inj 8 x1.1 x1.2 x2.1 x2.2 e
      by_cases hn : n = p
      · subst hn
        rw [lo n (by omega)] at e2
        rw [xor_comm c2.1 c2.2 b1.1 (by omega), xor_comm c2.1 c2.2 b2.1 (by omega)] at e2
        exact hd (xor_inj b1.1 (by omega) b2.1 (by omega) c2.1 c2.2 e2)
      · rw [he n hn] at e2
        exact ih (by omega) (xor_inj c1.1 c1.2 c2.1 c2.2 b2.1 (by omega) e2)
  intro e
  unfold crcB at e
  rw [← hs] at e
  exact hi s.size hp (by omega)
end Go.Proofs.Ytimnhdmpfndeaaa.Cr
