/- Plain facts on strings of bytes: numbers in bytes and back; parts of sums; equality. -/
import Derived.Test.YtimnhdmpfndeaaaLow
import Derived.Lib.Strings
namespace Go.Proofs.Ytimnhdmpfndeaaa.St
open Go.RowKit Go.Proofs.Ytimnhdmpfndeaaa.Kt Go.Proofs.Ytimnhdmpfndeaaa.Lw
set_option linter.unusedVariables false
set_option linter.unusedSimpArgs false

theorem ext_data {a b : ByteArray} (h : a.data.toList = b.data.toList) : a = b := by
  cases a; cases b; simp at h; rw [h]
theorem mod_split (x z : Int) (hz : 0 < z) : x % (256 * z) = x % 256 + 256 * (x / 256 % z) := by
  have h1 := Int.emod_add_mul_ediv x 256
  have h2 := Int.emod_add_mul_ediv (x / 256) z
  have b1 := Int.emod_nonneg x (show (256 : Int) ≠ 0 by decide)
  have b2 := Int.emod_lt_of_pos x (show (0 : Int) < 256 by decide)
  have b3 := Int.emod_nonneg (x / 256) (show z ≠ 0 by omega)
  have b4 := Int.emod_lt_of_pos (x / 256) hz
  have e : x = (x % 256 + 256 * (x / 256 % z)) + (256 * z) * (x / 256 / z) := by
    calc x = x % 256 + 256 * (x / 256) := h1.symm
      _ = x % 256 + 256 * (x / 256 % z + z * (x / 256 / z)) := by rw [h2]
      _ = _ := by rw [Int.mul_add, ← Int.mul_assoc, ← Int.add_assoc]
  have e2 : x % (256 * z) = ((x % 256 + 256 * (x / 256 % z)) + (256 * z) * (x / 256 / z)) % (256 * z) := by rw [← e]
  rw [e2, Int.add_mul_emod_self_left]
  refine Int.emod_eq_of_lt (by omega) ?_
  have : x / 256 % z + 1 ≤ z := by omega
  have := Int.mul_le_mul_of_nonneg_left this (show (0 : Int) ≤ 256 by decide)
  omega
theorem lowL_cons (x : Int) (k : Nat) : lowL x (k + 1) = x % 256 :: lowL (x / 256) k := by
  simp only [lowL, List.range_succ_eq_map, List.map_cons, List.map_map]
  congr 1
  · simp
  · apply List.map_congr_left
    intro i _
    show x / 256 ^ (i + 1) % 256 = _
    rw [Int.pow_succ, Int.mul_comm, Int.ediv_ediv_of_nonneg (by decide)]
theorem byte_back (y : Int) (h0 : 0 ≤ y) (h1 : y < 256) : ((UInt8.ofNat y.toNat).toNat : Int) = y := by
  rw [UInt8.toNat_ofNat']; omega
theorem ofL_lowL : ∀ (k : Nat) (x : Int), ofL ((lowL x k).map fun n => UInt8.ofNat n.toNat) = x % 256 ^ k
  | 0, x => by simp [lowL, ofL]
  | k + 1, x => by
    have hp : (0 : Int) < 256 ^ k := Int.pow_pos (by decide)
    rw [lowL_cons, List.map_cons, ofL, ofL_lowL k, byte_back _ (Int.emod_nonneg _ (by decide)) (Int.emod_lt_of_pos _ (by decide)), Int.pow_succ, Int.mul_comm (256 ^ k), mod_split x _ hp]
    omega
theorem numB_lowB (x : Int) (k : Nat) : numB (lowB x k) = x % 256 ^ k := ofL_lowL k x
theorem lowL_ofL : ∀ l : List UInt8, (lowL (ofL l) l.length).map (fun n => UInt8.ofNat n.toNat) = l
  | [] => rfl
  | b :: l => by
    have hb := b.toNat_lt
    have e1 : ofL (b :: l) % 256 = b.toNat := by simp only [ofL]; omega
    have e2 : ofL (b :: l) / 256 = ofL l := by simp only [ofL]; omega
    rw [List.length_cons, lowL_cons, List.map_cons, e1, e2, lowL_ofL l]
    simp
theorem lowB_numB (s : ByteArray) : lowB (numB s) s.size = s := by
  apply ext_data
  have h := lowL_ofL s.data.toList
  simp only [lowB, strOfNums, numB]
  simpa using h
theorem numB_bd (s : ByteArray) : 0 ≤ numB s ∧ numB s < 256 ^ s.size := ofL_bd _ _ (by simp)
theorem lowB_inj {x y : Int} {k : Nat} (h0 : 0 ≤ x) (h1 : x < 256 ^ k) (h2 : 0 ≤ y) (h3 : y < 256 ^ k) (h : lowB x k = lowB y k) : x = y := by
  have := congrArg numB h
  rw [numB_lowB, numB_lowB, Int.emod_eq_of_lt h0 h1, Int.emod_eq_of_lt h2 h3] at this
  exact this
/-- the byte i of a text, as a number. -/
def byt (s : ByteArray) (i : Nat) : Int := (s.data.toList.getD i 0).toNat
theorem byt_at (s : ByteArray) (i : Nat) (h : i < s.size) : (s[i].toNat : Int) = byt s i := by
  have : i < s.data.toList.length := by simpa using h
  simp [byt, List.getD_eq_getElem?_getD, List.getElem?_eq_getElem this]; rfl
theorem byt_wrap (s : ByteArray) (i : Nat) : IntKind.i64.wrap (byt s i) = byt s i := by
  have := (s.data.toList.getD i 0).toNat_lt
  rw [IntKind.wrap_i64]; unfold byt; omega
theorem byt_bd (s : ByteArray) (i : Nat) : 0 ≤ byt s i ∧ byt s i < 256 := by
  have := (s.data.toList.getD i 0).toNat_lt
  unfold byt; omega
theorem byt_num (s : ByteArray) (i : Nat) (h : i < s.size) : byt s i = numB (s.extract i (i + 1)) := by
  have hi : i < s.data.toList.length := by simpa using h
  have : (s.extract i (i + 1)).data.toList = [s.data.toList[i]] := by
    simp [ByteArray.data_extract, Array.toList_extract, List.extract]
    rw [List.take_one, List.head?_drop]
    simp [h]
  unfold numB
  rw [this]
  simp [ofL, byt, List.getD_eq_getElem?_getD, List.getElem?_eq_getElem hi]
/-- '==' of texts, as the walk writes it. -/
theorem eqs (a b : ByteArray) : (a.toList == b.toList) = decide (a = b) := by
  rw [Lib.toList_data, Lib.toList_data]
  by_cases h : a = b
  · subst h; simp
  · have h1 : a.data.toList ≠ b.data.toList := fun e => h (ext_data e)
    rw [decide_eq_false h, beq_eq_false_iff_ne]
    exact h1
theorem eqs_t {a b : ByteArray} (h : a = b) : (a.toList == b.toList) = true := by rw [eqs]; simp [h]
theorem eqs_f {a b : ByteArray} (h : a ≠ b) : (a.toList == b.toList) = false := by rw [eqs]; simp [h]
end Go.Proofs.Ytimnhdmpfndeaaa.St
