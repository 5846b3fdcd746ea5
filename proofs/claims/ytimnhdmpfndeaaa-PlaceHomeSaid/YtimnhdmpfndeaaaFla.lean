/- Layers 2, 3: the references' flash: a word torn. -/
import Derived.Test.YtimnhdmpfndeaaaJrc
import Derived.Test.YtimnhdmpfndeaaaOps
import Derived.Test.YtimnhdmpfndeaaaBits
import Derived.RegionTactic
import Derived.BigRegion
namespace Go.Proofs.Ytimnhdmpfndeaaa.Fl
open Go.RowKit Go.Proofs.Ytimnhdmpfndeaaa.Kt Go.Proofs.Ytimnhdmpfndeaaa.Lw Go.Proofs.Ytimnhdmpfndeaaa.St Go.Proofs.Ytimnhdmpfndeaaa.Nm Go.Proofs.Ytimnhdmpfndeaaa.By Go.Proofs.Ytimnhdmpfndeaaa.En Go.Proofs.Ytimnhdmpfndeaaa.Jr Go.Proofs.Ytimnhdmpfndeaaa.Ops
set_option linter.unusedVariables false
set_option linter.unusedSimpArgs false
/-- a byte whose bit k is cleared where the word's is. -/
def clrB (b w : Int) (k : Nat) : Int := if w / 2 ^ k % 2 = 0 then Go.bits .andNot .u8 b (2 ^ k % 256) else b
/-- four bytes, the first i bits of a word programmed. -/
def tearF (b w : Nat → Int) : Nat → Nat → Int
  | 0 => b
  | i + 1 => fun j => if j = i / 8 then clrB (tearF b w i j) (w j) (i % 8) else tearF b w i j
theorem andNot8 {x y : Int} (h0 : 0 ≤ x) (h1 : x < 256) : 0 ≤ Go.bits .andNot .u8 x y ∧ Go.bits .andNot .u8 x y < 256 := by
  have e : Go.bits .andNot .u8 x y = IntKind.u8.wrap (((BitVec.ofInt 8 x &&& ~~~ BitVec.ofInt 8 y).toNat : Nat) : Int) := rfl
  rw [e]
  simp only [IntKind.wrap_u8]
  omega
theorem clr_bd {b w : Int} {k : Nat} (h0 : 0 ≤ b) (h1 : b < 256) : 0 ≤ clrB b w k ∧ clrB b w k < 256 := by
  unfold clrB
  split
  · exact andNot8 h0 h1
  · exact ⟨h0, h1⟩
theorem tear_bd {b w : Nat → Int} (hb : ∀ j, 0 ≤ b j ∧ b j < 256) : ∀ i j, 0 ≤ tearF b w i j ∧ tearF b w i j < 256
  | 0, j => hb j
  | i + 1, j => by
    have ih := tear_bd (w := w) hb i j
    unfold tearF
    split
    · exact clr_bd ih.1 ih.2
    · exact ih
theorem and8 {x : Int} (h0 : 0 ≤ x) (h1 : x < 256) : Go.bits .and .u8 x 1 = x % 2 := by
  obtain ⟨a, rfl⟩ := Int.eq_ofNat_of_zero_le h0
  have e : Go.bits .and .u8 (a : Int) 1 = IntKind.u8.wrap (((BitVec.ofInt 8 (a : Int)).toNat &&& (BitVec.ofInt 8 (1 : Int)).toNat : Nat) : Int) := by
    rw [← BitVec.toNat_and]; rfl
  have ea : (BitVec.ofInt 8 (a : Int)).toNat = a := by simp; omega
  have eb : (BitVec.ofInt 8 (1 : Int)).toNat = 1 := by decide
  rw [e, ea, eb, Nat.and_one_is_mod]
  simp only [IntKind.wrap_u8]
  omega
theorem shr_bd {x : Int} (k : Nat) (h0 : 0 ≤ x) (h1 : x < 256) : 0 ≤ x / 2 ^ k ∧ x / 2 ^ k < 256 := by
  have hp : (0 : Int) < 2 ^ k := Int.pow_pos (by decide)
  refine ⟨Int.ediv_nonneg h0 (Int.le_of_lt hp), Int.lt_of_le_of_lt (Int.ediv_le_self _ h0) h1⟩
/-- the four bytes as a text. -/
def tearB (f : ByteArray) (a : Nat) (t : ByteArray) (n : Nat) : ByteArray := strOfNums ((List.range 4).map (tearF (fun j => byt f (a + j)) (byt t) n))
def tornB (f : ByteArray) (a : Nat) (t : ByteArray) (n : Nat) : ByteArray := f.extract 0 a ++ tearB f a t n ++ f.extract (a + 4) f.size
theorem tear_size (f : ByteArray) (a : Nat) (t : ByteArray) (n : Nat) : (tearB f a t n).size = 4 := by simp [tearB, strOfNums, ByteArray.size]
theorem torn_size {f : ByteArray} {a : Nat} (t : ByteArray) (n : Nat) (h : a + 4 ≤ f.size) : (tornB f a t n).size = f.size := by
  unfold tornB
  rw [ByteArray.size_append, ByteArray.size_append, tear_size, ByteArray.size_extract, ByteArray.size_extract]
  omega
theorem byt_ex (f : ByteArray) (a b j : Nat) (h : a + j < b) (hb : b ≤ f.size) : byt (f.extract a b) j = byt f (a + j) := by
  have hl : f.data.toList.length = f.size := by rw [Array.length_toList]; rfl
  unfold byt
  congr 1
  simp only [ByteArray.data_extract, Array.toList_extract, List.extract, List.getD_eq_getElem?_getD]
  rw [List.getElem?_take, if_pos (by omega), List.getElem?_drop]
theorem byt_tear (f : ByteArray) (a : Nat) (t : ByteArray) (n : Nat) {j : Nat} (h : j < 4) : byt (tearB f a t n) j = tearF (fun j => byt f (a + j)) (byt t) n j := by
  have hb := tear_bd (b := fun j => byt f (a + j)) (w := byt t) (fun j => byt_bd f _) n j
  unfold byt tearB
  simp only [strOfNums, List.getD_eq_getElem?_getD, List.map_map, List.getElem?_map, List.getElem?_range h, Option.map_some, Option.getD_some]
  exact byte_back _ hb.1 hb.2
set_option maxRecDepth 100000 in
set_option maxHeartbeats 6400000 in
theorem rtorn_c (f : ByteArray) (a : Nat) (t : ByteArray) (n : Nat) (w : World) (hf : f.size = 768) (ha : a + 4 ≤ 768) (a4 : a % 4 = 0) (ht : t.size = 4) (hn : n ≤ 32) :
    Calls Try.prog 48 #[.string f, .int .i64 a, .string t, .int .i64 n] w fun e w' => e = .returned (.tuple #[.string (tornB f a t n), .int .i64 0]) ∧ Below w.heap.size w w' := by
  have HB := Below.refl w.heap.size w
  have mm := Lib.hid (fun W : World => rmay_c f W (by omega))
  rw [decide_eq_true hf] at mm
  have wa := Lib.hid (fun W : World => wordAt_c (a : Int) W)
  rw [show bgnB (a : Int) = true by simp [bgnB, rngB]; omega] at wa
  have uu := Lib.hid (fun W : World => upTo_c (n : Int) 0 32 W)
  rw [show rngB (n : Int) 0 32 = true by simp [rngB]; omega] at uu
  have hex : (f.extract a (a + 4)).size = 4 := by rw [ByteArray.size_extract]; omega
  have r1 := fun W : World => run_bytes W (f.extract a (a + 4))
  rw [hex] at r1
  have h1 : (a : Int) + 4 ≤ (f.size : Int) := by omega
  have h2 : a ≤ f.size := by omega
  have h3 : a + 4 ≤ f.size := by omega
  have HEX := Lib.hid hex
  have HF := Lib.hid hf
  have HT := Lib.hid ht
  have BX := Lib.hid (fun j (hj : j < 4) => byt_ex f a (a + 4) j (by omega) (by omega))
  clear hf ht a4 hex
  have ht4 : ((t.size : Int) != 4) = false := by simp [HT.out]
  go_enter Try.func48, Try.ntmps48
  go_wp2_with (first | (go_at_call 31; with_reducible refine (mm.out _).mono ?_; rintro e w' ⟨rfl, rfl⟩) | (go_at_call 46; with_reducible refine (wa.out _).mono ?_; rintro e w' ⟨rfl, rfl⟩) | (go_at_call 44; with_reducible refine (uu.out _).mono ?_; rintro e w' ⟨rfl, rfl⟩) | fail)
  generalize f.extract a (a + 4) = X at *
  have hc : Aside (∀ j, j < 4 → ((w.alloc (.cells (bytesRow X (grownCap w 4 0 5)) 5 ((bytesRow X (grownCap w 4 0 5)).size, (bytesRow X (grownCap w 4 0 5)).size + 1))).drew).cell? ⟨w.heap.size, j, none⟩ = some (.int .u8 (tearF (fun j => byt f (a + j)) (byt t) 0 j))) := fun j hj => by
    show _ = some (Value.int .u8 (byt f (a + j)))
    rw [← BX.out j hj]
    exact bytes_cell w X _ j _ (by rw [HEX.out]; exact hj)
  have hfr : Aside (∀ j, j < 4 → ((w.alloc (.cells (bytesRow X (grownCap w 4 0 5)) 5 ((bytesRow X (grownCap w 4 0 5)).size, (bytesRow X (grownCap w 4 0 5)).size + 1))).drew).frozen? ⟨w.heap.size, j, none⟩ = false) := fun j hj => bytes_frozen w X _ j (by rw [HEX.out]; exact hj)
  have HB1 : Below w.heap.size w ((w.alloc (.cells (bytesRow X (grownCap w 4 0 5)) 5 ((bytesRow X (grownCap w 4 0 5)).size, (bytesRow X (grownCap w 4 0 5)).size + 1))).drew) := bl_drew (bl_alloc HB _)
  have hlt1 : w.heap.size < ((w.alloc (.cells (bytesRow X (grownCap w 4 0 5)) 5 ((bytesRow X (grownCap w 4 0 5)).size, (bytesRow X (grownCap w 4 0 5)).size + 1))).drew).heap.size := by simp
  generalize (w.alloc (.cells (bytesRow X (grownCap w 4 0 5)) 5 ((bytesRow X (grownCap w 4 0 5)).size, (bytesRow X (grownCap w 4 0 5)).size + 1))).drew = w1 at *
  generalize grownCap w 4 0 5 = cap at *
  clear r1 HB mm wa uu ht4
  go_loopg [11] n (fun gg s11 wr => ∃ i : Nat, i ≤ n ∧ n - i ≤ gg ∧ s11 = .int .i64 i ∧ Aside (∀ j, j < 4 → wr.cell? ⟨w.heap.size, j, none⟩ = some (.int .u8 (tearF (fun j => byt f (a + j)) (byt t) i j))) ∧ Aside (∀ j, j < 4 → wr.frozen? ⟨w.heap.size, j, none⟩ = false) ∧ Aside (Below w.heap.size w wr) ∧ Aside (w.heap.size < wr.heap.size))
  case atStart => exact ⟨0, by omega, by omega, rfl, hc, hfr, HB1, hlt1⟩
  case round =>
    clear hc hfr HB1 hlt1 w1
    obtain ⟨i, hi, hg, rfl, C, FR, BW, BZ⟩ := hrel
    have HB := BW.out
    by_cases hlt : i < n
    · obtain ⟨j, hj⟩ : ∃ j, j = i / 8 := ⟨_, rfl⟩
      obtain ⟨k, hk⟩ : ∃ k, k = i % 8 := ⟨_, rfl⟩
      have hj4 : j < 4 := by omega
      have hk8 : k < 8 := by omega
      have q1 : (i : Int) / 8 = (j : Int) := by omega
      have q2 : (i : Int) % 8 = (k : Int) := by omega
      have HJ := Lib.hid hj
      have HK := Lib.hid hk
      have hcell := C.out j hj4
      have hfz := FR.out j hj4
      have hsz := BZ.out
      have htl : j < t.size := by have := HT.out; omega
      have e0 := byt_at t j htl
      have hy := byt_bd t j
      have hx := tear_bd (b := fun j => byt f (a + j)) (w := byt t) (fun j => byt_bd f _) i j
      have HN := Lib.hid (show ∀ m, tearF (fun j => byt f (a + j)) (byt t) (i + 1) m = if m = j then clrB (tearF (fun j => byt f (a + j)) (byt t) i j) (byt t j) k else tearF (fun j => byt f (a + j)) (byt t) i m from fun m => by
        rw [HJ.out, HK.out]
        show (if m = i / 8 then _ else _) = _
        by_cases e : m = i / 8
        · rw [if_pos e, if_pos e, e]
        · rw [if_neg e, if_neg e])
      clear hj hk
      have hyk := shr_bd k hy.1 hy.2
      have hand := and8 hyk.1 hyk.2
      generalize byt t j = y at *
      by_cases hbit : y / 2 ^ k % 2 = 0
      · rw [hbit] at hand
        have HV := Lib.hid (show clrB (tearF (fun j => byt f (a + j)) (byt t) i j) y k = Go.bits .andNot .u8 (tearF (fun j => byt f (a + j)) (byt t) i j) (2 ^ k % 256) by simp [clrB, hbit])
        clear hbit
        generalize tearF (fun j => byt f (a + j)) (byt t) i j = x at *
        go_wp2_with fail
        go_region
        go_wp2_with fail
        go_roundg (n - (i + 1))
        case measure => omega
        case rel =>
          refine ⟨i + 1, by omega, by omega, by go_num, (show Aside _ from fun m hm => ?_), (show Aside _ from fun m hm => ?_), bl_drew (bl_set HB (Nat.le_refl _)), (by show _ < _; simpa using hsz)⟩
          · show (wr.setCell _ _).cell? _ = _
            rw [HN.out m]
            by_cases e : m = j
            · subst e
              rw [if_pos rfl, HV.out]
              exact World.cell?_setCell_same _ _ _ hcell
            · rw [if_neg e, World.cell?_setCell_other (h := by intro e'; injection e' with _ e' _; omega)]
              exact C.out m hm
          · show (wr.setCell _ _).frozen? _ = _
            rw [World.frozen?_setCell]
            exact FR.out m hm
      · have hb1 : y / 2 ^ k % 2 = 1 := by omega
        rw [hb1] at hand
        have HV := Lib.hid (show clrB (tearF (fun j => byt f (a + j)) (byt t) i j) y k = tearF (fun j => byt f (a + j)) (byt t) i j by simp [clrB, hb1])
        clear hbit hb1
        go_wp2_with fail
        go_roundg (n - (i + 1))
        case measure => omega
        case rel =>
          refine ⟨i + 1, by omega, by omega, by go_num, (show Aside _ from fun m hm => ?_), FR.out, HB, BZ.out⟩
          rw [HN.out m]
          by_cases e : m = j
          · subst e
            rw [if_pos rfl, HV.out]
            exact C.out m hm
          · rw [if_neg e]
            exact C.out m hm
    · obtain rfl : i = n := by omega
      have hcell : ∀ j, j < (tearB f a t i).size → wr.cell? ⟨w.heap.size, j, none⟩ = some (.int .u8 (byt (tearB f a t i) j)) := fun j hj => by
        rw [tear_size] at hj
        rw [C.out j hj, byt_tear f a t i hj]
      have hcv := run_back wr w.heap.size cap (tearB f a t i) 4 (tear_size f a t i).symm hcell
      have hcv2 := run_back wr.drew w.heap.size cap (tearB f a t i) 4 (tear_size f a t i).symm hcell
      have hts := tear_size f a t i
      have hv := Lib.hid (show tornB f a t i = f.extract 0 a ++ tearB f a t i ++ f.extract (a + 4) f.size from rfl)
      have s1 : (f.extract 0 a).size = a := by rw [ByteArray.size_extract]; omega
      have s2 : (f.extract 0 a ++ tearB f a t i).size = a + 4 := by rw [ByteArray.size_append, s1, hts]
      have s3 : (f.extract (a + 4) f.size).size ≤ 768 := by rw [ByteArray.size_extract]; have := HF.out; omega
      clear hcell
      generalize tearB f a t i = T at *
      have hq1 : (9223372036854775807 < a + 4) = False := eq_false (by omega)
      have hq2 : (9223372036854775807 < a + 4 + (f.extract (a + 4) f.size).size) = False := eq_false (by omega)
      go_wp2_with fail
      go_region
      go_wp2_with fail
      go_ret2
      exact ⟨by rw [hv.out]; rfl, bl_drew HB⟩
end Go.Proofs.Ytimnhdmpfndeaaa.Fl
