/- Texts laid as one: Jrc Jrd Crp Crc Ima. -/
import Derived.Test.YtccblleobcidfaaGreatGj
import Derived.Test.YtccblleobcidfaaGreatShr
import Derived.Test.YtccblleobcidfaaGreatGb
import Derived.Deep.LoopGhost
import Derived.Deep.Draws
/- Layer 5: the first place that is free: what the program's and the references' functions answer. -/
section
namespace Go.Proofs.YtccblleobcidfaaGreat.Jr
open Go.RowKit Go.Proofs.YtccblleobcidfaaGreat.Kt Go.Proofs.YtccblleobcidfaaGreat.Lw Go.Proofs.YtccblleobcidfaaGreat.St Go.Proofs.YtccblleobcidfaaGreat.Nm Go.Proofs.YtccblleobcidfaaGreat.By Go.Proofs.YtccblleobcidfaaGreat.En Go.Proofs.YtccblleobcidfaaGreat.Gr
set_option linter.unusedVariables false
set_option linter.unusedSimpArgs false
/-- so many bytes 255. -/
def fullB (k : Nat) : ByteArray := ⟨(List.replicate k 255).toArray⟩
theorem full_size (k : Nat) : (fullB k).size = k := by
  show (List.replicate k (255 : UInt8)).toArray.size = k
  simp
theorem rep_full : ∀ c : Nat, Lib.repeatL [(255 : UInt8)] c = List.replicate c 255
  | 0 => rfl
  | c + 1 => by
    have := rep_full c
    simp [Lib.repeatL, List.replicate_succ, this]
theorem repeat_c (c : Nat) (w : World) (h : c ≤ 1000000) : Calls Tryz.prog 79 #[.string ⟨#[255]⟩, .int .i64 c] w fun e w' => e = .returned (.string (fullB c)) ∧ Below w.heap.size w w' := by
  have h := Tryz.strings_Repeat ⟨#[255]⟩ c w (by omega) (by show 1 * c ≤ _; omega)
  rwa [show (⟨#[255]⟩ : ByteArray).data.toList = [255] from rfl, rep_full] at h
def fillL (k j : Nat) : List Int := List.replicate j 255 ++ List.replicate (k - j) 0
theorem fill_set (k j : Nat) (h : j < k) : (fillL k j).set j 255 = fillL k (j + 1) := by
  obtain ⟨m, hm⟩ : ∃ m, k - j = m + 1 := ⟨k - j - 1, by omega⟩
  have h2 : k - (j + 1) = m := by omega
  unfold fillL
  rw [hm, h2, List.set_append_right _ _ (by simp), List.length_replicate, Nat.sub_self, List.replicate_succ (n := m), List.set_cons_zero, List.replicate_succ' (n := j)]
  simp
theorem fill_done (k : Nat) : strOfNums (fillL k k) = fullB k := by
  apply ext_data
  simp [fillL, strOfNums, fullB]
set_option maxHeartbeats 1600000 in
theorem rfull_c (k : Nat) (hk : k ≤ 1000000) (w : World) : Calls Tryz.prog 108 #[.int .i64 k] w fun e w' => e = .returned (.string (fullB k)) ∧ Below w.heap.size w w' := by
  have hmk := make_row (P := Tryz.prog) 59 5 .u8 1 Tryz.underlying59 info5 (by decide) k (by omega)
  have hom := Lib.hid (own_made w w.heap.size 5 .u8 k (Nat.le_refl _) (by omega))
  go_enter Tryz.func108, Tryz.ntmps108
  go_wp2
  go_loopw [4] (fun i wr => ∃ j : Nat, j ≤ k ∧ i = .int .i64 j ∧ wr.ownsRow w.heap.size 5 1 (.slice (some ⟨w.heap.size, 0, none⟩) k k) k ((fillL k j).map (Value.int .u8)) ∧ Below w.heap.size w wr) (fun i _ => k - (intOf i).toNat)
  case atStart => exact ⟨0, by omega, rfl, by simpa [fillL] using hom.out, (Below.refl _ _).alloc (Nat.le_refl _) _⟩
  case round =>
    obtain ⟨j, hj, rfl, hown, hb⟩ := hrel
    have HO := Lib.hid hown
    clear hown hom hmk
    by_cases hlt : j < k
    · obtain ⟨hat1, hat2⟩ := own_at HO.out j hlt
      have hst := Lib.hid (own_store HO.out j 255)
      have hse := Lib.hid (fill_set k j hlt)
      go_wp2
      go_roundw
      case rel => exact ⟨j + 1, by omega, by go_num, by rw [← hse.out]; exact hst.out.1, hb.grown hst.out.2 hb.size (fun q hq => by cases hq; exact Nat.le_refl _)⟩
      case measure => simp [intOf]; omega
    · obtain rfl : j = k := by omega
      have hcv := own_str (P := Tryz.prog) Tryz.underlying59 Tryz.underlying5 Tryz.underlying9 HO.out
      rw [fill_done] at hcv
      go_wp2
      go_ret
      exact ⟨rfl, hb⟩
end Go.Proofs.YtccblleobcidfaaGreat.Jr
end
/- Layer 5: the first place that is free: the walks. -/
section
namespace Go.Proofs.YtccblleobcidfaaGreat.Jr
open Go.RowKit Go.Proofs.YtccblleobcidfaaGreat.Kt Go.Proofs.YtccblleobcidfaaGreat.Lw Go.Proofs.YtccblleobcidfaaGreat.St Go.Proofs.YtccblleobcidfaaGreat.Nm Go.Proofs.YtccblleobcidfaaGreat.By Go.Proofs.YtccblleobcidfaaGreat.En Go.Proofs.YtccblleobcidfaaGreat.Gr
set_option linter.unusedVariables false
set_option linter.unusedSimpArgs false
/-- the first of n places from k on that is blank. -/
def freeFrom (f : ByteArray) (k : Nat) : Nat → Option Nat
  | 0 => none
  | n + 1 => if placeB f k = fullB 24 then some k else freeFrom f (k + 1) n
def freeO (f : ByteArray) (s : Nat) : Option Nat := freeFrom f (4 * s) 4
def freeA (f : ByteArray) (s : Nat) : Int := match freeO f s with | some k => 24 * (k : Int) | none => 0
def freeV (f : ByteArray) (s : Nat) : Array Value := #[.int .i64 (freeA f s), .bool (freeO f s).isSome, .int .i64 0]
theorem free_hit {f : ByteArray} {s k n : Nat} (h : freeO f s = freeFrom f k (n + 1)) (hp : placeB f k = fullB 24) : freeV f s = #[.int .i64 (24 * (k : Int)), .bool true, .int .i64 0] := by
  have e : freeO f s = some k := by rw [h]; simp [freeFrom, hp]
  simp [freeV, freeA, e]
theorem free_miss {f : ByteArray} {s k n : Nat} (h : freeO f s = freeFrom f k (n + 1)) (hp : ¬ placeB f k = fullB 24) : freeO f s = freeFrom f (k + 1) n := by rw [h]; simp [freeFrom, hp]
theorem free_none {f : ByteArray} {s k : Nat} (h : freeO f s = freeFrom f k 0) : freeV f s = #[.int .i64 0, .bool false, .int .i64 0] := by
  have e : freeO f s = none := h
  simp [freeV, freeA, e]
theorem begin_c (x : Int) (w : World) (h0 : 0 ≤ x) (h1 : x ≤ 1000000) : Calls Tryz.prog 214 #[.int .i64 x] w fun e w' => e = .returned (.int .i64 (x * 96)) ∧ w = w' := by
  go_enter Tryz.func214, Tryz.ntmps214
  go_wp2
  go_ret
  exact ⟨rfl, rfl⟩
theorem ret3 {a b : Array Value} (h : a = b) : Ending.returned (.tuple a) = Ending.returned (.tuple b) := by rw [h]
set_option maxRecDepth 100000 in
set_option maxHeartbeats 6400000 in
theorem free_c (f : ByteArray) (s : Nat) (w : World) (hf : f.size = 768) (hs : s < 2) : Calls Tryz.prog 247 #[.string f, .int .i64 s] w fun e w' => e = .returned (.tuple (freeV f s)) ∧ Below w.heap.size w w' := by
  have mm := Lib.hid (fun W : World => may_c f W (by omega))
  rw [decide_eq_true hf] at mm
  have HF := Lib.hid hf
  have hs0 : decide ((s : Int) < 0) = false := by simp
  have hs1 : decide (2 ≤ (s : Int)) = false := by simp; omega
  have bg := Lib.hid (fun W : World => begin_c (s : Int) W (by omega) (by omega))
  have rp := Lib.hid (fun W : World => repeat_c 24 W (by decide))
  rw [show ((24 : Nat) : Int) = 24 from rfl] at rp
  clear hf
  go_enter Tryz.func247, Tryz.ntmps247
  go_wp2_with (first | (go_at_call 76; with_reducible refine (mm.out _).mono ?_; rintro e w' ⟨rfl, rfl⟩) | fail)
  go_loopg [7, 8, 20] 4 (fun gg _ _ s20 wr => ∃ i : Nat, i ≤ 4 ∧ 4 - i ≤ gg ∧ s20 = .int .i64 i ∧ Aside (freeO f s = freeFrom f (4 * s + i) (4 - i)) ∧ Aside (Below w.heap.size w wr))
  case atStart => exact ⟨0, by omega, by omega, rfl, rfl, Below.refl _ _⟩
  case round =>
    clear mm
    obtain ⟨i, hi, hg, rfl, BF, BW⟩ := hrel
    have HB := BW.out
    by_cases hlt : i < 4
    · obtain ⟨k, hk⟩ : ∃ k, k = 4 * s + i := ⟨_, rfl⟩
      have HK := Lib.hid hk
      have hkm : (s : Int) * 96 + (i : Int) * 24 = 24 * (k : Int) := by omega
      have a1 := Lib.hid (fun W : World => at_c f k W (by have := HF.out; omega) (by omega))
      have BF2 : Aside (freeO f s = freeFrom f k (3 - i + 1)) := by
        show freeO f s = _
        have := BF.out
        rwa [← HK.out, show 4 - i = 3 - i + 1 by omega] at this
      have hk8 : k < 8 := by omega
      clear hk BF
      by_cases hp : placeB f k = fullB 24
      · have q1 := eqs_t hp
        have hv := Lib.hid (free_hit BF2.out hp)
        clear hp
        go_wp2_with (first | (go_at_call 214; with_reducible refine (bg.out _).mono ?_; rintro e w' ⟨rfl, rfl⟩) | (go_at_call 124; with_reducible refine (a1.out _).mono ?_; rintro e w' ⟨rfl, rfl⟩) | (go_at_call 79; with_reducible refine (rp.out _).mono ?_; rintro e w' ⟨rfl, hb⟩; have HB := bl_step (w := w) zq0 hb; have hzB := HB.size) | fail)
        go_ret3
        exact ⟨ret3 hv.out.symm, HB⟩
      · have q1 := eqs_f hp
        have hv := Lib.hid (free_miss BF2.out hp)
        clear hp
        go_wp2_with (first | (go_at_call 214; with_reducible refine (bg.out _).mono ?_; rintro e w' ⟨rfl, rfl⟩) | (go_at_call 124; with_reducible refine (a1.out _).mono ?_; rintro e w' ⟨rfl, rfl⟩) | (go_at_call 79; with_reducible refine (rp.out _).mono ?_; rintro e w' ⟨rfl, hb⟩; have HB := bl_step (w := w) zq0 hb; have hzB := HB.size) | fail)
        go_roundg (4 - (i + 1))
        case measure => omega
        case rel => exact ⟨i + 1, by omega, by omega, by go_num, (by show freeO f s = _; rw [hv.out, HK.out, show 4 - (i + 1) = 3 - i by omega]; rfl), HB⟩
    · obtain rfl : i = 4 := by omega
      have hv := Lib.hid (free_none (f := f) (s := s) (k := 4 * s + 4) BF.out)
      go_wp2_with fail
      go_ret3
      exact ⟨ret3 hv.out.symm, HB⟩
end Go.Proofs.YtccblleobcidfaaGreat.Jr
end
/- The sum of a text, in plain Lean: one turn of the register, a byte, a text; unlike in one byte, unlike in the sum. -/
section
namespace Go.Proofs.YtccblleobcidfaaGreat.Cr
open Go.RowKit Go.Proofs.YtccblleobcidfaaGreat.Kt Go.Proofs.YtccblleobcidfaaGreat.Lw Go.Proofs.YtccblleobcidfaaGreat.St
set_option linter.unusedVariables false
set_option linter.unusedSimpArgs false
theorem bits_xor32 (x y : Int) : Go.bits .xor .u32 x y = IntKind.u32.wrap (((BitVec.ofInt 32 x).toNat ^^^ (BitVec.ofInt 32 y).toNat : Nat) : Int) := by
  rw [← BitVec.toNat_xor]; rfl
theorem bits_and32 (x y : Int) : Go.bits .and .u32 x y = IntKind.u32.wrap (((BitVec.ofInt 32 x).toNat &&& (BitVec.ofInt 32 y).toNat : Nat) : Int) := by
  rw [← BitVec.toNat_and]; rfl
theorem xor32 {x y : Int} (h0 : 0 ≤ x) (h1 : x < 4294967296) (h2 : 0 ≤ y) (h3 : y < 4294967296) : Go.bits .xor .u32 x y = ((x.toNat ^^^ y.toNat : Nat) : Int) := by
  obtain ⟨a, rfl⟩ := Int.eq_ofNat_of_zero_le h0
  obtain ⟨b, rfl⟩ := Int.eq_ofNat_of_zero_le h2
  have ea : (BitVec.ofInt 32 (a : Int)).toNat = a := by simp; omega
  have eb : (BitVec.ofInt 32 (b : Int)).toNat = b := by simp; omega
  rw [bits_xor32, ea, eb]
  have hx : a ^^^ b < 2 ^ 32 := Nat.xor_lt_two_pow (by omega) (by omega)
  simp only [Int.toNat_natCast]
  generalize a ^^^ b = z at *
  simp only [IntKind.wrap_u32]
  omega
theorem xor32_bd {x y : Int} (h0 : 0 ≤ x) (h1 : x < 4294967296) (h2 : 0 ≤ y) (h3 : y < 4294967296) : 0 ≤ Go.bits .xor .u32 x y ∧ Go.bits .xor .u32 x y < 4294967296 := by
  rw [xor32 h0 h1 h2 h3]
  have hx : x.toNat ^^^ y.toNat < 2 ^ 32 := Nat.xor_lt_two_pow (by omega) (by omega)
  omega
theorem and32 {x : Int} (h0 : 0 ≤ x) (h1 : x < 4294967296) : Go.bits .and .u32 x 1 = x % 2 := by
  obtain ⟨a, rfl⟩ := Int.eq_ofNat_of_zero_le h0
  have ea : (BitVec.ofInt 32 (a : Int)).toNat = a := by simp; omega
  have eb : (BitVec.ofInt 32 (1 : Int)).toNat = 1 := by decide
  rw [bits_and32, ea, eb, Nat.and_one_is_mod]
  simp only [IntKind.wrap_u32]
  omega
/-- one turn of the register. -/
def stU (x : Int) : Int := if x % 2 = 1 then Go.bits .xor .u32 (x / 2) 3988292384 else x / 2
theorem stU_bd {x : Int} (h0 : 0 ≤ x) (h1 : x < 4294967296) : 0 ≤ stU x ∧ stU x < 4294967296 := by
  unfold stU
  split
  · exact xor32_bd (by omega) (by omega) (by decide) (by decide)
  · omega
def stN : Nat → Int → Int
  | 0, x => x
  | n + 1, x => stU (stN n x)
theorem stN_bd (n : Nat) {x : Int} (h0 : 0 ≤ x) (h1 : x < 4294967296) : 0 ≤ stN n x ∧ stN n x < 4294967296 := by
  induction n with
  | zero => exact ⟨h0, h1⟩
  | succ n ih => exact stU_bd ih.1 ih.2
/-- the register behind the first n bytes. -/
def crcN (s : ByteArray) : Nat → Int
  | 0 => 4294967295
  | n + 1 => stN 8 (Go.bits .xor .u32 (crcN s n) (byt s n))
theorem crcN_bd (s : ByteArray) (n : Nat) : 0 ≤ crcN s n ∧ crcN s n < 4294967296 := by
  induction n with
  | zero => simp [crcN]
  | succ n ih =>
    have hb := byt_bd s n
    have hx := xor32_bd ih.1 ih.2 hb.1 (by omega)
    exact stN_bd 8 hx.1 hx.2
/-- the sum of a text. -/
def crcB (s : ByteArray) : Int := 4294967295 - crcN s s.size
theorem crcB_bd (s : ByteArray) : 0 ≤ crcB s ∧ crcB s < 4294967296 := by
  have := crcN_bd s s.size
  unfold crcB; omega
end Go.Proofs.YtccblleobcidfaaGreat.Cr
end
/- The sum of a text: what the program's and the references' functions answer. -/
section
namespace Go.Proofs.YtccblleobcidfaaGreat.Cr
open Go.RowKit Go.Proofs.YtccblleobcidfaaGreat.Kt Go.Proofs.YtccblleobcidfaaGreat.Lw Go.Proofs.YtccblleobcidfaaGreat.St Go.Proofs.YtccblleobcidfaaGreat.By
set_option linter.unusedVariables false
set_option linter.unusedSimpArgs false
theorem retB {a b : Bool} (h : a = b) : Ending.returned (.bool a) = Ending.returned (.bool b) := by rw [h]
theorem stU_odd {x : Int} (h : x % 2 = 1) : stU x = Go.bits .xor .u32 (x / 2) 3988292384 := by simp [stU, h]
theorem stU_even {x : Int} (h : x % 2 = 0) : stU x = x / 2 := by simp [stU, h]
set_option maxHeartbeats 1000000 in
theorem step_c (x b : Int) (w : World) (h0 : 0 ≤ x) (h1 : x < 4294967296) (h2 : 0 ≤ b) (h3 : b < 256) :
    Calls Tryz.prog 153 #[.int .u32 x, .int .u8 b] w fun e w' => e = .returned (.int .u32 (stN 8 (Go.bits .xor .u32 x b))) ∧ w = w' := by
  have hb := Lib.hid (xor32_bd h0 h1 h2 (by omega : b < 4294967296))
  have hw : IntKind.u32.wrap b = b := by simp only [IntKind.wrap_u32]; omega
  generalize hy : Go.bits .xor .u32 x b = y at hb ⊢
  go_enter Tryz.func153, Tryz.ntmps153
  go_wp2
  go_loopg [0, 5, 10] 8 (fun gg s0 _ s10 wr => ∃ k : Nat, k ≤ 8 ∧ 8 - k ≤ gg ∧ s10 = .int .i64 k ∧ s0 = .int .u32 (stN k y) ∧ w = wr)
  case atStart => exact ⟨0, by omega, by omega, rfl, rfl, rfl⟩
  case round =>
    obtain ⟨k, hk, hg, rfl, rfl, rfl⟩ := hrel
    by_cases hlt : k < 8
    · have hs := stN_bd k hb.out.1 hb.out.2
      have hn : Aside (stN (k + 1) y = stU (stN k y)) := rfl
      generalize stN k y = z at *
      have ha := and32 hs.1 hs.2
      rcases (by omega : z % 2 = 0 ∨ z % 2 = 1) with hz | hz
      · have e := Lib.hid (stU_even hz)
        rw [hz] at ha
        go_wp2
        go_roundg (8 - (k + 1))
        case measure => omega
        case rel => exact ⟨k + 1, by omega, by omega, by go_num, by rw [hn.out, e.out], rfl⟩
      · have e := Lib.hid (stU_odd hz)
        rw [hz] at ha
        go_wp2
        go_roundg (8 - (k + 1))
        case measure => omega
        case rel => exact ⟨k + 1, by omega, by omega, by go_num, by rw [hn.out, e.out], rfl⟩
    · obtain rfl : k = 8 := by omega
      go_wp2
      go_ret
      exact ⟨rfl, rfl⟩
theorem com32 {z : Int} (h0 : 0 ≤ z) (h1 : z < 4294967296) : Go.bits .xor .u32 IntKind.u32.max z = 4294967295 - z := by
  obtain ⟨a, rfl⟩ := Int.eq_ofNat_of_zero_le h0
  have e : Go.bits .xor .u32 IntKind.u32.max (a : Int) = IntKind.u32.wrap (((BitVec.ofInt 32 IntKind.u32.max ^^^ BitVec.ofInt 32 (a : Int)).toNat : Nat) : Int) := rfl
  have e1 : BitVec.ofInt 32 IntKind.u32.max = BitVec.allOnes 32 := by decide
  have e2 : (BitVec.ofInt 32 (a : Int)).toNat = a := by simp; omega
  rw [e, e1, BitVec.allOnes_xor, BitVec.toNat_not, e2]
  simp only [IntKind.wrap_u32]
  omega
theorem fin32 (s : ByteArray) : wrap64 (Go.bits .xor .u32 IntKind.u32.max (crcN s s.size)) = crcB s := by
  have h := crcN_bd s s.size
  rw [com32 h.1 h.2]
  unfold crcB wrap64
  omega
set_option maxHeartbeats 1000000 in
theorem sum_c (s : ByteArray) (w : World) (hs : s.size ≤ 9223372036854775807) : Calls Tryz.prog 82 #[.string s] w fun e w' => e = .returned (.int .i64 (crcB s)) ∧ Below w.heap.size w w' := by
  have r1 := fun W : World => run_bytes W s
  go_enter Tryz.func82, Tryz.ntmps82
  go_wp2
  have hc : Aside (∀ j, j < s.size → ((w.alloc (.cells (bytesRow s (grownCap w s.size 0 5)) 5 ((bytesRow s (grownCap w s.size 0 5)).size, (bytesRow s (grownCap w s.size 0 5)).size + 1))).drew).cell? ⟨w.heap.size, j, none⟩ = some (.int .u8 (byt s j))) := fun j hj => bytes_cell w s _ j _ hj
  have HB : Below w.heap.size w ((w.alloc (.cells (bytesRow s (grownCap w s.size 0 5)) 5 ((bytesRow s (grownCap w s.size 0 5)).size, (bytesRow s (grownCap w s.size 0 5)).size + 1))).drew) := bl_drew (bl_alloc (Below.refl _ _) _)
  generalize (w.alloc (.cells (bytesRow s (grownCap w s.size 0 5)) 5 ((bytesRow s (grownCap w s.size 0 5)).size, (bytesRow s (grownCap w s.size 0 5)).size + 1))).drew = w1 at *
  generalize grownCap w s.size 0 5 = cap at *
  clear r1
  go_loopg [3, 5, 9] s.size (fun gg s3 _ s9 wr => ∃ k : Nat, k ≤ s.size ∧ s.size - k ≤ gg ∧ s9 = .int .i64 k ∧ s3 = .int .u32 (crcN s k) ∧ w1 = wr)
  case atStart => exact ⟨0, by omega, by omega, rfl, rfl, rfl⟩
  case round =>
    obtain ⟨k, hk, hg, rfl, rfl, rfl⟩ := hrel
    by_cases hlt : k < s.size
    · have hx := crcN_bd s k
      have hy := byt_bd s k
      have hcell := hc.out k hlt
      have hn : Aside (crcN s (k + 1) = stN 8 (Go.bits .xor .u32 (crcN s k) (byt s k))) := rfl
      have hcall := step_c (crcN s k) (byt s k) w1 hx.1 hx.2 hy.1 hy.2
      rw [← hn.out] at hcall
      go_wp2_with (first | (go_at_call 153; refine hcall.mono ?_; rintro e w' ⟨rfl, rfl⟩) | fail)
      go_roundg (s.size - (k + 1))
      case measure => omega
      case rel => exact ⟨k + 1, by omega, by omega, by go_num, rfl, rfl⟩
    · obtain rfl : k = s.size := by omega
      have hx := crcN_bd s s.size
      have hf := fin32 s
      generalize crcN s s.size = z at *
      go_wp2
      go_ret
      exact ⟨by rfl, HB⟩
set_option maxHeartbeats 2000000 in
theorem rcrc_c (s : ByteArray) (w : World) (hs : s.size ≤ 9223372036854775807) : Calls Tryz.prog 111 #[.string s] w fun e w' => e = .returned (.int .i64 (crcB s)) ∧ w = w' := by
  go_enter Tryz.func111, Tryz.ntmps111
  go_wp2
  go_loopg [3, 4, 5] s.size (fun gg s3 s4 _ wr => ∃ k : Nat, k ≤ s.size ∧ s.size - k ≤ gg ∧ s4 = .int .i64 k ∧ s3 = .int .u32 (crcN s k) ∧ w = wr)
  case atStart => exact ⟨0, by omega, by omega, rfl, rfl, rfl⟩
  case round =>
    obtain ⟨k, hk, hg, rfl, rfl, rfl⟩ := hrel
    by_cases hlt : k < s.size
    · have hx := crcN_bd s k
      have hy := byt_bd s k
      have hb := Lib.hid (xor32_bd hx.1 hx.2 hy.1 (by omega))
      have hw : IntKind.u32.wrap (byt s k) = byt s k := by simp only [IntKind.wrap_u32]; omega
      have hn : Aside (crcN s (k + 1) = stN 8 (Go.bits .xor .u32 (crcN s k) (byt s k))) := rfl
      have e0 := byt_at s k hlt
      generalize hxy : Go.bits .xor .u32 (crcN s k) (byt s k) = y at *
      go_wp2
      clear hx hy hw e0
      go_loopg [3, 5] 8 (fun gg s3 s5 wr => ∃ j : Nat, j ≤ 8 ∧ 8 - j ≤ gg ∧ s5 = .int .i64 j ∧ s3 = .int .u32 (stN j y) ∧ w = wr)
      case atStart => exact ⟨0, by omega, by omega, rfl, rfl, rfl⟩
      case round =>
        obtain ⟨j, hj, hg2, rfl, rfl, rfl⟩ := hrel
        by_cases hlt2 : j < 8
        · have hs2 := stN_bd j hb.out.1 hb.out.2
          have hn2 : Aside (stN (j + 1) y = stU (stN j y)) := rfl
          generalize stN j y = z at *
          have ha := and32 hs2.1 hs2.2
          rcases (by omega : z % 2 = 0 ∨ z % 2 = 1) with hz | hz
          · have e := Lib.hid (stU_even hz)
            rw [hz] at ha
            go_wp2
            go_roundg (8 - (j + 1))
            case measure => omega
            case rel => exact ⟨j + 1, by omega, by omega, by go_num, by rw [hn2.out, e.out], rfl⟩
          · have e := Lib.hid (stU_odd hz)
            rw [hz] at ha
            go_wp2
            go_roundg (8 - (j + 1))
            case measure => omega
            case rel => exact ⟨j + 1, by omega, by omega, by go_num, by rw [hn2.out, e.out], rfl⟩
        · obtain rfl : j = 8 := by omega
          go_wp2
          go_roundg (s.size - (k + 1))
          case measure => omega
          case rel => exact ⟨k + 1, by omega, by omega, by go_num, by rw [hn.out], rfl⟩
    · obtain rfl : k = s.size := by omega
      have hx := crcN_bd s s.size
      have hf := fin32 s
      generalize crcN s s.size = z at *
      go_wp2
      go_ret
      exact ⟨by rfl, rfl⟩
end Go.Proofs.YtccblleobcidfaaGreat.Cr
end
/- Layer 6: a record's image: what the program's and the references' functions answer. -/
section
namespace Go.Proofs.YtccblleobcidfaaGreat.Im
open Go.RowKit Go.Proofs.YtccblleobcidfaaGreat.Kt Go.Proofs.YtccblleobcidfaaGreat.Lw Go.Proofs.YtccblleobcidfaaGreat.St Go.Proofs.YtccblleobcidfaaGreat.Nm Go.Proofs.YtccblleobcidfaaGreat.By Go.Proofs.YtccblleobcidfaaGreat.En Go.Proofs.YtccblleobcidfaaGreat.Jr Go.Proofs.YtccblleobcidfaaGreat.Cr
set_option linter.unusedVariables false
set_option linter.unusedSimpArgs false
/-- where a slot begins, a record's image, whether that has its sum. -/
def baseN (s : Int) : Nat := ((2 + 3 * s) * 96).toNat
def imgB (f : ByteArray) (s z : Int) : ByteArray := f.extract (baseN s) (baseN s + z.toNat)
def goodB (f : ByteArray) (s z m : Int) : Bool := crcB (imgB f s z) == m
theorem base_le {s : Int} (h0 : 0 ≤ s) (h1 : s ≤ 1) : baseN s ≤ 480 ∧ 192 ≤ baseN s := by unfold baseN; omega
theorem sector_c (s : Int) (w : World) (h0 : 0 ≤ s) (h1 : s ≤ 1) : Calls Tryz.prog 215 #[.int .i64 s] w fun e w' => e = .returned (.int .i64 (2 + 3 * s)) ∧ w = w' := by
  go_enter Tryz.func215, Tryz.ntmps215
  go_wp2
  go_ret
  exact ⟨rfl, rfl⟩
theorem begin2_c (s : Int) (w : World) (h0 : 0 ≤ s) (h1 : s ≤ 1) : Calls Tryz.prog 214 #[.int .i64 (2 + 3 * s)] w fun e w' => e = .returned (.int .i64 (baseN s)) ∧ w = w' := by
  have h := begin_c (2 + 3 * s) w (by omega) (by omega)
  rwa [show (2 + 3 * s) * 96 = (baseN s : Int) by unfold baseN; omega] at h
theorem base_c (s : Int) (w : World) (h0 : 0 ≤ s) (h1 : s ≤ 1) : Calls Tryz.prog 160 #[.int .i64 s] w fun e w' => e = .returned (.tuple #[.int .i64 (baseN s), .int .i64 0]) ∧ w = w' := by
  have ss := Lib.hid (fun W : World => slot_c s W)
  rw [show rngB s 0 1 = true by simp [rngB]; omega] at ss
  go_enter Tryz.func160, Tryz.ntmps160
  go_wp2_with (first | (go_at_call 174; with_reducible refine (ss.out _).mono ?_; rintro e w' ⟨rfl, rfl⟩) | (go_at_call 215; with_reducible refine (sector_c s _ h0 h1).mono ?_; rintro e w' ⟨rfl, rfl⟩) | (go_at_call 214; with_reducible refine (begin2_c s _ h0 h1).mono ?_; rintro e w' ⟨rfl, rfl⟩) | fail)
  go_ret2
  exact ⟨rfl, rfl⟩
theorem rbase_c (s : Int) (w : World) (h0 : 0 ≤ s) (h1 : s ≤ 1) : Calls Tryz.prog 115 #[.int .i64 s] w fun e w' => e = .returned (.tuple #[.int .i64 (baseN s), .int .i64 0]) ∧ w = w' := by
  have uu := Lib.hid (fun W : World => upTo_c s 0 1 W)
  rw [show rngB s 0 1 = true by simp [rngB]; omega] at uu
  have hb : (2 + 3 * s) * 96 = (baseN s : Int) := by unfold baseN; omega
  go_enter Tryz.func115, Tryz.ntmps115
  go_wp2_with (first | (go_at_call 109; with_reducible refine (uu.out _).mono ?_; rintro e w' ⟨rfl, rfl⟩) | fail)
  go_ret2
  exact ⟨rfl, rfl⟩
theorem may_parts {q s z m : Int} (h : recMay q s z m = true) : (1 ≤ q ∧ q ≤ 1048576) ∧ (0 ≤ s ∧ s ≤ 1) ∧ (1 ≤ z ∧ z ≤ 288) ∧ (0 ≤ m ∧ m ≤ 4294967295) := by
  simp [recMay, rngB] at h
  omega
set_option maxHeartbeats 1600000 in
theorem of_c (f : ByteArray) (q s z m : Int) (w : World) (hf : f.size = 768) (hm : recMay q s z m = true) : Calls Tryz.prog 92 #[.string f, .agg #[.int .i64 q, .int .i64 s, .int .i64 z, .int .i64 m]] w fun e w' => e = .returned (.tuple #[.string (imgB f s z), .int .i64 0]) ∧ Below w.heap.size w w' := by
  have HB := Below.refl w.heap.size w
  have K0 := Blk.new w #[.int .i64 q, .int .i64 s, .int .i64 z, .int .i64 m] 67
  obtain ⟨_, ⟨s0, s1⟩, ⟨z0, z1⟩, _⟩ := may_parts hm
  have mm := Lib.hid (fun W : World => may_c f W (by omega))
  rw [decide_eq_true hf] at mm
  have rr := Lib.hid (fun W : World => recMay_c q s z m W)
  rw [hm] at rr
  have hb := base_le s0 s1
  obtain ⟨n, rfl⟩ := Int.eq_ofNat_of_zero_le (show 0 ≤ z by omega)
  have bb := Lib.hid (fun W : World => base_c s W s0 s1)
  have hv := Lib.hid (show imgB f s (n : Int) = f.extract (baseN s) (baseN s + n) from rfl)
  obtain ⟨hb1, hb2⟩ := hb
  generalize imgB f s (n : Int) = I at *
  generalize baseN s = b at *
  have h1 : b + n ≤ f.size := by omega
  have h2 : (b : Int) + (n : Int) ≤ (f.size : Int) := by omega
  have h3 : b ≤ f.size := by omega
  clear hm hf
  go_enter Tryz.func92, Tryz.ntmps92
  go_wp2_with (first | (go_at_call 76; with_reducible refine (mm.out _).mono ?_; rintro e w' ⟨rfl, rfl⟩) | (go_at_call 159; with_reducible refine (rr.out _).mono ?_; rintro e w' ⟨rfl, hb⟩; have HB := bl_step (w := w) zq0 hb; have hzB := HB.size; have K0 := Blk.on zq3 zq14 hb; (try clear cK0_0 cK0_1 cK0_2 cK0_3 fK0 lK0 nK0 mK0); obtain ⟨cK0_0, cK0_1, cK0_2, cK0_3, fK0, lK0, nK0, mK0⟩ := Blk.all4 K0) | (go_at_call 160; with_reducible refine (bb.out _).mono ?_; rintro e w' ⟨rfl, rfl⟩) | fail)
  go_ret2
  exact ⟨by rw [hv.out]; rfl, HB⟩
set_option maxHeartbeats 1600000 in
theorem rof_c (f : ByteArray) (q s z m : Int) (w : World) (hf : f.size = 768) (hm : recMay q s z m = true) : Calls Tryz.prog 49 #[.string f, .agg #[.int .i64 q, .int .i64 s, .int .i64 z, .int .i64 m]] w fun e w' => e = .returned (.tuple #[.string (imgB f s z), .int .i64 0]) ∧ Below w.heap.size w w' := by
  have HB := Below.refl w.heap.size w
  have K0 := Blk.new w #[.int .i64 q, .int .i64 s, .int .i64 z, .int .i64 m] 67
  obtain ⟨_, ⟨s0, s1⟩, ⟨z0, z1⟩, _⟩ := may_parts hm
  have mm := Lib.hid (fun W : World => rmay_c f W (by omega))
  rw [decide_eq_true hf] at mm
  have rr := Lib.hid (fun W : World => rrecMay_c q s z m W)
  rw [hm] at rr
  have hb := base_le s0 s1
  obtain ⟨n, rfl⟩ := Int.eq_ofNat_of_zero_le (show 0 ≤ z by omega)
  have bb := Lib.hid (fun W : World => rbase_c s W s0 s1)
  have hv := Lib.hid (show imgB f s (n : Int) = f.extract (baseN s) (baseN s + n) from rfl)
  obtain ⟨hb1, hb2⟩ := hb
  generalize imgB f s (n : Int) = I at *
  generalize baseN s = b at *
  have h1 : b + n ≤ f.size := by omega
  have h2 : (b : Int) + (n : Int) ≤ (f.size : Int) := by omega
  have h3 : b ≤ f.size := by omega
  clear hm hf
  go_enter Tryz.func49, Tryz.ntmps49
  go_wp2_with (first | (go_at_call 102; with_reducible refine (mm.out _).mono ?_; rintro e w' ⟨rfl, rfl⟩) | (go_at_call 114; with_reducible refine (rr.out _).mono ?_; rintro e w' ⟨rfl, hb⟩; have HB := bl_step (w := w) zq0 hb; have hzB := HB.size; have K0 := Blk.on zq3 zq14 hb; (try clear cK0_0 cK0_1 cK0_2 cK0_3 fK0 lK0 nK0 mK0); obtain ⟨cK0_0, cK0_1, cK0_2, cK0_3, fK0, lK0, nK0, mK0⟩ := Blk.all4 K0) | (go_at_call 115; with_reducible refine (bb.out _).mono ?_; rintro e w' ⟨rfl, rfl⟩) | fail)
  go_ret2
  exact ⟨by rw [hv.out]; rfl, HB⟩
theorem img_size (f : ByteArray) (s z : Int) : (imgB f s z).size ≤ f.size := by
  unfold imgB
  rw [ByteArray.size_extract]
  omega
set_option maxHeartbeats 1600000 in
theorem good_c (f : ByteArray) (q s z m : Int) (w : World) (hf : f.size = 768) (hm : recMay q s z m = true) : Calls Tryz.prog 128 #[.string f, .agg #[.int .i64 q, .int .i64 s, .int .i64 z, .int .i64 m]] w fun e w' => e = .returned (.tuple #[.bool (goodB f s z m), .int .i64 0]) ∧ Below w.heap.size w w' := by
  have HB := Below.refl w.heap.size w
  have K0 := Blk.new w #[.int .i64 q, .int .i64 s, .int .i64 z, .int .i64 m] 67
  have oo := Lib.hid (fun W : World => of_c f q s z m W hf hm)
  have cc := Lib.hid (fun W : World => sum_c (imgB f s z) W (by have := img_size f s z; omega))
  have hg : goodB f s z m = (crcB (imgB f s z) == m) := rfl
  generalize goodB f s z m = G at *
  generalize crcB (imgB f s z) = C at *
  generalize imgB f s z = I at *
  clear hm hf
  cases hb : C == m
  · rw [hb] at hg
    subst hg
    go_enter Tryz.func128, Tryz.ntmps128
    go_wp2_with (first | (go_at_call 92; with_reducible refine (oo.out _).mono ?_; rintro e w' ⟨rfl, hb⟩; have HB := bl_step (w := w) zq0 hb; have hzB := HB.size; have K0 := Blk.on zq3 zq14 hb; (try clear cK0_0 cK0_1 cK0_2 cK0_3 fK0 lK0 nK0 mK0); obtain ⟨cK0_0, cK0_1, cK0_2, cK0_3, fK0, lK0, nK0, mK0⟩ := Blk.all4 K0) | fail)
    have qK0_0 := fun s : Wld _ => Wld.cell cK0_0 s; have qK0_1 := fun s : Wld _ => Wld.cell cK0_1 s; have qK0_2 := fun s : Wld _ => Wld.cell cK0_2 s; have qK0_3 := fun s : Wld _ => Wld.cell cK0_3 s
    refine wld_lit (by kernel_rfl) (by kernel_rfl) ?_
    repeat (go_big_quiet_step (first | (go_at_call 82; with_reducible exact Wld.call (cc.out _)) | fail))
    refine wpQuiet_nil ?_; refine Wld.elim ?_; intro w' hb; clear qK0_0 qK0_1 qK0_2 qK0_3; have HB := bl_step (w := w) zq0 hb; have hzB := HB.size; have K0 := Blk.on zq3 zq14 hb; (try clear cK0_0 cK0_1 cK0_2 cK0_3 fK0 lK0 nK0 mK0); obtain ⟨cK0_0, cK0_1, cK0_2, cK0_3, fK0, lK0, nK0, mK0⟩ := Blk.all4 K0
    go_wp2_with fail
    go_ret2
    exact ⟨rfl, zq1⟩
  · rw [hb] at hg
    subst hg
    go_enter Tryz.func128, Tryz.ntmps128
    go_wp2_with (first | (go_at_call 92; with_reducible refine (oo.out _).mono ?_; rintro e w' ⟨rfl, hb⟩; have HB := bl_step (w := w) zq0 hb; have hzB := HB.size; have K0 := Blk.on zq3 zq14 hb; (try clear cK0_0 cK0_1 cK0_2 cK0_3 fK0 lK0 nK0 mK0); obtain ⟨cK0_0, cK0_1, cK0_2, cK0_3, fK0, lK0, nK0, mK0⟩ := Blk.all4 K0) | fail)
    have qK0_0 := fun s : Wld _ => Wld.cell cK0_0 s; have qK0_1 := fun s : Wld _ => Wld.cell cK0_1 s; have qK0_2 := fun s : Wld _ => Wld.cell cK0_2 s; have qK0_3 := fun s : Wld _ => Wld.cell cK0_3 s
    refine wld_lit (by kernel_rfl) (by kernel_rfl) ?_
    repeat (go_big_quiet_step (first | (go_at_call 82; with_reducible exact Wld.call (cc.out _)) | fail))
    refine wpQuiet_nil ?_; refine Wld.elim ?_; intro w' hb; clear qK0_0 qK0_1 qK0_2 qK0_3; have HB := bl_step (w := w) zq0 hb; have hzB := HB.size; have K0 := Blk.on zq3 zq14 hb; (try clear cK0_0 cK0_1 cK0_2 cK0_3 fK0 lK0 nK0 mK0); obtain ⟨cK0_0, cK0_1, cK0_2, cK0_3, fK0, lK0, nK0, mK0⟩ := Blk.all4 K0
    go_wp2_with fail
    go_ret2
    exact ⟨rfl, zq1⟩
set_option maxHeartbeats 1600000 in
theorem rgood_c (f : ByteArray) (q s z m : Int) (w : World) (hf : f.size = 768) (hm : recMay q s z m = true) : Calls Tryz.prog 113 #[.string f, .agg #[.int .i64 q, .int .i64 s, .int .i64 z, .int .i64 m]] w fun e w' => e = .returned (.tuple #[.bool (goodB f s z m), .int .i64 0]) ∧ Below w.heap.size w w' := by
  have HB := Below.refl w.heap.size w
  have K0 := Blk.new w #[.int .i64 q, .int .i64 s, .int .i64 z, .int .i64 m] 67
  have oo := Lib.hid (fun W : World => rof_c f q s z m W hf hm)
  have cc := Lib.hid (fun W : World => rcrc_c (imgB f s z) W (by have := img_size f s z; omega))
  have hg : goodB f s z m = (crcB (imgB f s z) == m) := rfl
  generalize goodB f s z m = G at *
  generalize crcB (imgB f s z) = C at *
  generalize imgB f s z = I at *
  clear hm hf
  cases hb : C == m
  · rw [hb] at hg
    subst hg
    go_enter Tryz.func113, Tryz.ntmps113
    go_wp2_with (first | (go_at_call 49; with_reducible refine (oo.out _).mono ?_; rintro e w' ⟨rfl, hb⟩; have HB := bl_step (w := w) zq0 hb; have hzB := HB.size; have K0 := Blk.on zq3 zq14 hb; (try clear cK0_0 cK0_1 cK0_2 cK0_3 fK0 lK0 nK0 mK0); obtain ⟨cK0_0, cK0_1, cK0_2, cK0_3, fK0, lK0, nK0, mK0⟩ := Blk.all4 K0) | fail)
    have qK0_0 := fun s : Wld _ => Wld.cell cK0_0 s; have qK0_1 := fun s : Wld _ => Wld.cell cK0_1 s; have qK0_2 := fun s : Wld _ => Wld.cell cK0_2 s; have qK0_3 := fun s : Wld _ => Wld.cell cK0_3 s
    refine wld_lit (by kernel_rfl) (by kernel_rfl) ?_
    repeat (go_big_quiet_step (first | (go_at_call 111; with_reducible exact Wld.same (cc.out _)) | fail))
    refine wpQuiet_nil ?_; refine Wld.elim ?_; intro w' hb; clear qK0_0 qK0_1 qK0_2 qK0_3; have HB := bl_step (w := w) zq0 hb; have hzB := HB.size; have K0 := Blk.on zq3 zq14 hb; (try clear cK0_0 cK0_1 cK0_2 cK0_3 fK0 lK0 nK0 mK0); obtain ⟨cK0_0, cK0_1, cK0_2, cK0_3, fK0, lK0, nK0, mK0⟩ := Blk.all4 K0
    go_wp2_with fail
    go_ret2
    exact ⟨rfl, zq1⟩
  · rw [hb] at hg
    subst hg
    go_enter Tryz.func113, Tryz.ntmps113
    go_wp2_with (first | (go_at_call 49; with_reducible refine (oo.out _).mono ?_; rintro e w' ⟨rfl, hb⟩; have HB := bl_step (w := w) zq0 hb; have hzB := HB.size; have K0 := Blk.on zq3 zq14 hb; (try clear cK0_0 cK0_1 cK0_2 cK0_3 fK0 lK0 nK0 mK0); obtain ⟨cK0_0, cK0_1, cK0_2, cK0_3, fK0, lK0, nK0, mK0⟩ := Blk.all4 K0) | fail)
    have qK0_0 := fun s : Wld _ => Wld.cell cK0_0 s; have qK0_1 := fun s : Wld _ => Wld.cell cK0_1 s; have qK0_2 := fun s : Wld _ => Wld.cell cK0_2 s; have qK0_3 := fun s : Wld _ => Wld.cell cK0_3 s
    refine wld_lit (by kernel_rfl) (by kernel_rfl) ?_
    repeat (go_big_quiet_step (first | (go_at_call 111; with_reducible exact Wld.same (cc.out _)) | fail))
    refine wpQuiet_nil ?_; refine Wld.elim ?_; intro w' hb; clear qK0_0 qK0_1 qK0_2 qK0_3; have HB := bl_step (w := w) zq0 hb; have hzB := HB.size; have K0 := Blk.on zq3 zq14 hb; (try clear cK0_0 cK0_1 cK0_2 cK0_3 fK0 lK0 nK0 mK0); obtain ⟨cK0_0, cK0_1, cK0_2, cK0_3, fK0, lK0, nK0, mK0⟩ := Blk.all4 K0
    go_wp2_with fail
    go_ret2
    exact ⟨rfl, zq1⟩
end Go.Proofs.YtccblleobcidfaaGreat.Im
end
