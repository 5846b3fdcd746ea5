/- The sum of a text: what the program's and the references' functions answer. -/
import Derived.Test.YtimnhdmpfndeaaaCrp
import Derived.Test.YtimnhdmpfndeaaaByt
import Derived.Test.YtimnhdmpfndeaaaNum
import Derived.Deep.LoopGhost
import Derived.Deep.Draws
namespace Go.Proofs.Ytimnhdmpfndeaaa.Cr
open Go.RowKit Go.Proofs.Ytimnhdmpfndeaaa.Kt Go.Proofs.Ytimnhdmpfndeaaa.Lw Go.Proofs.Ytimnhdmpfndeaaa.St Go.Proofs.Ytimnhdmpfndeaaa.By
set_option linter.unusedVariables false
set_option linter.unusedSimpArgs false
theorem retB {a b : Bool} (h : a = b) : Ending.returned (.bool a) = Ending.returned (.bool b) := by rw [h]
theorem stU_odd {x : Int} (h : x % 2 = 1) : stU x = Go.bits .xor .u32 (x / 2) 3988292384 := by simp [stU, h]
theorem stU_even {x : Int} (h : x % 2 = 0) : stU x = x / 2 := by simp [stU, h]
set_option maxHeartbeats 1000000 in
theorem step_c (x b : Int) (w : World) (h0 : 0 ≤ x) (h1 : x < 4294967296) (h2 : 0 ≤ b) (h3 : b < 256) :
    Calls Try.prog 112 #[.int .u32 x, .int .u8 b] w fun e w' => e = .returned (.int .u32 (stN 8 (Go.bits .xor .u32 x b))) ∧ w = w' := by
  have hb := Lib.hid (xor32_bd h0 h1 h2 (by omega : b < 4294967296))
  have hw : IntKind.u32.wrap b = b := by simp only [IntKind.wrap_u32]; omega
  generalize hy : Go.bits .xor .u32 x b = y at hb ⊢
  go_enter Try.func112, Try.ntmps112
  go_wp2
  go_loopg [0, 5, 10] 8 (fun gg s0 _ s10 wr => ∃ k : Nat, k ≤ 8 ∧ 8 - k ≤ gg ∧ s10 = .int .i64 k ∧ s0 = .int .u32 (stN k y) ∧ w = wr)
  case atStart => exact ⟨0, by omega, by omega, rfl, rfl, rfl⟩
  case round =>
    obtain ⟨k, hk, hg, rfl, rfl, rfl⟩ := hrel
    by_cases hlt : k < 8
    · have hs := stN_bd k hb.out.1 hb.out.2
      have hn : Aside (stN (k + 1) y = stU (stN k y)) := rfl
      generalize stN k y = z at *
      have ha := and32 hs.1 hs.2
      rcases (by omega : z % 2 = 0 ∨ z % 2 = 1) with hz | hz
      · have e := Lib.hid (stU_even hz)
        rw [hz] at ha
        go_wp2
        go_roundg (8 - (k + 1))
        case measure => omega
        case rel => exact ⟨k + 1, by omega, by omega, by go_num, by rw [hn.out, e.out], rfl⟩
      · have e := Lib.hid (stU_odd hz)
        rw [hz] at ha
        go_wp2
        go_roundg (8 - (k + 1))
        case measure => omega
        case rel => exact ⟨k + 1, by omega, by omega, by go_num, by rw [hn.out, e.out], rfl⟩
    · obtain rfl : k = 8 := by omega
      go_wp2
      go_ret
      exact ⟨rfl, rfl⟩
theorem com32 {z : Int} (h0 : 0 ≤ z) (h1 : z < 4294967296) : Go.bits .xor .u32 IntKind.u32.max z = 4294967295 - z := by
  obtain ⟨a, rfl⟩ := Int.eq_ofNat_of_zero_le h0
  have e : Go.bits .xor .u32 IntKind.u32.max (a : Int) = IntKind.u32.wrap (((BitVec.ofInt 32 IntKind.u32.max ^^^ BitVec.ofInt 32 (a : Int)).toNat : Nat) : Int) := rfl
  have e1 : BitVec.ofInt 32 IntKind.u32.max = BitVec.allOnes 32 := by decide
  have e2 : (BitVec.ofInt 32 (a : Int)).toNat = a := by simp; omega
  rw [e, e1, BitVec.allOnes_xor, BitVec.toNat_not, e2]
  simp only [IntKind.wrap_u32]
  omega
theorem fin32 (s : ByteArray) : wrap64 (Go.bits .xor .u32 IntKind.u32.max (crcN s s.size)) = crcB s := by
  have h := crcN_bd s s.size
  rw [com32 h.1 h.2]
  unfold crcB wrap64
  omega
set_option maxHeartbeats 1000000 in
theorem sum_c (s : ByteArray) (w : World) (hs : s.size ≤ 9223372036854775807) : Calls Try.prog 100 #[.string s] w fun e w' => e = .returned (.int .i64 (crcB s)) ∧ Below w.heap.size w w' := by
  have r1 := fun W : World => run_bytes W s
  go_enter Try.func100, Try.ntmps100
  go_wp2
  have hc : Aside (∀ j, j < s.size → ((w.alloc (.cells (bytesRow s (grownCap w s.size 0 5)) 5 ((bytesRow s (grownCap w s.size 0 5)).size, (bytesRow s (grownCap w s.size 0 5)).size + 1))).drew).cell? ⟨w.heap.size, j, none⟩ = some (.int .u8 (byt s j))) := fun j hj => bytes_cell w s _ j _ hj
  have HB : Below w.heap.size w ((w.alloc (.cells (bytesRow s (grownCap w s.size 0 5)) 5 ((bytesRow s (grownCap w s.size 0 5)).size, (bytesRow s (grownCap w s.size 0 5)).size + 1))).drew) := bl_drew (bl_alloc (Below.refl _ _) _)
  generalize (w.alloc (.cells (bytesRow s (grownCap w s.size 0 5)) 5 ((bytesRow s (grownCap w s.size 0 5)).size, (bytesRow s (grownCap w s.size 0 5)).size + 1))).drew = w1 at *
  generalize grownCap w s.size 0 5 = cap at *
  clear r1
  go_loopg [3, 5, 9] s.size (fun gg s3 _ s9 wr => ∃ k : Nat, k ≤ s.size ∧ s.size - k ≤ gg ∧ s9 = .int .i64 k ∧ s3 = .int .u32 (crcN s k) ∧ w1 = wr)
  case atStart => exact ⟨0, by omega, by omega, rfl, rfl, rfl⟩
  case round =>
    obtain ⟨k, hk, hg, rfl, rfl, rfl⟩ := hrel
    by_cases hlt : k < s.size
    · have hx := crcN_bd s k
      have hy := byt_bd s k
      have hcell := hc.out k hlt
      have hn : Aside (crcN s (k + 1) = stN 8 (Go.bits .xor .u32 (crcN s k) (byt s k))) := rfl
      have hcall := step_c (crcN s k) (byt s k) w1 hx.1 hx.2 hy.1 hy.2
      rw [← hn.out] at hcall
      go_wp2_with (first | (go_at_call 112; refine hcall.mono ?_; rintro e w' ⟨rfl, rfl⟩) | fail)
      go_roundg (s.size - (k + 1))
      case measure => omega
      case rel => exact ⟨k + 1, by omega, by omega, by go_num, rfl, rfl⟩
    · obtain rfl : k = s.size := by omega
      have hx := crcN_bd s s.size
      have hf := fin32 s
      generalize crcN s s.size = z at *
      go_wp2
      go_ret
      exact ⟨by rfl, HB⟩
set_option maxHeartbeats 2000000 in
theorem rcrc_c (s : ByteArray) (w : World) (hs : s.size ≤ 9223372036854775807) : Calls Try.prog 45 #[.string s] w fun e w' => e = .returned (.int .i64 (crcB s)) ∧ w = w' := by
  go_enter Try.func45, Try.ntmps45
  go_wp2
  go_loopg [3, 4, 5] s.size (fun gg s3 s4 _ wr => ∃ k : Nat, k ≤ s.size ∧ s.size - k ≤ gg ∧ s4 = .int .i64 k ∧ s3 = .int .u32 (crcN s k) ∧ w = wr)
  case atStart => exact ⟨0, by omega, by omega, rfl, rfl, rfl⟩
  case round =>
    obtain ⟨k, hk, hg, rfl, rfl, rfl⟩ := hrel
    by_cases hlt : k < s.size
    · have hx := crcN_bd s k
      have hy := byt_bd s k
      have hb := Lib.hid (xor32_bd hx.1 hx.2 hy.1 (by omega))
      have hw : IntKind.u32.wrap (byt s k) = byt s k := by simp only [IntKind.wrap_u32]; omega
      have hn : Aside (crcN s (k + 1) = stN 8 (Go.bits .xor .u32 (crcN s k) (byt s k))) := rfl
      have e0 := byt_at s k hlt
      generalize hxy : Go.bits .xor .u32 (crcN s k) (byt s k) = y at *
      go_wp2
      clear hx hy hw e0
      go_loopg [3, 5] 8 (fun gg s3 s5 wr => ∃ j : Nat, j ≤ 8 ∧ 8 - j ≤ gg ∧ s5 = .int .i64 j ∧ s3 = .int .u32 (stN j y) ∧ w = wr)
      case atStart => exact ⟨0, by omega, by omega, rfl, rfl, rfl⟩
      case round =>
        obtain ⟨j, hj, hg2, rfl, rfl, rfl⟩ := hrel
        by_cases hlt2 : j < 8
        · have hs2 := stN_bd j hb.out.1 hb.out.2
          have hn2 : Aside (stN (j + 1) y = stU (stN j y)) := rfl
          generalize stN j y = z at *
          have ha := and32 hs2.1 hs2.2
          rcases (by omega : z % 2 = 0 ∨ z % 2 = 1) with hz | hz
          · have e := Lib.hid (stU_even hz)
            rw [hz] at ha
            go_wp2
            go_roundg (8 - (j + 1))
            case measure => omega
            case rel => exact ⟨j + 1, by omega, by omega, by go_num, by rw [hn2.out, e.out], rfl⟩
          · have e := Lib.hid (stU_odd hz)
            rw [hz] at ha
            go_wp2
            go_roundg (8 - (j + 1))
            case measure => omega
            case rel => exact ⟨j + 1, by omega, by omega, by go_num, by rw [hn2.out, e.out], rfl⟩
        · obtain rfl : j = 8 := by omega
          go_wp2
          go_roundg (s.size - (k + 1))
          case measure => omega
          case rel => exact ⟨k + 1, by omega, by omega, by go_num, by rw [hn.out], rfl⟩
    · obtain rfl : k = s.size := by omega
      have hx := crcN_bd s s.size
      have hf := fin32 s
      generalize crcN s s.size = z at *
      go_wp2
      go_ret
      exact ⟨by rfl, rfl⟩
end Go.Proofs.Ytimnhdmpfndeaaa.Cr
