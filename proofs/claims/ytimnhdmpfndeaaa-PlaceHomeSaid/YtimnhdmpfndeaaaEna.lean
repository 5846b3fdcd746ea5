/- Layer 4: records' bytes: the complement of a text; whether a record may be: what the program's and the references' functions answer. -/
import Derived.Test.YtimnhdmpfndeaaaByt
import Derived.Test.YtimnhdmpfndeaaaNum
import Derived.Test.YtimnhdmpfndeaaaWld
import Derived.Test.YtimnhdmpfndeaaaBlc
import Derived.Deep.LoopGhost
import Derived.Deep.Draws
namespace Go.Proofs.Ytimnhdmpfndeaaa.En
open Go.RowKit Go.Proofs.Ytimnhdmpfndeaaa.Kt Go.Proofs.Ytimnhdmpfndeaaa.Lw Go.Proofs.Ytimnhdmpfndeaaa.St Go.Proofs.Ytimnhdmpfndeaaa.Nm Go.Proofs.Ytimnhdmpfndeaaa.By
set_option linter.unusedVariables false
set_option linter.unusedSimpArgs false
theorem retB {a b : Bool} (h : a = b) : Ending.returned (.bool a) = Ending.returned (.bool b) := by rw [h]
/-- each byte's complement. -/
def compB (s : ByteArray) : ByteArray := ⟨(s.data.toList.map fun b => 255 - b).toArray⟩
theorem comp_size (s : ByteArray) : (compB s).size = s.size := by
  show (s.data.toList.map fun b => 255 - b).toArray.size = s.data.size
  simp
theorem sub255 (b : UInt8) : ((255 - b).toNat : Int) = 255 - (b.toNat : Int) := by
  have h : b ≤ 255 := by
    rw [UInt8.le_iff_toNat_le]
    have := b.toNat_lt
    show b.toNat ≤ 255
    omega
  rw [UInt8.toNat_sub_of_le _ _ h]
  have := b.toNat_lt
  show ((255 - b.toNat : Nat) : Int) = _
  omega
theorem byt_comp (s : ByteArray) {j : Nat} (h : j < s.size) : byt (compB s) j = 255 - byt s j := by
  have hj : j < s.data.toList.length := by simpa using h
  unfold byt compB
  simp only [List.getD_eq_getElem?_getD, List.getElem?_map, List.getElem?_eq_getElem hj, Option.map_some, Option.getD_some]
  exact sub255 _
theorem com8 {z : Int} (h0 : 0 ≤ z) (h1 : z < 256) : Go.bits .xor .u8 IntKind.u8.max z = 255 - z := by
  obtain ⟨a, rfl⟩ := Int.eq_ofNat_of_zero_le h0
  have e1 : (BitVec.ofInt 8 IntKind.u8.max) = BitVec.allOnes 8 := by decide
  have e2 : (BitVec.ofInt 8 (a : Int)).toNat = a := by simp; omega
  have e : Go.bits .xor .u8 IntKind.u8.max (a : Int) = IntKind.u8.wrap (((BitVec.ofInt 8 IntKind.u8.max ^^^ BitVec.ofInt 8 (a : Int)).toNat : Nat) : Int) := rfl
  rw [e, e1, BitVec.allOnes_xor, BitVec.toNat_not, e2]
  simp only [IntKind.wrap_u8]
  omega
def comV (s : ByteArray) (k j : Nat) : Int := if j < k then 255 - byt s j else byt s j
theorem comV_done (s : ByteArray) {j : Nat} (h : j < s.size) : comV s s.size j = byt (compB s) j := by
  rw [byt_comp s h]
  simp [comV, h]
set_option maxHeartbeats 1600000 in
theorem comp_c (s : ByteArray) (w : World) (hs : s.size ≤ 9223372036854775807) : Calls Try.prog 62 #[.string s] w fun e w' => e = .returned (.string (compB s)) ∧ Below w.heap.size w w' := by
  have r1 := fun W : World => run_bytes W s
  go_enter Try.func62, Try.ntmps62
  go_wp2
  have hc : Aside (∀ j, j < s.size → ((w.alloc (.cells (bytesRow s (grownCap w s.size 0 5)) 5 ((bytesRow s (grownCap w s.size 0 5)).size, (bytesRow s (grownCap w s.size 0 5)).size + 1))).drew).cell? ⟨w.heap.size, j, none⟩ = some (.int .u8 (comV s 0 j))) := fun j hj => by
    simp only [comV, Nat.not_lt_zero, if_false]
    exact bytes_cell w s _ j _ hj
  have hf : Aside (∀ j, j < s.size → ((w.alloc (.cells (bytesRow s (grownCap w s.size 0 5)) 5 ((bytesRow s (grownCap w s.size 0 5)).size, (bytesRow s (grownCap w s.size 0 5)).size + 1))).drew).frozen? ⟨w.heap.size, j, none⟩ = false) := fun j hj => bytes_frozen w s _ j hj
  have HB : Below w.heap.size w ((w.alloc (.cells (bytesRow s (grownCap w s.size 0 5)) 5 ((bytesRow s (grownCap w s.size 0 5)).size, (bytesRow s (grownCap w s.size 0 5)).size + 1))).drew) := bl_drew (bl_alloc (Below.refl _ _) _)
  generalize (w.alloc (.cells (bytesRow s (grownCap w s.size 0 5)) 5 ((bytesRow s (grownCap w s.size 0 5)).size, (bytesRow s (grownCap w s.size 0 5)).size + 1))).drew = w1 at *
  generalize grownCap w s.size 0 5 = cap at *
  clear r1
  go_loopg [4, 9] s.size (fun gg _ s9 wr => ∃ k : Nat, k ≤ s.size ∧ s.size - k ≤ gg ∧ s9 = .int .i64 k ∧ Aside (∀ j, j < s.size → wr.cell? ⟨w.heap.size, j, none⟩ = some (.int .u8 (comV s k j))) ∧ Aside (∀ j, j < s.size → wr.frozen? ⟨w.heap.size, j, none⟩ = false) ∧ Aside (Below w.heap.size w wr))
  case atStart => exact ⟨0, by omega, by omega, rfl, hc, hf, HB⟩
  case round =>
    clear hc hf HB w1
    obtain ⟨k, hk, hg, rfl, C, F, BW⟩ := hrel
    by_cases hlt : k < s.size
    · have hcell := C.out k hlt
      have hfr := F.out k hlt
      have hy := byt_bd s k
      have hcx := com8 hy.1 hy.2
      simp only [comV, Nat.lt_irrefl, if_false] at hcell
      have hv := Lib.hid (show comV s (k + 1) k = 255 - byt s k by simp [comV])
      have hko : Aside (∀ j, j ≠ k → comV s (k + 1) j = comV s k j) := fun j hj => by
        simp only [comV]
        by_cases h : j < k
        · rw [if_pos (by omega), if_pos h]
        · rw [if_neg (by omega), if_neg h]
      generalize byt s k = y at *
      have hcell2 := hcell
      go_wp2
      go_roundg (s.size - (k + 1))
      case measure => omega
      case rel =>
        refine ⟨k + 1, by omega, by omega, by go_num, (show Aside _ from fun j hj => ?_), (show Aside _ from fun j hj => ?_), (show Below _ _ _ from bl_set BW.out (Nat.le_refl _))⟩
        · by_cases e : j = k
          · subst e
            rw [hv.out]
            exact World.cell?_setCell_same _ _ _ hcell2
          · rw [World.cell?_setCell_other (h := by intro e'; injection e' with _ e' _; omega), hko.out j e]
            exact C.out j hj
        · rw [World.frozen?_setCell]
          exact F.out j hj
    · obtain rfl : k = s.size := by omega
      have hcv := run_back wr w.heap.size cap (compB s) s.size (comp_size s).symm (fun j hj => by
        rw [comp_size] at hj
        rw [C.out j hj, comV_done s hj])
      go_wp2
      go_ret
      exact ⟨rfl, BW.out⟩
/-- may a record be? -/
def recMay (q s z m : Int) : Bool := rngB q 1 1048576 && (rngB s 0 1 && (rngB z 1 288 && rngB m 0 4294967295))
theorem in_c (x l m : Int) (w : World) : Calls Try.prog 84 #[.int .i64 x, .int .i64 l, .int .i64 m] w fun e w' => e = .returned (.bool (rngB x l m)) ∧ w = w' := by
  go_enter Try.func84, Try.ntmps84
  go_wp2
  all_goals (go_ret; refine ⟨retB ?_, rfl⟩; rw [Bool.eq_iff_iff]; simp [rngB] <;> omega)
theorem size_c (x : Int) (w : World) : Calls Try.prog 76 #[.int .i64 x] w fun e w' => e = .returned (.bool (rngB x 1 288)) ∧ w = w' := by
  go_enter Try.func76, Try.ntmps76
  go_wp2_with (first | (go_at_call 84; refine (in_c _ _ _ _).mono ?_; rintro e w' ⟨rfl, rfl⟩) | fail)
  go_ret
  exact ⟨by simp, rfl⟩
theorem slot_c (x : Int) (w : World) : Calls Try.prog 77 #[.int .i64 x] w fun e w' => e = .returned (.bool (rngB x 0 1)) ∧ w = w' := by
  go_enter Try.func77, Try.ntmps77
  go_wp2_with (first | (go_at_call 84; refine (in_c _ _ _ _).mono ?_; rintro e w' ⟨rfl, rfl⟩) | fail)
  go_ret
  exact ⟨by simp, rfl⟩
set_option maxHeartbeats 1600000 in
theorem recMay_c (q s z m : Int) (w : World) : Calls Try.prog 60 #[.agg #[.int .i64 q, .int .i64 s, .int .i64 z, .int .i64 m]] w fun e w' => e = .returned (.bool (recMay q s z m)) ∧ Below w.heap.size w w' := by
  have HB := Below.refl w.heap.size w
  have K0 := Blk.new w #[.int .i64 q, .int .i64 s, .int .i64 z, .int .i64 m] 23
  go_enter Try.func60, Try.ntmps60
  go_wp2_with (first | (go_at_call 84; refine (in_c _ _ _ _).mono ?_; rintro e w' ⟨rfl, rfl⟩) | (go_at_call 76; refine (size_c _ _).mono ?_; rintro e w' ⟨rfl, rfl⟩) | (go_at_call 77; refine (slot_c _ _).mono ?_; rintro e w' ⟨rfl, rfl⟩) | fail)
  all_goals (go_ret; refine ⟨retB ?_, (by repeat (with_reducible first | exact Below.refl _ _ | assumption | (refine bl_set ?_ (by omega)) | apply bl_alloc | apply bl_drewN | apply bl_drew | (refine bl_step ?_ (by assumption)) | fail))⟩; simp_all [recMay])
set_option maxHeartbeats 1600000 in
theorem rrecMay_c (q s z m : Int) (w : World) : Calls Try.prog 50 #[.agg #[.int .i64 q, .int .i64 s, .int .i64 z, .int .i64 m]] w fun e w' => e = .returned (.bool (recMay q s z m)) ∧ Below w.heap.size w w' := by
  have HB := Below.refl w.heap.size w
  have K0 := Blk.new w #[.int .i64 q, .int .i64 s, .int .i64 z, .int .i64 m] 23
  go_enter Try.func50, Try.ntmps50
  go_wp2_with (first | (go_at_call 44; refine (upTo_c _ _ _ _).mono ?_; rintro e w' ⟨rfl, rfl⟩) | fail)
  all_goals (go_ret; refine ⟨retB ?_, (by repeat (with_reducible first | exact Below.refl _ _ | assumption | (refine bl_set ?_ (by omega)) | apply bl_alloc | apply bl_drewN | apply bl_drew | (refine bl_step ?_ (by assumption)) | fail))⟩; simp_all [recMay])
end Go.Proofs.Ytimnhdmpfndeaaa.En
