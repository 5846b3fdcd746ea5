/- Layer 10: the law's walk: BlockForms (printed by gen_bkf.py). -/
import Derived.Test.YtfnfnldndmkeeaaBky
namespace Go.Proofs.Ytfnfnldndmkeeaa.Bk
open Go.RowKit Go.Proofs.Ytfnfnldndmkeeaa.Kt Go.Proofs.Ytfnfnldndmkeeaa.Lw Go.Proofs.Ytfnfnldndmkeeaa.St Go.Proofs.Ytfnfnldndmkeeaa.Nm Go.Proofs.Ytfnfnldndmkeeaa.Sl Go.Proofs.Ytfnfnldndmkeeaa.Bt Go.Proofs.Ytfnfnldndmkeeaa.By
set_option linter.unusedVariables false
set_option linter.unusedSimpArgs false
def ZRun (n : Int) (k : Nat) (Z : ByteArray) : Prop := Hid (∀ W : World, (Instr.makeSlice 69 (.int .i64 n) (.int .i64 n)).run Try.prog W = .ok (.slice (some ⟨W.heap.size, 0, none⟩) k k) (W.alloc (.cells (madeCells #[.int .u8 0] k) 5))) ∧
  Hid (∀ W : World, (convert 69 9 (.slice (some ⟨W.heap.size, 0, none⟩) k k)).run Try.prog (W.alloc (.cells (madeCells #[.int .u8 0] k) 5)) = .ok (.string Z) (W.alloc (.cells (madeCells #[.int .u8 0] k) 5)))
theorem zrun (k : Nat) (hk : k ≤ 1400) : ZRun (k : Int) k (zeros k) :=
  ⟨Lib.hid (make_row (P := Try.prog) 69 5 .u8 1 Try.underlying69 info5 (by decide) k (by omega)),
   Lib.hid (fun W : World => own_str (P := Try.prog) Try.underlying69 Try.underlying5 Try.underlying9 (own_made W W.heap.size 5 .u8 k (Nat.le_refl _) (by omega)))⟩

set_option maxRecDepth 100000 in
set_option maxHeartbeats 3200000 in
theorem forms_0 (x0 x1 m : Int) (n : Nat) (Z : ByteArray) (w : World) (hk : wrap64 (Int.tmod (IntKind.u64.wrap x0) 7) = 0) (hm : Go.bits .and .i64 x1 1023 = m) (m0 : 0 ≤ m) (m1 : m < 1024) (hn : 288 + (1 + m) = (n : Int)) (hz : Z.size = 32) (h32 : ZRun 32 32 Z) (hzn : ZRun (n : Int) n (zeros n)) :
    Calls Try.prog 12 #[.int .i64 x0, .int .i64 x1] w fun e w' => e = .returned (.bool true) ∧ Below w.heap.size w w' := by
  obtain ⟨a1, a2⟩ := h32
  obtain ⟨b1, b2⟩ := hzn
  have a1 := a1.out
  have a2 := a2.out
  have b1 := b1.out
  have b2 := fun (W : World) (o : Obj) => (by have := b2.out (W.alloc o); rw [World.size_alloc] at this; exact this : (convert 69 9 (.slice (some ⟨W.heap.size + 1, 0, none⟩) n n)).run Try.prog ((W.alloc o).alloc (.cells (madeCells #[.int .u8 0] n) 5)) = .ok (.string (zeros n)) ((W.alloc o).alloc (.cells (madeCells #[.int .u8 0] n) 5)))
  have zz := zeros_size n
  have hno := Lib.hid (show rngB ((zeros n).size : Int) 1 288 = false from by rw [← Bool.not_eq_true, zz]; simp [rngB]; omega)
  have hsz := Lib.hid (show (zeros n).size ≤ 9223372036854775807 from by omega)
  clear zz
  go_enter Try.func12, Try.ntmps12
  go_wp2_with (first | (go_at_call 40; (with_reducible refine (awake_c _).mono ?_); rintro e w1 ⟨rfl, hb1'⟩) | (go_at_call 33; (with_reducible refine (split_no _ _ hsz.out hno.out).mono ?_); rintro e w2 ⟨rfl, rfl⟩) | (go_at_call 35; (with_reducible refine (join_nil.out _).mono ?_); rintro e w3 ⟨rfl, hb3⟩; have HB := bl_step (w := w) (by repeat (with_reducible first | exact hb1' | apply bl_alloc | apply bl_drew | fail)) hb3) | (go_at_call 19; with_reducible refine (enum_c _ _).mono ?_; rintro e w' ⟨rfl, rfl⟩) | fail)
  go_ret
  exact ⟨by simp, HB⟩
set_option maxRecDepth 100000 in
set_option maxHeartbeats 3200000 in
theorem forms_1 (x0 x1 m : Int) (n : Nat) (Z : ByteArray) (w : World) (hk : wrap64 (Int.tmod (IntKind.u64.wrap x0) 7) = 1) (hm : Go.bits .and .i64 x1 1023 = m) (m0 : 0 ≤ m) (m1 : m < 1024) (hn : 288 + (1 + m) = (n : Int)) (hz : Z.size = 32) (h32 : ZRun 32 32 Z) (hzn : ZRun (n : Int) n (zeros n))
    (hj : Hid (∀ (W : World) (g : Nat), Blk W g #[.string (⟨#[]⟩)] 9 → Calls Try.prog 35 #[.slice (some ⟨g, 0, none⟩) 1 1] W fun e w' => e = .returned (.tuple #[.string ⟨#[]⟩, .int .i64 1000]) ∧ Below W.heap.size W w')) :
    Calls Try.prog 12 #[.int .i64 x0, .int .i64 x1] w fun e w' => e = .returned (.bool true) ∧ Below w.heap.size w w' := by
  obtain ⟨a1, a2⟩ := h32
  obtain ⟨b1, b2⟩ := hzn
  have a1 := a1.out
  have a2 := a2.out
  have b1 := b1.out
  have b2 := fun (W : World) (o : Obj) => (by have := b2.out (W.alloc o); rw [World.size_alloc] at this; exact this : (convert 69 9 (.slice (some ⟨W.heap.size + 1, 0, none⟩) n n)).run Try.prog ((W.alloc o).alloc (.cells (madeCells #[.int .u8 0] n) 5)) = .ok (.string (zeros n)) ((W.alloc o).alloc (.cells (madeCells #[.int .u8 0] n) 5)))
  have zz := zeros_size n
  have hno := Lib.hid (show rngB ((zeros n).size : Int) 1 288 = false from by rw [← Bool.not_eq_true, zz]; simp [rngB]; omega)
  have hsz := Lib.hid (show (zeros n).size ≤ 9223372036854775807 from by omega)
  clear zz
  go_enter Try.func12, Try.ntmps12
  go_wp2_with (first | (go_at_call 40; (with_reducible refine (awake_c _).mono ?_); rintro e w1 ⟨rfl, hb1'⟩) | (go_at_call 33; (with_reducible refine (split_no _ _ hsz.out hno.out).mono ?_); rintro e w2 ⟨rfl, rfl⟩) | (go_at_call 35; (with_reducible refine (hj.out _ _ (by repeat (first | exact newE (by simp) | apply Blk.alloc | apply Blk.drew | fail))).mono ?_); rintro e w3 ⟨rfl, hb3⟩; have HB := bl_step (w := w) (by repeat (with_reducible first | exact hb1' | apply bl_alloc | apply bl_drew | fail)) hb3) | (go_at_call 19; with_reducible refine (enum_c _ _).mono ?_; rintro e w' ⟨rfl, rfl⟩) | fail)
  go_ret
  exact ⟨by simp, HB⟩
set_option maxRecDepth 100000 in
set_option maxHeartbeats 3200000 in
theorem forms_2 (x0 x1 m : Int) (n : Nat) (Z : ByteArray) (w : World) (hk : wrap64 (Int.tmod (IntKind.u64.wrap x0) 7) = 2) (hm : Go.bits .and .i64 x1 1023 = m) (m0 : 0 ≤ m) (m1 : m < 1024) (hn : 288 + (1 + m) = (n : Int)) (hz : Z.size = 32) (h32 : ZRun 32 32 Z) (hzn : ZRun (n : Int) n (zeros n))
    (hj : Hid (∀ (W : World) (g : Nat), Blk W g #[.string (Z), .string (⟨#[]⟩)] 9 → Calls Try.prog 35 #[.slice (some ⟨g, 0, none⟩) 2 2] W fun e w' => e = .returned (.tuple #[.string ⟨#[]⟩, .int .i64 1000]) ∧ Below W.heap.size W w')) :
    Calls Try.prog 12 #[.int .i64 x0, .int .i64 x1] w fun e w' => e = .returned (.bool true) ∧ Below w.heap.size w w' := by
  obtain ⟨a1, a2⟩ := h32
  obtain ⟨b1, b2⟩ := hzn
  have a1 := a1.out
  have a2 := a2.out
  have b1 := b1.out
  have b2 := fun (W : World) (o : Obj) => (by have := b2.out (W.alloc o); rw [World.size_alloc] at this; exact this : (convert 69 9 (.slice (some ⟨W.heap.size + 1, 0, none⟩) n n)).run Try.prog ((W.alloc o).alloc (.cells (madeCells #[.int .u8 0] n) 5)) = .ok (.string (zeros n)) ((W.alloc o).alloc (.cells (madeCells #[.int .u8 0] n) 5)))
  have zz := zeros_size n
  have hno := Lib.hid (show rngB ((zeros n).size : Int) 1 288 = false from by rw [← Bool.not_eq_true, zz]; simp [rngB]; omega)
  have hsz := Lib.hid (show (zeros n).size ≤ 9223372036854775807 from by omega)
  clear zz
  go_enter Try.func12, Try.ntmps12
  go_wp2_with (first | (go_at_call 40; (with_reducible refine (awake_c _).mono ?_); rintro e w1 ⟨rfl, hb1'⟩) | (go_at_call 33; (with_reducible refine (split_no _ _ hsz.out hno.out).mono ?_); rintro e w2 ⟨rfl, rfl⟩) | (go_at_call 35; (with_reducible refine (hj.out _ _ (by repeat (first | exact newE (by simp) | apply Blk.alloc | apply Blk.drew | fail))).mono ?_); rintro e w3 ⟨rfl, hb3⟩; have HB := bl_step (w := w) (by repeat (with_reducible first | exact hb1' | apply bl_alloc | apply bl_drew | fail)) hb3) | (go_at_call 19; with_reducible refine (enum_c _ _).mono ?_; rintro e w' ⟨rfl, rfl⟩) | fail)
  go_ret
  exact ⟨by simp, HB⟩
set_option maxRecDepth 100000 in
set_option maxHeartbeats 3200000 in
theorem forms_3 (x0 x1 m : Int) (n : Nat) (Z : ByteArray) (w : World) (hk : wrap64 (Int.tmod (IntKind.u64.wrap x0) 7) = 3) (hm : Go.bits .and .i64 x1 1023 = m) (m0 : 0 ≤ m) (m1 : m < 1024) (hn : 288 + (1 + m) = (n : Int)) (hz : Z.size = 32) (h32 : ZRun 32 32 Z) (hzn : ZRun (n : Int) n (zeros n))
    (hj : Hid (∀ (W : World) (g : Nat), Blk W g #[.string (⟨#[97]⟩), .string (Z)] 9 → Calls Try.prog 35 #[.slice (some ⟨g, 0, none⟩) 2 2] W fun e w' => e = .returned (.tuple #[.string ⟨#[]⟩, .int .i64 1000]) ∧ Below W.heap.size W w')) :
    Calls Try.prog 12 #[.int .i64 x0, .int .i64 x1] w fun e w' => e = .returned (.bool true) ∧ Below w.heap.size w w' := by
  obtain ⟨a1, a2⟩ := h32
  obtain ⟨b1, b2⟩ := hzn
  have a1 := a1.out
  have a2 := a2.out
  have b1 := b1.out
  have b2 := fun (W : World) (o : Obj) => (by have := b2.out (W.alloc o); rw [World.size_alloc] at this; exact this : (convert 69 9 (.slice (some ⟨W.heap.size + 1, 0, none⟩) n n)).run Try.prog ((W.alloc o).alloc (.cells (madeCells #[.int .u8 0] n) 5)) = .ok (.string (zeros n)) ((W.alloc o).alloc (.cells (madeCells #[.int .u8 0] n) 5)))
  have zz := zeros_size n
  have hno := Lib.hid (show rngB ((zeros n).size : Int) 1 288 = false from by rw [← Bool.not_eq_true, zz]; simp [rngB]; omega)
  have hsz := Lib.hid (show (zeros n).size ≤ 9223372036854775807 from by omega)
  clear zz
  go_enter Try.func12, Try.ntmps12
  go_wp2_with (first | (go_at_call 40; (with_reducible refine (awake_c _).mono ?_); rintro e w1 ⟨rfl, hb1'⟩) | (go_at_call 33; (with_reducible refine (split_no _ _ hsz.out hno.out).mono ?_); rintro e w2 ⟨rfl, rfl⟩) | (go_at_call 35; (with_reducible refine (hj.out _ _ (by repeat (first | exact newE (by simp) | apply Blk.alloc | apply Blk.drew | fail))).mono ?_); rintro e w3 ⟨rfl, hb3⟩; have HB := bl_step (w := w) (by repeat (with_reducible first | exact hb1' | apply bl_alloc | apply bl_drew | fail)) hb3) | (go_at_call 19; with_reducible refine (enum_c _ _).mono ?_; rintro e w' ⟨rfl, rfl⟩) | fail)
  go_ret
  exact ⟨by simp, HB⟩
set_option maxRecDepth 100000 in
set_option maxHeartbeats 3200000 in
theorem forms_4 (x0 x1 m : Int) (n : Nat) (Z : ByteArray) (w : World) (hk : wrap64 (Int.tmod (IntKind.u64.wrap x0) 7) = 4) (hm : Go.bits .and .i64 x1 1023 = m) (m0 : 0 ≤ m) (m1 : m < 1024) (hn : 288 + (1 + m) = (n : Int)) (hz : Z.size = 32) (h32 : ZRun 32 32 Z) (hzn : ZRun (n : Int) n (zeros n))
    (hj : Hid (∀ (W : World) (g : Nat), Blk W g #[.string (Z ++ ⟨#[120]⟩)] 9 → Calls Try.prog 35 #[.slice (some ⟨g, 0, none⟩) 1 1] W fun e w' => e = .returned (.tuple #[.string ⟨#[]⟩, .int .i64 1000]) ∧ Below W.heap.size W w')) :
    Calls Try.prog 12 #[.int .i64 x0, .int .i64 x1] w fun e w' => e = .returned (.bool true) ∧ Below w.heap.size w w' := by
  obtain ⟨a1, a2⟩ := h32
  obtain ⟨b1, b2⟩ := hzn
  have a1 := a1.out
  have a2 := a2.out
  have b1 := b1.out
  have b2 := fun (W : World) (o : Obj) => (by have := b2.out (W.alloc o); rw [World.size_alloc] at this; exact this : (convert 69 9 (.slice (some ⟨W.heap.size + 1, 0, none⟩) n n)).run Try.prog ((W.alloc o).alloc (.cells (madeCells #[.int .u8 0] n) 5)) = .ok (.string (zeros n)) ((W.alloc o).alloc (.cells (madeCells #[.int .u8 0] n) 5)))
  have zz := zeros_size n
  have hno := Lib.hid (show rngB ((zeros n).size : Int) 1 288 = false from by rw [← Bool.not_eq_true, zz]; simp [rngB]; omega)
  have hsz := Lib.hid (show (zeros n).size ≤ 9223372036854775807 from by omega)
  clear zz
  go_enter Try.func12, Try.ntmps12
  go_wp2_with (first | (go_at_call 40; (with_reducible refine (awake_c _).mono ?_); rintro e w1 ⟨rfl, hb1'⟩) | (go_at_call 33; (with_reducible refine (split_no _ _ hsz.out hno.out).mono ?_); rintro e w2 ⟨rfl, rfl⟩) | (go_at_call 35; (with_reducible refine (hj.out _ _ (by repeat (first | exact newE (by simp) | apply Blk.alloc | apply Blk.drew | fail))).mono ?_); rintro e w3 ⟨rfl, hb3⟩; have HB := bl_step (w := w) (by repeat (with_reducible first | exact hb1' | apply bl_alloc | apply bl_drew | fail)) hb3) | (go_at_call 19; with_reducible refine (enum_c _ _).mono ?_; rintro e w' ⟨rfl, rfl⟩) | fail)
  go_ret
  exact ⟨by simp, HB⟩
set_option maxRecDepth 100000 in
set_option maxHeartbeats 3200000 in
theorem forms_5 (x0 x1 m : Int) (n : Nat) (Z : ByteArray) (w : World) (hk : wrap64 (Int.tmod (IntKind.u64.wrap x0) 7) = 5) (hm : Go.bits .and .i64 x1 1023 = m) (m0 : 0 ≤ m) (m1 : m < 1024) (hn : 288 + (1 + m) = (n : Int)) (hz : Z.size = 32) (h32 : ZRun 32 32 Z) (hzn : ZRun (n : Int) n (zeros n))
    (hj : Hid (∀ (W : World) (g : Nat), Blk W g #[.string (Z.extract 1 32), .string (⟨#[97]⟩)] 9 → Calls Try.prog 35 #[.slice (some ⟨g, 0, none⟩) 2 2] W fun e w' => e = .returned (.tuple #[.string ⟨#[]⟩, .int .i64 1000]) ∧ Below W.heap.size W w')) :
    Calls Try.prog 12 #[.int .i64 x0, .int .i64 x1] w fun e w' => e = .returned (.bool true) ∧ Below w.heap.size w w' := by
  obtain ⟨a1, a2⟩ := h32
  obtain ⟨b1, b2⟩ := hzn
  have a1 := a1.out
  have a2 := a2.out
  have b1 := b1.out
  have b2 := fun (W : World) (o : Obj) => (by have := b2.out (W.alloc o); rw [World.size_alloc] at this; exact this : (convert 69 9 (.slice (some ⟨W.heap.size + 1, 0, none⟩) n n)).run Try.prog ((W.alloc o).alloc (.cells (madeCells #[.int .u8 0] n) 5)) = .ok (.string (zeros n)) ((W.alloc o).alloc (.cells (madeCells #[.int .u8 0] n) 5)))
  have zz := zeros_size n
  have hno := Lib.hid (show rngB ((zeros n).size : Int) 1 288 = false from by rw [← Bool.not_eq_true, zz]; simp [rngB]; omega)
  have hsz := Lib.hid (show (zeros n).size ≤ 9223372036854775807 from by omega)
  clear zz
  go_enter Try.func12, Try.ntmps12
  go_wp2_with (first | (go_at_call 40; (with_reducible refine (awake_c _).mono ?_); rintro e w1 ⟨rfl, hb1'⟩) | (go_at_call 33; (with_reducible refine (split_no _ _ hsz.out hno.out).mono ?_); rintro e w2 ⟨rfl, rfl⟩) | (go_at_call 35; (with_reducible refine (hj.out _ _ (by repeat (first | exact newE (by simp) | apply Blk.alloc | apply Blk.drew | fail))).mono ?_); rintro e w3 ⟨rfl, hb3⟩; have HB := bl_step (w := w) (by repeat (with_reducible first | exact hb1' | apply bl_alloc | apply bl_drew | fail)) hb3) | (go_at_call 19; with_reducible refine (enum_c _ _).mono ?_; rintro e w' ⟨rfl, rfl⟩) | fail)
  go_ret
  exact ⟨by simp, HB⟩
set_option maxRecDepth 100000 in
set_option maxHeartbeats 3200000 in
theorem forms_6 (x0 x1 m : Int) (n : Nat) (Z : ByteArray) (w : World) (hk : wrap64 (Int.tmod (IntKind.u64.wrap x0) 7) = 6) (hm : Go.bits .and .i64 x1 1023 = m) (m0 : 0 ≤ m) (m1 : m < 1024) (hn : 288 + (1 + m) = (n : Int)) (hz : Z.size = 32) (h32 : ZRun 32 32 Z) (hzn : ZRun (n : Int) n (zeros n))
    (hj : Hid (∀ (W : World) (g : Nat), Blk W g #[.string (Z), .string (Z), .string (Z), .string (Z), .string (Z), .string (Z), .string (Z), .string (Z), .string (Z), .string (⟨#[97]⟩)] 9 → Calls Try.prog 35 #[.slice (some ⟨g, 0, none⟩) 10 10] W fun e w' => e = .returned (.tuple #[.string ⟨#[]⟩, .int .i64 1000]) ∧ Below W.heap.size W w')) :
    Calls Try.prog 12 #[.int .i64 x0, .int .i64 x1] w fun e w' => e = .returned (.bool true) ∧ Below w.heap.size w w' := by
  obtain ⟨a1, a2⟩ := h32
  obtain ⟨b1, b2⟩ := hzn
  have a1 := a1.out
  have a2 := a2.out
  have b1 := b1.out
  have b2 := fun (W : World) (o : Obj) => (by have := b2.out (W.alloc o); rw [World.size_alloc] at this; exact this : (convert 69 9 (.slice (some ⟨W.heap.size + 1, 0, none⟩) n n)).run Try.prog ((W.alloc o).alloc (.cells (madeCells #[.int .u8 0] n) 5)) = .ok (.string (zeros n)) ((W.alloc o).alloc (.cells (madeCells #[.int .u8 0] n) 5)))
  have zz := zeros_size n
  have hno := Lib.hid (show rngB ((zeros n).size : Int) 1 288 = false from by rw [← Bool.not_eq_true, zz]; simp [rngB]; omega)
  have hsz := Lib.hid (show (zeros n).size ≤ 9223372036854775807 from by omega)
  clear zz
  go_enter Try.func12, Try.ntmps12
  go_wp2_with (first | (go_at_call 40; (with_reducible refine (awake_c _).mono ?_); rintro e w1 ⟨rfl, hb1'⟩) | (go_at_call 33; (with_reducible refine (split_no _ _ hsz.out hno.out).mono ?_); rintro e w2 ⟨rfl, rfl⟩) | (go_at_call 35; (with_reducible refine (hj.out _ _ (by repeat (first | exact newE (by simp) | apply Blk.alloc | apply Blk.drew | fail))).mono ?_); rintro e w3 ⟨rfl, hb3⟩; have HB := bl_step (w := w) (by repeat (with_reducible first | exact hb1' | apply bl_alloc | apply bl_drew | fail)) hb3) | (go_at_call 19; with_reducible refine (enum_c _ _).mono ?_; rintro e w' ⟨rfl, rfl⟩) | fail)
  go_ret
  exact ⟨by simp, HB⟩
end Go.Proofs.Ytfnfnldndmkeeaa.Bk
