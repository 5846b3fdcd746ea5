/- Layer 23: the law's walk: ReplyPoll. -/
import Derived.Test.YthoonffbadhplaaRpp0
import Derived.Test.YthoonffbadhplaaRpp1
import Derived.Test.YthoonffbadhplaaRpp2
import Derived.Test.YthoonffbadhplaaRpo
namespace Go.Proofs.Ythoonffbadhplaa.Rp
open Go.RowKit Go.Proofs.Ythoonffbadhplaa.Kt Go.Proofs.Ythoonffbadhplaa.Lw Go.Proofs.Ythoonffbadhplaa.St Go.Proofs.Ythoonffbadhplaa.Nm Go.Proofs.Ythoonffbadhplaa.An Go.Proofs.Ythoonffbadhplaa.Ho Go.Proofs.Ythoonffbadhplaa.Es
set_option linter.unusedVariables false
set_option linter.unusedSimpArgs false
attribute [local go_sem high] eqHost
set_option maxRecDepth 100000 in
set_option maxHeartbeats 6400000 in
theorem rpoll_early_false (x0 x1 : Int) (G : ByteArray) (w : World) (hq : wrap64 (Int.tmod (IntKind.u64.wrap x0) 3) = 0)
    (hc : Hid (∀ W : World, Calls Try.prog 14 #[.int .i64 40] W fun e w' => e = .returned (hostV 1 G 0 false 0 ⟨#[]⟩ 0) ∧ Below W.heap.size W w')) :
    Calls Try.prog 7 #[.int .i64 x0, .int .i64 x1, .bool true, .bool false] w fun e w' => e = .returned (.bool true) ∧ Below w.heap.size w w' := by
  have HB := Below.refl w.heap.size w
  go_enter Try.func7, Try.ntmps7
  go_wp2_with (first | (go_at_call 13; with_reducible refine (awake_c _).mono ?_; rintro e w' ⟨rfl, hb⟩; have HB := bl_step (w := w) (by repeat (with_reducible first | exact HB | (refine bl_set ?_ (by omega)) | apply bl_alloc | apply bl_drew | apply bl_drewN | fail)) hb; have hzB := HB.size) | (go_at_call 14; with_reducible refine (hc.out _).mono ?_; rintro e w' ⟨rfl, hb⟩; have HB := bl_step (w := w) (by repeat (with_reducible first | exact HB | (refine bl_set ?_ (by omega)) | apply bl_alloc | apply bl_drew | apply bl_drewN | fail)) hb; have hzB := HB.size; have K0 := fun cs => Blk.new w' cs 23) | fail)
  go_ret
  exact ⟨by simp, (by repeat (with_reducible first | exact Below.refl _ _ | assumption | (refine bl_set ?_ (by omega)) | apply bl_alloc | apply bl_drewN | apply bl_drew | (refine bl_step ?_ (by assumption)) | fail))⟩
set_option maxRecDepth 100000 in
set_option maxHeartbeats 6400000 in
theorem rpoll_early_true (x0 x1 : Int) (G : ByteArray) (w : World) (hq : wrap64 (Int.tmod (IntKind.u64.wrap x0) 3) = 0)
    (hc : Hid (∀ W : World, Calls Try.prog 14 #[.int .i64 40] W fun e w' => e = .returned (hostV 1 G 0 false 0 ⟨#[]⟩ 0) ∧ Below W.heap.size W w')) :
    Calls Try.prog 7 #[.int .i64 x0, .int .i64 x1, .bool true, .bool true] w fun e w' => e = .returned (.bool true) ∧ Below w.heap.size w w' := by
  have HB := Below.refl w.heap.size w
  go_enter Try.func7, Try.ntmps7
  go_wp2_with (first | (go_at_call 13; with_reducible refine (awake_c _).mono ?_; rintro e w' ⟨rfl, hb⟩; have HB := bl_step (w := w) (by repeat (with_reducible first | exact HB | (refine bl_set ?_ (by omega)) | apply bl_alloc | apply bl_drew | apply bl_drewN | fail)) hb; have hzB := HB.size) | (go_at_call 14; with_reducible refine (hc.out _).mono ?_; rintro e w' ⟨rfl, hb⟩; have HB := bl_step (w := w) (by repeat (with_reducible first | exact HB | (refine bl_set ?_ (by omega)) | apply bl_alloc | apply bl_drew | apply bl_drewN | fail)) hb; have hzB := HB.size; have K0 := fun cs => Blk.new w' cs 23) | fail)
  go_ret
  exact ⟨by simp, (by repeat (with_reducible first | exact Below.refl _ _ | assumption | (refine bl_set ?_ (by omega)) | apply bl_alloc | apply bl_drewN | apply bl_drew | (refine bl_step ?_ (by assumption)) | fail))⟩
theorem put_of {s : Int} (h0 : 0 ≤ s) (h1 : s ≤ 7) : putE 0 0 s = 0 ∧ gotB (putB 0 0 s) = true ∧ ansS (putB 0 0 s) = s := by
  rcases (by omega : s = 0 ∨ s = 1 ∨ s = 2 ∨ s = 3 ∨ s = 4 ∨ s = 5 ∨ s = 6 ∨ s = 7) with rfl | rfl | rfl | rfl | rfl | rfl | rfl | rfl <;> decide +kernel
theorem put_h {s : Int} (h0 : 0 ≤ s) (h1 : s ≤ 7) : Hid (∀ W : World, Calls Try.prog 16 #[.agg #[.int .i64 0, .int .i64 0, .int .i64 s]] W fun e w' => e = .returned (.tuple #[.string (putB 0 0 s), .int .i64 0]) ∧ Below W.heap.size W w') :=
  Lib.hid fun W => by
    have := rput_c 0 0 s W
    rwa [(put_of h0 h1).1] at this
theorem tk_h {ph bl : Int} {ag : Bool} {s : Int} {G : ByteArray} {X : HS} (hG : G.size = 40) (p0 : 1 ≤ ph) (p1 : ph ≤ 6) (b0 : 0 ≤ bl) (b1 : bl ≤ 1) (h0 : 0 ≤ s) (h1 : s ≤ 7) (hx : takeH ⟨ph, G, bl, ag, 0, ⟨#[]⟩, 0⟩ false false (putB 0 0 s) = X) :
    Hid (∀ W : World, Calls Try.prog 10 #[hostV ph G bl ag 0 ⟨#[]⟩ 0, .agg #[.bool false, .bool false, .string (putB 0 0 s)]] W fun e w' => e = .returned (.tuple #[X.v, .int .i64 0]) ∧ Below W.heap.size W w') :=
  Lib.hid fun W => by
    have hz : (putB 0 0 s).size ≤ 140737488351232 := by
      rcases (by omega : s = 0 ∨ s = 1 ∨ s = 2 ∨ s = 3 ∨ s = 4 ∨ s = 5 ∨ s = 6 ∨ s = 7) with rfl | rfl | rfl | rfl | rfl | rfl | rfl | rfl <;> decide +kernel
    have := take_c ⟨ph, G, bl, ag, 0, ⟨#[]⟩, 0⟩ false false (putB 0 0 s) W (by show G.size ≤ _; omega) (show (⟨#[]⟩ : ByteArray).size ≤ 1000000000000000 by decide) hz
    rwa [take_on (ok_any (by omega) (by omega) p0 p1 b0 (by omega) (by decide) (by decide) (by decide) (by decide) (by decide)), hx] at this
theorem rpoll_0ff (x0 x1 : Int) (G : ByteArray) (w : World) (hq : wrap64 (Int.tmod (IntKind.u64.wrap x0) 3) = 0) (hG : G.size = 40)
    (hc : Hid (∀ W : World, Calls Try.prog 14 #[.int .i64 40] W fun e w' => e = .returned (hostV 1 G 0 false 0 ⟨#[]⟩ 0) ∧ Below W.heap.size W w')) :
    Calls Try.prog 7 #[.int .i64 x0, .int .i64 x1, .bool false, .bool false] w fun e w' => e = .returned (.bool true) ∧ Below w.heap.size w w' := by
  have h2 := Bt.and7 x1
  have hm : manyI G = 2 := by unfold manyI; rw [hG]; rfl
  rcases (by omega : Go.bits .and .i64 x1 7 = 0 ∨ Go.bits .and .i64 x1 7 = 1 ∨ Go.bits .and .i64 x1 7 = 2 ∨ Go.bits .and .i64 x1 7 = 3 ∨ Go.bits .and .i64 x1 7 = 4 ∨ Go.bits .and .i64 x1 7 = 5 ∨ Go.bits .and .i64 x1 7 = 6 ∨ Go.bits .and .i64 x1 7 = 7) with e | e | e | e | e | e | e | e
  · have g := put_of (s := 0) (by decide) (by decide)
    exact rpoll_0ff_0s x0 x1 _ 0 G (putB 0 0 0) w hq e (by decide) (by decide) (Lib.hid hG) (fun W => by kernel_rfl) hc (put_h (by decide) (by decide)) (tk_h (X := ⟨2, G, 0, false, 0, ⟨#[]⟩, 0⟩) hG (by decide) (by decide) (by decide) (by decide) (by decide) (by decide) (by simp [takeH, clearedH, anewH, g.2.1, g.2.2, hm]))
  · have g := put_of (s := 1) (by decide) (by decide)
    exact rpoll_0ff_nd x0 x1 _ 0 G (putB 0 0 1) w hq e (by decide) (by decide) (Lib.hid hG) (fun W => by kernel_rfl) hc (put_h (by decide) (by decide)) (tk_h (X := ⟨1, G, 0, false, 0, ⟨#[]⟩, 0⟩) hG (by decide) (by decide) (by decide) (by decide) (by decide) (by decide) (by simp [takeH, clearedH, anewH, g.2.1, g.2.2, hm]))
  · have g := put_of (s := 2) (by decide) (by decide)
    exact rpoll_0ff_nd x0 x1 _ 0 G (putB 0 0 2) w hq e (by decide) (by decide) (Lib.hid hG) (fun W => by kernel_rfl) hc (put_h (by decide) (by decide)) (tk_h (X := ⟨1, G, 0, false, 0, ⟨#[]⟩, 0⟩) hG (by decide) (by decide) (by decide) (by decide) (by decide) (by decide) (by simp [takeH, clearedH, anewH, g.2.1, g.2.2, hm]))
  · have g := put_of (s := 3) (by decide) (by decide)
    exact rpoll_0ff_3c x0 x1 _ 1 G (putB 0 0 3) w hq e (by decide) (by decide) (Lib.hid hG) (fun W => by kernel_rfl) hc (put_h (by decide) (by decide)) (tk_h (X := ⟨1, G, 1, true, 0, ⟨#[]⟩, 0⟩) hG (by decide) (by decide) (by decide) (by decide) (by decide) (by decide) (by simp [takeH, clearedH, anewH, g.2.1, g.2.2, hm]))
  · have g := put_of (s := 4) (by decide) (by decide)
    exact rpoll_0ff_nd x0 x1 _ 0 G (putB 0 0 4) w hq e (by decide) (by decide) (Lib.hid hG) (fun W => by kernel_rfl) hc (put_h (by decide) (by decide)) (tk_h (X := ⟨1, G, 0, false, 0, ⟨#[]⟩, 0⟩) hG (by decide) (by decide) (by decide) (by decide) (by decide) (by decide) (by simp [takeH, clearedH, anewH, g.2.1, g.2.2, hm]))
  · have g := put_of (s := 5) (by decide) (by decide)
    exact rpoll_0ff_nd x0 x1 _ 0 G (putB 0 0 5) w hq e (by decide) (by decide) (Lib.hid hG) (fun W => by kernel_rfl) hc (put_h (by decide) (by decide)) (tk_h (X := ⟨1, G, 0, false, 0, ⟨#[]⟩, 0⟩) hG (by decide) (by decide) (by decide) (by decide) (by decide) (by decide) (by simp [takeH, clearedH, anewH, g.2.1, g.2.2, hm]))
  · have g := put_of (s := 6) (by decide) (by decide)
    exact rpoll_0ff_nc x0 x1 _ 1 G (putB 0 0 6) w hq e (by decide) (by decide) (Lib.hid hG) (fun W => by kernel_rfl) hc (put_h (by decide) (by decide)) (tk_h (X := ⟨1, G, 1, true, 0, ⟨#[]⟩, 0⟩) hG (by decide) (by decide) (by decide) (by decide) (by decide) (by decide) (by simp [takeH, clearedH, anewH, g.2.1, g.2.2, hm]))
  · have g := put_of (s := 7) (by decide) (by decide)
    exact rpoll_0ff_nc x0 x1 _ 0 G (putB 0 0 7) w hq e (by decide) (by decide) (Lib.hid hG) (fun W => by kernel_rfl) hc (put_h (by decide) (by decide)) (tk_h (X := ⟨1, G, 0, true, 0, ⟨#[]⟩, 0⟩) hG (by decide) (by decide) (by decide) (by decide) (by decide) (by decide) (by simp [takeH, clearedH, anewH, g.2.1, g.2.2, hm]))
theorem rpoll_0ft (x0 x1 : Int) (G : ByteArray) (w : World) (hq : wrap64 (Int.tmod (IntKind.u64.wrap x0) 3) = 0) (hG : G.size = 40)
    (hc : Hid (∀ W : World, Calls Try.prog 14 #[.int .i64 40] W fun e w' => e = .returned (hostV 1 G 0 false 0 ⟨#[]⟩ 0) ∧ Below W.heap.size W w')) :
    Calls Try.prog 7 #[.int .i64 x0, .int .i64 x1, .bool false, .bool true] w fun e w' => e = .returned (.bool true) ∧ Below w.heap.size w w' := by
  have h2 := Bt.and7 x1
  have hm : manyI G = 2 := by unfold manyI; rw [hG]; rfl
  rcases (by omega : Go.bits .and .i64 x1 7 = 0 ∨ Go.bits .and .i64 x1 7 = 1 ∨ Go.bits .and .i64 x1 7 = 2 ∨ Go.bits .and .i64 x1 7 = 3 ∨ Go.bits .and .i64 x1 7 = 4 ∨ Go.bits .and .i64 x1 7 = 5 ∨ Go.bits .and .i64 x1 7 = 6 ∨ Go.bits .and .i64 x1 7 = 7) with e | e | e | e | e | e | e | e
  · have g := put_of (s := 0) (by decide) (by decide)
    exact rpoll_0ft_0s x0 x1 _ 0 G (putB 0 0 0) w hq e (by decide) (by decide) (Lib.hid hG) (fun W => by kernel_rfl) hc (put_h (by decide) (by decide)) (tk_h (X := ⟨2, G, 0, false, 0, ⟨#[]⟩, 0⟩) hG (by decide) (by decide) (by decide) (by decide) (by decide) (by decide) (by simp [takeH, clearedH, anewH, g.2.1, g.2.2, hm]))
  · have g := put_of (s := 1) (by decide) (by decide)
    exact rpoll_0ft_nd x0 x1 _ 1 G (putB 0 0 1) w hq e (by decide) (by decide) (Lib.hid hG) (fun W => by kernel_rfl) hc (put_h (by decide) (by decide)) (tk_h (X := ⟨1, G, 1, false, 0, ⟨#[]⟩, 0⟩) hG (by decide) (by decide) (by decide) (by decide) (by decide) (by decide) (by simp [takeH, clearedH, anewH, g.2.1, g.2.2, hm]))
  · have g := put_of (s := 2) (by decide) (by decide)
    exact rpoll_0ft_nd x0 x1 _ 1 G (putB 0 0 2) w hq e (by decide) (by decide) (Lib.hid hG) (fun W => by kernel_rfl) hc (put_h (by decide) (by decide)) (tk_h (X := ⟨1, G, 1, false, 0, ⟨#[]⟩, 0⟩) hG (by decide) (by decide) (by decide) (by decide) (by decide) (by decide) (by simp [takeH, clearedH, anewH, g.2.1, g.2.2, hm]))
  · have g := put_of (s := 3) (by decide) (by decide)
    exact rpoll_0ft_3c x0 x1 _ 1 G (putB 0 0 3) w hq e (by decide) (by decide) (Lib.hid hG) (fun W => by kernel_rfl) hc (put_h (by decide) (by decide)) (tk_h (X := ⟨1, G, 1, true, 0, ⟨#[]⟩, 0⟩) hG (by decide) (by decide) (by decide) (by decide) (by decide) (by decide) (by simp [takeH, clearedH, anewH, g.2.1, g.2.2, hm]))
  · have g := put_of (s := 4) (by decide) (by decide)
    exact rpoll_0ft_nd x0 x1 _ 1 G (putB 0 0 4) w hq e (by decide) (by decide) (Lib.hid hG) (fun W => by kernel_rfl) hc (put_h (by decide) (by decide)) (tk_h (X := ⟨1, G, 1, false, 0, ⟨#[]⟩, 0⟩) hG (by decide) (by decide) (by decide) (by decide) (by decide) (by decide) (by simp [takeH, clearedH, anewH, g.2.1, g.2.2, hm]))
  · have g := put_of (s := 5) (by decide) (by decide)
    exact rpoll_0ft_nd x0 x1 _ 1 G (putB 0 0 5) w hq e (by decide) (by decide) (Lib.hid hG) (fun W => by kernel_rfl) hc (put_h (by decide) (by decide)) (tk_h (X := ⟨1, G, 1, false, 0, ⟨#[]⟩, 0⟩) hG (by decide) (by decide) (by decide) (by decide) (by decide) (by decide) (by simp [takeH, clearedH, anewH, g.2.1, g.2.2, hm]))
  · have g := put_of (s := 6) (by decide) (by decide)
    exact rpoll_0ft_nc x0 x1 _ 1 G (putB 0 0 6) w hq e (by decide) (by decide) (Lib.hid hG) (fun W => by kernel_rfl) hc (put_h (by decide) (by decide)) (tk_h (X := ⟨1, G, 1, true, 0, ⟨#[]⟩, 0⟩) hG (by decide) (by decide) (by decide) (by decide) (by decide) (by decide) (by simp [takeH, clearedH, anewH, g.2.1, g.2.2, hm]))
  · have g := put_of (s := 7) (by decide) (by decide)
    exact rpoll_0ft_nc x0 x1 _ 0 G (putB 0 0 7) w hq e (by decide) (by decide) (Lib.hid hG) (fun W => by kernel_rfl) hc (put_h (by decide) (by decide)) (tk_h (X := ⟨1, G, 0, true, 0, ⟨#[]⟩, 0⟩) hG (by decide) (by decide) (by decide) (by decide) (by decide) (by decide) (by simp [takeH, clearedH, anewH, g.2.1, g.2.2, hm]))
theorem rpoll_1ff (x0 x1 : Int) (G : ByteArray) (w : World) (hq : wrap64 (Int.tmod (IntKind.u64.wrap x0) 3) = 1) (hG : G.size = 40)
    (hc : Hid (∀ W : World, Calls Try.prog 14 #[.int .i64 40] W fun e w' => e = .returned (hostV 1 G 0 false 0 ⟨#[]⟩ 0) ∧ Below W.heap.size W w')) :
    Calls Try.prog 7 #[.int .i64 x0, .int .i64 x1, .bool false, .bool false] w fun e w' => e = .returned (.bool true) ∧ Below w.heap.size w w' := by
  have h2 := Bt.and7 x1
  have hm : manyI G = 2 := by unfold manyI; rw [hG]; rfl
  rcases (by omega : Go.bits .and .i64 x1 7 = 0 ∨ Go.bits .and .i64 x1 7 = 1 ∨ Go.bits .and .i64 x1 7 = 2 ∨ Go.bits .and .i64 x1 7 = 3 ∨ Go.bits .and .i64 x1 7 = 4 ∨ Go.bits .and .i64 x1 7 = 5 ∨ Go.bits .and .i64 x1 7 = 6 ∨ Go.bits .and .i64 x1 7 = 7) with e | e | e | e | e | e | e | e
  · have g := put_of (s := 0) (by decide) (by decide)
    exact rpoll_1ff_0c x0 x1 _ 0 G (putB 0 0 0) w hq e (by decide) (by decide) (Lib.hid hG) (fun W => by kernel_rfl) hc (put_h (by decide) (by decide)) (tk_h (X := ⟨1, G, 0, false, 1, ⟨#[]⟩, 0⟩) hG (by decide) (by decide) (by decide) (by decide) (by decide) (by decide) (by simp [takeH, polledH, anewH, g.2.1, g.2.2, hm]))
  · have g := put_of (s := 1) (by decide) (by decide)
    exact rpoll_1ff_nd x0 x1 _ 0 G (putB 0 0 1) w hq e (by decide) (by decide) (Lib.hid hG) (fun W => by kernel_rfl) hc (put_h (by decide) (by decide)) (tk_h (X := ⟨3, G, 0, false, 0, ⟨#[]⟩, 0⟩) hG (by decide) (by decide) (by decide) (by decide) (by decide) (by decide) (by simp [takeH, polledH, anewH, g.2.1, g.2.2, hm]))
  · have g := put_of (s := 2) (by decide) (by decide)
    exact rpoll_1ff_nd x0 x1 _ 0 G (putB 0 0 2) w hq e (by decide) (by decide) (Lib.hid hG) (fun W => by kernel_rfl) hc (put_h (by decide) (by decide)) (tk_h (X := ⟨3, G, 0, false, 0, ⟨#[]⟩, 0⟩) hG (by decide) (by decide) (by decide) (by decide) (by decide) (by decide) (by simp [takeH, polledH, anewH, g.2.1, g.2.2, hm]))
  · have g := put_of (s := 3) (by decide) (by decide)
    exact rpoll_1ff_3s x0 x1 _ 1 G (putB 0 0 3) w hq e (by decide) (by decide) (Lib.hid hG) (fun W => by kernel_rfl) hc (put_h (by decide) (by decide)) (tk_h (X := ⟨2, G, 1, false, 0, ⟨#[]⟩, 0⟩) hG (by decide) (by decide) (by decide) (by decide) (by decide) (by decide) (by simp [takeH, polledH, anewH, g.2.1, g.2.2, hm]))
  · have g := put_of (s := 4) (by decide) (by decide)
    exact rpoll_1ff_nc x0 x1 _ 0 G (putB 0 0 4) w hq e (by decide) (by decide) (Lib.hid hG) (fun W => by kernel_rfl) hc (put_h (by decide) (by decide)) (tk_h (X := ⟨1, G, 0, false, 1, ⟨#[]⟩, 0⟩) hG (by decide) (by decide) (by decide) (by decide) (by decide) (by decide) (by simp [takeH, polledH, anewH, g.2.1, g.2.2, hm]))
  · have g := put_of (s := 5) (by decide) (by decide)
    exact rpoll_1ff_nc x0 x1 _ 0 G (putB 0 0 5) w hq e (by decide) (by decide) (Lib.hid hG) (fun W => by kernel_rfl) hc (put_h (by decide) (by decide)) (tk_h (X := ⟨1, G, 0, false, 1, ⟨#[]⟩, 0⟩) hG (by decide) (by decide) (by decide) (by decide) (by decide) (by decide) (by simp [takeH, polledH, anewH, g.2.1, g.2.2, hm]))
  · have g := put_of (s := 6) (by decide) (by decide)
    exact rpoll_1ff_nc x0 x1 _ 0 G (putB 0 0 6) w hq e (by decide) (by decide) (Lib.hid hG) (fun W => by kernel_rfl) hc (put_h (by decide) (by decide)) (tk_h (X := ⟨1, G, 0, false, 1, ⟨#[]⟩, 0⟩) hG (by decide) (by decide) (by decide) (by decide) (by decide) (by decide) (by simp [takeH, polledH, anewH, g.2.1, g.2.2, hm]))
  · have g := put_of (s := 7) (by decide) (by decide)
    exact rpoll_1ff_nc x0 x1 _ 0 G (putB 0 0 7) w hq e (by decide) (by decide) (Lib.hid hG) (fun W => by kernel_rfl) hc (put_h (by decide) (by decide)) (tk_h (X := ⟨1, G, 0, false, 1, ⟨#[]⟩, 0⟩) hG (by decide) (by decide) (by decide) (by decide) (by decide) (by decide) (by simp [takeH, polledH, anewH, g.2.1, g.2.2, hm]))
theorem rpoll_1ft (x0 x1 : Int) (G : ByteArray) (w : World) (hq : wrap64 (Int.tmod (IntKind.u64.wrap x0) 3) = 1) (hG : G.size = 40)
    (hc : Hid (∀ W : World, Calls Try.prog 14 #[.int .i64 40] W fun e w' => e = .returned (hostV 1 G 0 false 0 ⟨#[]⟩ 0) ∧ Below W.heap.size W w')) :
    Calls Try.prog 7 #[.int .i64 x0, .int .i64 x1, .bool false, .bool true] w fun e w' => e = .returned (.bool true) ∧ Below w.heap.size w w' := by
  have h2 := Bt.and7 x1
  have hm : manyI G = 2 := by unfold manyI; rw [hG]; rfl
  rcases (by omega : Go.bits .and .i64 x1 7 = 0 ∨ Go.bits .and .i64 x1 7 = 1 ∨ Go.bits .and .i64 x1 7 = 2 ∨ Go.bits .and .i64 x1 7 = 3 ∨ Go.bits .and .i64 x1 7 = 4 ∨ Go.bits .and .i64 x1 7 = 5 ∨ Go.bits .and .i64 x1 7 = 6 ∨ Go.bits .and .i64 x1 7 = 7) with e | e | e | e | e | e | e | e
  · have g := put_of (s := 0) (by decide) (by decide)
    exact rpoll_1ft_0c x0 x1 _ 0 G (putB 0 0 0) w hq e (by decide) (by decide) (Lib.hid hG) (fun W => by kernel_rfl) hc (put_h (by decide) (by decide)) (tk_h (X := ⟨1, G, 0, false, 1, ⟨#[]⟩, 0⟩) hG (by decide) (by decide) (by decide) (by decide) (by decide) (by decide) (by simp [takeH, polledH, anewH, g.2.1, g.2.2, hm]))
  · have g := put_of (s := 1) (by decide) (by decide)
    exact rpoll_1ft_nd x0 x1 _ 1 G (putB 0 0 1) w hq e (by decide) (by decide) (Lib.hid hG) (fun W => by kernel_rfl) hc (put_h (by decide) (by decide)) (tk_h (X := ⟨3, G, 1, false, 0, ⟨#[]⟩, 0⟩) hG (by decide) (by decide) (by decide) (by decide) (by decide) (by decide) (by simp [takeH, polledH, anewH, g.2.1, g.2.2, hm]))
  · have g := put_of (s := 2) (by decide) (by decide)
    exact rpoll_1ft_nd x0 x1 _ 1 G (putB 0 0 2) w hq e (by decide) (by decide) (Lib.hid hG) (fun W => by kernel_rfl) hc (put_h (by decide) (by decide)) (tk_h (X := ⟨3, G, 1, false, 0, ⟨#[]⟩, 0⟩) hG (by decide) (by decide) (by decide) (by decide) (by decide) (by decide) (by simp [takeH, polledH, anewH, g.2.1, g.2.2, hm]))
  · have g := put_of (s := 3) (by decide) (by decide)
    exact rpoll_1ft_3s x0 x1 _ 2 G (putB 0 0 3) w hq e (by decide) (by decide) (Lib.hid hG) (fun W => by kernel_rfl) hc (put_h (by decide) (by decide)) (tk_h (X := ⟨4, G, 2, false, 0, ⟨#[]⟩, 0⟩) hG (by decide) (by decide) (by decide) (by decide) (by decide) (by decide) (by simp [takeH, polledH, anewH, g.2.1, g.2.2, hm]))
  · have g := put_of (s := 4) (by decide) (by decide)
    exact rpoll_1ft_nc x0 x1 _ 0 G (putB 0 0 4) w hq e (by decide) (by decide) (Lib.hid hG) (fun W => by kernel_rfl) hc (put_h (by decide) (by decide)) (tk_h (X := ⟨1, G, 0, false, 1, ⟨#[]⟩, 0⟩) hG (by decide) (by decide) (by decide) (by decide) (by decide) (by decide) (by simp [takeH, polledH, anewH, g.2.1, g.2.2, hm]))
  · have g := put_of (s := 5) (by decide) (by decide)
    exact rpoll_1ft_nc x0 x1 _ 0 G (putB 0 0 5) w hq e (by decide) (by decide) (Lib.hid hG) (fun W => by kernel_rfl) hc (put_h (by decide) (by decide)) (tk_h (X := ⟨1, G, 0, false, 1, ⟨#[]⟩, 0⟩) hG (by decide) (by decide) (by decide) (by decide) (by decide) (by decide) (by simp [takeH, polledH, anewH, g.2.1, g.2.2, hm]))
  · have g := put_of (s := 6) (by decide) (by decide)
    exact rpoll_1ft_nc x0 x1 _ 0 G (putB 0 0 6) w hq e (by decide) (by decide) (Lib.hid hG) (fun W => by kernel_rfl) hc (put_h (by decide) (by decide)) (tk_h (X := ⟨1, G, 0, false, 1, ⟨#[]⟩, 0⟩) hG (by decide) (by decide) (by decide) (by decide) (by decide) (by decide) (by simp [takeH, polledH, anewH, g.2.1, g.2.2, hm]))
  · have g := put_of (s := 7) (by decide) (by decide)
    exact rpoll_1ft_nc x0 x1 _ 0 G (putB 0 0 7) w hq e (by decide) (by decide) (Lib.hid hG) (fun W => by kernel_rfl) hc (put_h (by decide) (by decide)) (tk_h (X := ⟨1, G, 0, false, 1, ⟨#[]⟩, 0⟩) hG (by decide) (by decide) (by decide) (by decide) (by decide) (by decide) (by simp [takeH, polledH, anewH, g.2.1, g.2.2, hm]))
theorem rpoll_1tf (x0 x1 : Int) (G : ByteArray) (w : World) (hq : wrap64 (Int.tmod (IntKind.u64.wrap x0) 3) = 1) (hG : G.size = 40)
    (hc : Hid (∀ W : World, Calls Try.prog 14 #[.int .i64 40] W fun e w' => e = .returned (hostV 1 G 0 false 0 ⟨#[]⟩ 0) ∧ Below W.heap.size W w')) :
    Calls Try.prog 7 #[.int .i64 x0, .int .i64 x1, .bool true, .bool false] w fun e w' => e = .returned (.bool true) ∧ Below w.heap.size w w' := by
  have h2 := Bt.and7 x1
  have hm : manyI G = 2 := by unfold manyI; rw [hG]; rfl
  rcases (by omega : Go.bits .and .i64 x1 7 = 0 ∨ Go.bits .and .i64 x1 7 = 1 ∨ Go.bits .and .i64 x1 7 = 2 ∨ Go.bits .and .i64 x1 7 = 3 ∨ Go.bits .and .i64 x1 7 = 4 ∨ Go.bits .and .i64 x1 7 = 5 ∨ Go.bits .and .i64 x1 7 = 6 ∨ Go.bits .and .i64 x1 7 = 7) with e | e | e | e | e | e | e | e
  · have g := put_of (s := 0) (by decide) (by decide)
    exact rpoll_1tf_0c x0 x1 _ 0 G (putB 0 0 0) w hq e (by decide) (by decide) (Lib.hid hG) (fun W => by kernel_rfl) hc (put_h (by decide) (by decide)) (tk_h (X := ⟨2, G, 0, false, 0, ⟨#[]⟩, 0⟩) hG (by decide) (by decide) (by decide) (by decide) (by decide) (by decide) (by simp [takeH, polledH, anewH, g.2.1, g.2.2, hm]))
  · have g := put_of (s := 1) (by decide) (by decide)
    exact rpoll_1tf_nd x0 x1 _ 0 G (putB 0 0 1) w hq e (by decide) (by decide) (Lib.hid hG) (fun W => by kernel_rfl) hc (put_h (by decide) (by decide)) (tk_h (X := ⟨3, G, 0, true, 0, ⟨#[]⟩, 0⟩) hG (by decide) (by decide) (by decide) (by decide) (by decide) (by decide) (by simp [takeH, polledH, anewH, g.2.1, g.2.2, hm]))
  · have g := put_of (s := 2) (by decide) (by decide)
    exact rpoll_1tf_nd x0 x1 _ 0 G (putB 0 0 2) w hq e (by decide) (by decide) (Lib.hid hG) (fun W => by kernel_rfl) hc (put_h (by decide) (by decide)) (tk_h (X := ⟨3, G, 0, true, 0, ⟨#[]⟩, 0⟩) hG (by decide) (by decide) (by decide) (by decide) (by decide) (by decide) (by simp [takeH, polledH, anewH, g.2.1, g.2.2, hm]))
  · have g := put_of (s := 3) (by decide) (by decide)
    exact rpoll_1tf_3s x0 x1 _ 0 G (putB 0 0 3) w hq e (by decide) (by decide) (Lib.hid hG) (fun W => by kernel_rfl) hc (put_h (by decide) (by decide)) (tk_h (X := ⟨2, G, 0, false, 0, ⟨#[]⟩, 0⟩) hG (by decide) (by decide) (by decide) (by decide) (by decide) (by decide) (by simp [takeH, polledH, anewH, g.2.1, g.2.2, hm]))
  · have g := put_of (s := 4) (by decide) (by decide)
    exact rpoll_1tf_nc x0 x1 _ 0 G (putB 0 0 4) w hq e (by decide) (by decide) (Lib.hid hG) (fun W => by kernel_rfl) hc (put_h (by decide) (by decide)) (tk_h (X := ⟨1, G, 0, false, 1, ⟨#[]⟩, 0⟩) hG (by decide) (by decide) (by decide) (by decide) (by decide) (by decide) (by simp [takeH, polledH, anewH, g.2.1, g.2.2, hm]))
  · have g := put_of (s := 5) (by decide) (by decide)
    exact rpoll_1tf_nc x0 x1 _ 0 G (putB 0 0 5) w hq e (by decide) (by decide) (Lib.hid hG) (fun W => by kernel_rfl) hc (put_h (by decide) (by decide)) (tk_h (X := ⟨1, G, 0, false, 1, ⟨#[]⟩, 0⟩) hG (by decide) (by decide) (by decide) (by decide) (by decide) (by decide) (by simp [takeH, polledH, anewH, g.2.1, g.2.2, hm]))
  · have g := put_of (s := 6) (by decide) (by decide)
    exact rpoll_1tf_nc x0 x1 _ 0 G (putB 0 0 6) w hq e (by decide) (by decide) (Lib.hid hG) (fun W => by kernel_rfl) hc (put_h (by decide) (by decide)) (tk_h (X := ⟨1, G, 0, false, 1, ⟨#[]⟩, 0⟩) hG (by decide) (by decide) (by decide) (by decide) (by decide) (by decide) (by simp [takeH, polledH, anewH, g.2.1, g.2.2, hm]))
  · have g := put_of (s := 7) (by decide) (by decide)
    exact rpoll_1tf_nc x0 x1 _ 0 G (putB 0 0 7) w hq e (by decide) (by decide) (Lib.hid hG) (fun W => by kernel_rfl) hc (put_h (by decide) (by decide)) (tk_h (X := ⟨1, G, 0, false, 1, ⟨#[]⟩, 0⟩) hG (by decide) (by decide) (by decide) (by decide) (by decide) (by decide) (by simp [takeH, polledH, anewH, g.2.1, g.2.2, hm]))
theorem rpoll_1tt (x0 x1 : Int) (G : ByteArray) (w : World) (hq : wrap64 (Int.tmod (IntKind.u64.wrap x0) 3) = 1) (hG : G.size = 40)
    (hc : Hid (∀ W : World, Calls Try.prog 14 #[.int .i64 40] W fun e w' => e = .returned (hostV 1 G 0 false 0 ⟨#[]⟩ 0) ∧ Below W.heap.size W w')) :
    Calls Try.prog 7 #[.int .i64 x0, .int .i64 x1, .bool true, .bool true] w fun e w' => e = .returned (.bool true) ∧ Below w.heap.size w w' := by
  have h2 := Bt.and7 x1
  have hm : manyI G = 2 := by unfold manyI; rw [hG]; rfl
  rcases (by omega : Go.bits .and .i64 x1 7 = 0 ∨ Go.bits .and .i64 x1 7 = 1 ∨ Go.bits .and .i64 x1 7 = 2 ∨ Go.bits .and .i64 x1 7 = 3 ∨ Go.bits .and .i64 x1 7 = 4 ∨ Go.bits .and .i64 x1 7 = 5 ∨ Go.bits .and .i64 x1 7 = 6 ∨ Go.bits .and .i64 x1 7 = 7) with e | e | e | e | e | e | e | e
  · have g := put_of (s := 0) (by decide) (by decide)
    exact rpoll_1tt_0c x0 x1 _ 0 G (putB 0 0 0) w hq e (by decide) (by decide) (Lib.hid hG) (fun W => by kernel_rfl) hc (put_h (by decide) (by decide)) (tk_h (X := ⟨1, G, 0, false, 1, ⟨#[]⟩, 0⟩) hG (by decide) (by decide) (by decide) (by decide) (by decide) (by decide) (by simp [takeH, polledH, anewH, g.2.1, g.2.2, hm]))
  · have g := put_of (s := 1) (by decide) (by decide)
    exact rpoll_1tt_nd x0 x1 _ 1 G (putB 0 0 1) w hq e (by decide) (by decide) (Lib.hid hG) (fun W => by kernel_rfl) hc (put_h (by decide) (by decide)) (tk_h (X := ⟨3, G, 1, true, 0, ⟨#[]⟩, 0⟩) hG (by decide) (by decide) (by decide) (by decide) (by decide) (by decide) (by simp [takeH, polledH, anewH, g.2.1, g.2.2, hm]))
  · have g := put_of (s := 2) (by decide) (by decide)
    exact rpoll_1tt_nd x0 x1 _ 1 G (putB 0 0 2) w hq e (by decide) (by decide) (Lib.hid hG) (fun W => by kernel_rfl) hc (put_h (by decide) (by decide)) (tk_h (X := ⟨3, G, 1, true, 0, ⟨#[]⟩, 0⟩) hG (by decide) (by decide) (by decide) (by decide) (by decide) (by decide) (by simp [takeH, polledH, anewH, g.2.1, g.2.2, hm]))
  · have g := put_of (s := 3) (by decide) (by decide)
    exact rpoll_1tt_3s x0 x1 _ 1 G (putB 0 0 3) w hq e (by decide) (by decide) (Lib.hid hG) (fun W => by kernel_rfl) hc (put_h (by decide) (by decide)) (tk_h (X := ⟨2, G, 1, false, 0, ⟨#[]⟩, 0⟩) hG (by decide) (by decide) (by decide) (by decide) (by decide) (by decide) (by simp [takeH, polledH, anewH, g.2.1, g.2.2, hm]))
  · have g := put_of (s := 4) (by decide) (by decide)
    exact rpoll_1tt_nc x0 x1 _ 0 G (putB 0 0 4) w hq e (by decide) (by decide) (Lib.hid hG) (fun W => by kernel_rfl) hc (put_h (by decide) (by decide)) (tk_h (X := ⟨1, G, 0, false, 1, ⟨#[]⟩, 0⟩) hG (by decide) (by decide) (by decide) (by decide) (by decide) (by decide) (by simp [takeH, polledH, anewH, g.2.1, g.2.2, hm]))
  · have g := put_of (s := 5) (by decide) (by decide)
    exact rpoll_1tt_nc x0 x1 _ 0 G (putB 0 0 5) w hq e (by decide) (by decide) (Lib.hid hG) (fun W => by kernel_rfl) hc (put_h (by decide) (by decide)) (tk_h (X := ⟨1, G, 0, false, 1, ⟨#[]⟩, 0⟩) hG (by decide) (by decide) (by decide) (by decide) (by decide) (by decide) (by simp [takeH, polledH, anewH, g.2.1, g.2.2, hm]))
  · have g := put_of (s := 6) (by decide) (by decide)
    exact rpoll_1tt_nc x0 x1 _ 0 G (putB 0 0 6) w hq e (by decide) (by decide) (Lib.hid hG) (fun W => by kernel_rfl) hc (put_h (by decide) (by decide)) (tk_h (X := ⟨1, G, 0, false, 1, ⟨#[]⟩, 0⟩) hG (by decide) (by decide) (by decide) (by decide) (by decide) (by decide) (by simp [takeH, polledH, anewH, g.2.1, g.2.2, hm]))
  · have g := put_of (s := 7) (by decide) (by decide)
    exact rpoll_1tt_nc x0 x1 _ 0 G (putB 0 0 7) w hq e (by decide) (by decide) (Lib.hid hG) (fun W => by kernel_rfl) hc (put_h (by decide) (by decide)) (tk_h (X := ⟨1, G, 0, false, 1, ⟨#[]⟩, 0⟩) hG (by decide) (by decide) (by decide) (by decide) (by decide) (by decide) (by simp [takeH, polledH, anewH, g.2.1, g.2.2, hm]))
theorem rpoll_2ff (x0 x1 : Int) (G : ByteArray) (w : World) (hq : wrap64 (Int.tmod (IntKind.u64.wrap x0) 3) = 2) (hG : G.size = 40)
    (hc : Hid (∀ W : World, Calls Try.prog 14 #[.int .i64 40] W fun e w' => e = .returned (hostV 1 G 0 false 0 ⟨#[]⟩ 0) ∧ Below W.heap.size W w')) :
    Calls Try.prog 7 #[.int .i64 x0, .int .i64 x1, .bool false, .bool false] w fun e w' => e = .returned (.bool true) ∧ Below w.heap.size w w' := by
  have h2 := Bt.and7 x1
  have hm : manyI G = 2 := by unfold manyI; rw [hG]; rfl
  rcases (by omega : Go.bits .and .i64 x1 7 = 0 ∨ Go.bits .and .i64 x1 7 = 1 ∨ Go.bits .and .i64 x1 7 = 2 ∨ Go.bits .and .i64 x1 7 = 3 ∨ Go.bits .and .i64 x1 7 = 4 ∨ Go.bits .and .i64 x1 7 = 5 ∨ Go.bits .and .i64 x1 7 = 6 ∨ Go.bits .and .i64 x1 7 = 7) with e | e | e | e | e | e | e | e
  · have g := put_of (s := 0) (by decide) (by decide)
    exact rpoll_2ff_0r x0 x1 _ 0 G (putB 0 0 0) w hq e (by decide) (by decide) (Lib.hid hG) (fun W => by kernel_rfl) hc (put_h (by decide) (by decide)) (tk_h (X := ⟨6, G, 0, false, 0, ⟨#[]⟩, 0⟩) hG (by decide) (by decide) (by decide) (by decide) (by decide) (by decide) (by simp [takeH, waitedH, anewH, g.2.1, g.2.2, hm]))
  · have g := put_of (s := 1) (by decide) (by decide)
    exact rpoll_2ff_nc x0 x1 _ 0 G (putB 0 0 1) w hq e (by decide) (by decide) (Lib.hid hG) (fun W => by kernel_rfl) hc (put_h (by decide) (by decide)) (tk_h (X := ⟨1, G, 0, false, 1, ⟨#[]⟩, 0⟩) hG (by decide) (by decide) (by decide) (by decide) (by decide) (by decide) (by simp [takeH, waitedH, anewH, g.2.1, g.2.2, hm]))
  · have g := put_of (s := 2) (by decide) (by decide)
    exact rpoll_2ff_nc x0 x1 _ 0 G (putB 0 0 2) w hq e (by decide) (by decide) (Lib.hid hG) (fun W => by kernel_rfl) hc (put_h (by decide) (by decide)) (tk_h (X := ⟨1, G, 0, false, 1, ⟨#[]⟩, 0⟩) hG (by decide) (by decide) (by decide) (by decide) (by decide) (by decide) (by simp [takeH, waitedH, anewH, g.2.1, g.2.2, hm]))
  · have g := put_of (s := 3) (by decide) (by decide)
    exact rpoll_2ff_3c x0 x1 _ 0 G (putB 0 0 3) w hq e (by decide) (by decide) (Lib.hid hG) (fun W => by kernel_rfl) hc (put_h (by decide) (by decide)) (tk_h (X := ⟨1, G, 0, false, 1, ⟨#[]⟩, 0⟩) hG (by decide) (by decide) (by decide) (by decide) (by decide) (by decide) (by simp [takeH, waitedH, anewH, g.2.1, g.2.2, hm]))
  · have g := put_of (s := 4) (by decide) (by decide)
    exact rpoll_2ff_nd x0 x1 _ 0 G (putB 0 0 4) w hq e (by decide) (by decide) (Lib.hid hG) (fun W => by kernel_rfl) hc (put_h (by decide) (by decide)) (tk_h (X := ⟨5, G, 0, false, 0, ⟨#[]⟩, 0⟩) hG (by decide) (by decide) (by decide) (by decide) (by decide) (by decide) (by simp [takeH, waitedH, anewH, g.2.1, g.2.2, hm]))
  · have g := put_of (s := 5) (by decide) (by decide)
    exact rpoll_2ff_nd x0 x1 _ 0 G (putB 0 0 5) w hq e (by decide) (by decide) (Lib.hid hG) (fun W => by kernel_rfl) hc (put_h (by decide) (by decide)) (tk_h (X := ⟨5, G, 0, false, 0, ⟨#[]⟩, 0⟩) hG (by decide) (by decide) (by decide) (by decide) (by decide) (by decide) (by simp [takeH, waitedH, anewH, g.2.1, g.2.2, hm]))
  · have g := put_of (s := 6) (by decide) (by decide)
    exact rpoll_2ff_nc x0 x1 _ 0 G (putB 0 0 6) w hq e (by decide) (by decide) (Lib.hid hG) (fun W => by kernel_rfl) hc (put_h (by decide) (by decide)) (tk_h (X := ⟨1, G, 0, false, 1, ⟨#[]⟩, 0⟩) hG (by decide) (by decide) (by decide) (by decide) (by decide) (by decide) (by simp [takeH, waitedH, anewH, g.2.1, g.2.2, hm]))
  · have g := put_of (s := 7) (by decide) (by decide)
    exact rpoll_2ff_nc x0 x1 _ 0 G (putB 0 0 7) w hq e (by decide) (by decide) (Lib.hid hG) (fun W => by kernel_rfl) hc (put_h (by decide) (by decide)) (tk_h (X := ⟨1, G, 0, false, 1, ⟨#[]⟩, 0⟩) hG (by decide) (by decide) (by decide) (by decide) (by decide) (by decide) (by simp [takeH, waitedH, anewH, g.2.1, g.2.2, hm]))
theorem rpoll_2ft (x0 x1 : Int) (G : ByteArray) (w : World) (hq : wrap64 (Int.tmod (IntKind.u64.wrap x0) 3) = 2) (hG : G.size = 40)
    (hc : Hid (∀ W : World, Calls Try.prog 14 #[.int .i64 40] W fun e w' => e = .returned (hostV 1 G 0 false 0 ⟨#[]⟩ 0) ∧ Below W.heap.size W w')) :
    Calls Try.prog 7 #[.int .i64 x0, .int .i64 x1, .bool false, .bool true] w fun e w' => e = .returned (.bool true) ∧ Below w.heap.size w w' := by
  have h2 := Bt.and7 x1
  have hm : manyI G = 2 := by unfold manyI; rw [hG]; rfl
  rcases (by omega : Go.bits .and .i64 x1 7 = 0 ∨ Go.bits .and .i64 x1 7 = 1 ∨ Go.bits .and .i64 x1 7 = 2 ∨ Go.bits .and .i64 x1 7 = 3 ∨ Go.bits .and .i64 x1 7 = 4 ∨ Go.bits .and .i64 x1 7 = 5 ∨ Go.bits .and .i64 x1 7 = 6 ∨ Go.bits .and .i64 x1 7 = 7) with e | e | e | e | e | e | e | e
  · have g := put_of (s := 0) (by decide) (by decide)
    exact rpoll_2ft_0r x0 x1 _ 0 G (putB 0 0 0) w hq e (by decide) (by decide) (Lib.hid hG) (fun W => by kernel_rfl) hc (put_h (by decide) (by decide)) (tk_h (X := ⟨6, G, 0, false, 0, ⟨#[]⟩, 0⟩) hG (by decide) (by decide) (by decide) (by decide) (by decide) (by decide) (by simp [takeH, waitedH, anewH, g.2.1, g.2.2, hm]))
  · have g := put_of (s := 1) (by decide) (by decide)
    exact rpoll_2ft_nc x0 x1 _ 0 G (putB 0 0 1) w hq e (by decide) (by decide) (Lib.hid hG) (fun W => by kernel_rfl) hc (put_h (by decide) (by decide)) (tk_h (X := ⟨1, G, 0, false, 1, ⟨#[]⟩, 0⟩) hG (by decide) (by decide) (by decide) (by decide) (by decide) (by decide) (by simp [takeH, waitedH, anewH, g.2.1, g.2.2, hm]))
  · have g := put_of (s := 2) (by decide) (by decide)
    exact rpoll_2ft_nc x0 x1 _ 0 G (putB 0 0 2) w hq e (by decide) (by decide) (Lib.hid hG) (fun W => by kernel_rfl) hc (put_h (by decide) (by decide)) (tk_h (X := ⟨1, G, 0, false, 1, ⟨#[]⟩, 0⟩) hG (by decide) (by decide) (by decide) (by decide) (by decide) (by decide) (by simp [takeH, waitedH, anewH, g.2.1, g.2.2, hm]))
  · have g := put_of (s := 3) (by decide) (by decide)
    exact rpoll_2ft_3c x0 x1 _ 0 G (putB 0 0 3) w hq e (by decide) (by decide) (Lib.hid hG) (fun W => by kernel_rfl) hc (put_h (by decide) (by decide)) (tk_h (X := ⟨1, G, 0, false, 1, ⟨#[]⟩, 0⟩) hG (by decide) (by decide) (by decide) (by decide) (by decide) (by decide) (by simp [takeH, waitedH, anewH, g.2.1, g.2.2, hm]))
  · have g := put_of (s := 4) (by decide) (by decide)
    exact rpoll_2ft_nd x0 x1 _ 1 G (putB 0 0 4) w hq e (by decide) (by decide) (Lib.hid hG) (fun W => by kernel_rfl) hc (put_h (by decide) (by decide)) (tk_h (X := ⟨5, G, 1, false, 0, ⟨#[]⟩, 0⟩) hG (by decide) (by decide) (by decide) (by decide) (by decide) (by decide) (by simp [takeH, waitedH, anewH, g.2.1, g.2.2, hm]))
  · have g := put_of (s := 5) (by decide) (by decide)
    exact rpoll_2ft_nd x0 x1 _ 1 G (putB 0 0 5) w hq e (by decide) (by decide) (Lib.hid hG) (fun W => by kernel_rfl) hc (put_h (by decide) (by decide)) (tk_h (X := ⟨5, G, 1, false, 0, ⟨#[]⟩, 0⟩) hG (by decide) (by decide) (by decide) (by decide) (by decide) (by decide) (by simp [takeH, waitedH, anewH, g.2.1, g.2.2, hm]))
  · have g := put_of (s := 6) (by decide) (by decide)
    exact rpoll_2ft_nc x0 x1 _ 0 G (putB 0 0 6) w hq e (by decide) (by decide) (Lib.hid hG) (fun W => by kernel_rfl) hc (put_h (by decide) (by decide)) (tk_h (X := ⟨1, G, 0, false, 1, ⟨#[]⟩, 0⟩) hG (by decide) (by decide) (by decide) (by decide) (by decide) (by decide) (by simp [takeH, waitedH, anewH, g.2.1, g.2.2, hm]))
  · have g := put_of (s := 7) (by decide) (by decide)
    exact rpoll_2ft_nc x0 x1 _ 0 G (putB 0 0 7) w hq e (by decide) (by decide) (Lib.hid hG) (fun W => by kernel_rfl) hc (put_h (by decide) (by decide)) (tk_h (X := ⟨1, G, 0, false, 1, ⟨#[]⟩, 0⟩) hG (by decide) (by decide) (by decide) (by decide) (by decide) (by decide) (by simp [takeH, waitedH, anewH, g.2.1, g.2.2, hm]))
theorem rpoll_2tf (x0 x1 : Int) (G : ByteArray) (w : World) (hq : wrap64 (Int.tmod (IntKind.u64.wrap x0) 3) = 2) (hG : G.size = 40)
    (hc : Hid (∀ W : World, Calls Try.prog 14 #[.int .i64 40] W fun e w' => e = .returned (hostV 1 G 0 false 0 ⟨#[]⟩ 0) ∧ Below W.heap.size W w')) :
    Calls Try.prog 7 #[.int .i64 x0, .int .i64 x1, .bool true, .bool false] w fun e w' => e = .returned (.bool true) ∧ Below w.heap.size w w' := by
  have h2 := Bt.and7 x1
  have hm : manyI G = 2 := by unfold manyI; rw [hG]; rfl
  rcases (by omega : Go.bits .and .i64 x1 7 = 0 ∨ Go.bits .and .i64 x1 7 = 1 ∨ Go.bits .and .i64 x1 7 = 2 ∨ Go.bits .and .i64 x1 7 = 3 ∨ Go.bits .and .i64 x1 7 = 4 ∨ Go.bits .and .i64 x1 7 = 5 ∨ Go.bits .and .i64 x1 7 = 6 ∨ Go.bits .and .i64 x1 7 = 7) with e | e | e | e | e | e | e | e
  · have g := put_of (s := 0) (by decide) (by decide)
    exact rpoll_2tf_0r x0 x1 _ 0 G (putB 0 0 0) w hq e (by decide) (by decide) (Lib.hid hG) (fun W => by kernel_rfl) hc (put_h (by decide) (by decide)) (tk_h (X := ⟨6, G, 0, false, 0, ⟨#[]⟩, 0⟩) hG (by decide) (by decide) (by decide) (by decide) (by decide) (by decide) (by simp [takeH, waitedH, anewH, g.2.1, g.2.2, hm]))
  · have g := put_of (s := 1) (by decide) (by decide)
    exact rpoll_2tf_nc x0 x1 _ 0 G (putB 0 0 1) w hq e (by decide) (by decide) (Lib.hid hG) (fun W => by kernel_rfl) hc (put_h (by decide) (by decide)) (tk_h (X := ⟨1, G, 0, false, 1, ⟨#[]⟩, 0⟩) hG (by decide) (by decide) (by decide) (by decide) (by decide) (by decide) (by simp [takeH, waitedH, anewH, g.2.1, g.2.2, hm]))
  · have g := put_of (s := 2) (by decide) (by decide)
    exact rpoll_2tf_nc x0 x1 _ 0 G (putB 0 0 2) w hq e (by decide) (by decide) (Lib.hid hG) (fun W => by kernel_rfl) hc (put_h (by decide) (by decide)) (tk_h (X := ⟨1, G, 0, false, 1, ⟨#[]⟩, 0⟩) hG (by decide) (by decide) (by decide) (by decide) (by decide) (by decide) (by simp [takeH, waitedH, anewH, g.2.1, g.2.2, hm]))
  · have g := put_of (s := 3) (by decide) (by decide)
    exact rpoll_2tf_3c x0 x1 _ 0 G (putB 0 0 3) w hq e (by decide) (by decide) (Lib.hid hG) (fun W => by kernel_rfl) hc (put_h (by decide) (by decide)) (tk_h (X := ⟨4, G, 0, false, 0, ⟨#[]⟩, 0⟩) hG (by decide) (by decide) (by decide) (by decide) (by decide) (by decide) (by simp [takeH, waitedH, anewH, g.2.1, g.2.2, hm]))
  · have g := put_of (s := 4) (by decide) (by decide)
    exact rpoll_2tf_nd x0 x1 _ 0 G (putB 0 0 4) w hq e (by decide) (by decide) (Lib.hid hG) (fun W => by kernel_rfl) hc (put_h (by decide) (by decide)) (tk_h (X := ⟨5, G, 0, true, 0, ⟨#[]⟩, 0⟩) hG (by decide) (by decide) (by decide) (by decide) (by decide) (by decide) (by simp [takeH, waitedH, anewH, g.2.1, g.2.2, hm]))
  · have g := put_of (s := 5) (by decide) (by decide)
    exact rpoll_2tf_nd x0 x1 _ 0 G (putB 0 0 5) w hq e (by decide) (by decide) (Lib.hid hG) (fun W => by kernel_rfl) hc (put_h (by decide) (by decide)) (tk_h (X := ⟨5, G, 0, true, 0, ⟨#[]⟩, 0⟩) hG (by decide) (by decide) (by decide) (by decide) (by decide) (by decide) (by simp [takeH, waitedH, anewH, g.2.1, g.2.2, hm]))
  · have g := put_of (s := 6) (by decide) (by decide)
    exact rpoll_2tf_nc x0 x1 _ 0 G (putB 0 0 6) w hq e (by decide) (by decide) (Lib.hid hG) (fun W => by kernel_rfl) hc (put_h (by decide) (by decide)) (tk_h (X := ⟨1, G, 0, false, 1, ⟨#[]⟩, 0⟩) hG (by decide) (by decide) (by decide) (by decide) (by decide) (by decide) (by simp [takeH, waitedH, anewH, g.2.1, g.2.2, hm]))
  · have g := put_of (s := 7) (by decide) (by decide)
    exact rpoll_2tf_nc x0 x1 _ 0 G (putB 0 0 7) w hq e (by decide) (by decide) (Lib.hid hG) (fun W => by kernel_rfl) hc (put_h (by decide) (by decide)) (tk_h (X := ⟨1, G, 0, false, 1, ⟨#[]⟩, 0⟩) hG (by decide) (by decide) (by decide) (by decide) (by decide) (by decide) (by simp [takeH, waitedH, anewH, g.2.1, g.2.2, hm]))
theorem rpoll_2tt (x0 x1 : Int) (G : ByteArray) (w : World) (hq : wrap64 (Int.tmod (IntKind.u64.wrap x0) 3) = 2) (hG : G.size = 40)
    (hc : Hid (∀ W : World, Calls Try.prog 14 #[.int .i64 40] W fun e w' => e = .returned (hostV 1 G 0 false 0 ⟨#[]⟩ 0) ∧ Below W.heap.size W w')) :
    Calls Try.prog 7 #[.int .i64 x0, .int .i64 x1, .bool true, .bool true] w fun e w' => e = .returned (.bool true) ∧ Below w.heap.size w w' := by
  have h2 := Bt.and7 x1
  have hm : manyI G = 2 := by unfold manyI; rw [hG]; rfl
  rcases (by omega : Go.bits .and .i64 x1 7 = 0 ∨ Go.bits .and .i64 x1 7 = 1 ∨ Go.bits .and .i64 x1 7 = 2 ∨ Go.bits .and .i64 x1 7 = 3 ∨ Go.bits .and .i64 x1 7 = 4 ∨ Go.bits .and .i64 x1 7 = 5 ∨ Go.bits .and .i64 x1 7 = 6 ∨ Go.bits .and .i64 x1 7 = 7) with e | e | e | e | e | e | e | e
  · have g := put_of (s := 0) (by decide) (by decide)
    exact rpoll_2tt_0r x0 x1 _ 0 G (putB 0 0 0) w hq e (by decide) (by decide) (Lib.hid hG) (fun W => by kernel_rfl) hc (put_h (by decide) (by decide)) (tk_h (X := ⟨6, G, 0, false, 0, ⟨#[]⟩, 0⟩) hG (by decide) (by decide) (by decide) (by decide) (by decide) (by decide) (by simp [takeH, waitedH, anewH, g.2.1, g.2.2, hm]))
  · have g := put_of (s := 1) (by decide) (by decide)
    exact rpoll_2tt_nc x0 x1 _ 0 G (putB 0 0 1) w hq e (by decide) (by decide) (Lib.hid hG) (fun W => by kernel_rfl) hc (put_h (by decide) (by decide)) (tk_h (X := ⟨1, G, 0, false, 1, ⟨#[]⟩, 0⟩) hG (by decide) (by decide) (by decide) (by decide) (by decide) (by decide) (by simp [takeH, waitedH, anewH, g.2.1, g.2.2, hm]))
  · have g := put_of (s := 2) (by decide) (by decide)
    exact rpoll_2tt_nc x0 x1 _ 0 G (putB 0 0 2) w hq e (by decide) (by decide) (Lib.hid hG) (fun W => by kernel_rfl) hc (put_h (by decide) (by decide)) (tk_h (X := ⟨1, G, 0, false, 1, ⟨#[]⟩, 0⟩) hG (by decide) (by decide) (by decide) (by decide) (by decide) (by decide) (by simp [takeH, waitedH, anewH, g.2.1, g.2.2, hm]))
  · have g := put_of (s := 3) (by decide) (by decide)
    exact rpoll_2tt_3c x0 x1 _ 1 G (putB 0 0 3) w hq e (by decide) (by decide) (Lib.hid hG) (fun W => by kernel_rfl) hc (put_h (by decide) (by decide)) (tk_h (X := ⟨4, G, 1, false, 0, ⟨#[]⟩, 0⟩) hG (by decide) (by decide) (by decide) (by decide) (by decide) (by decide) (by simp [takeH, waitedH, anewH, g.2.1, g.2.2, hm]))
  · have g := put_of (s := 4) (by decide) (by decide)
    exact rpoll_2tt_nd x0 x1 _ 1 G (putB 0 0 4) w hq e (by decide) (by decide) (Lib.hid hG) (fun W => by kernel_rfl) hc (put_h (by decide) (by decide)) (tk_h (X := ⟨5, G, 1, true, 0, ⟨#[]⟩, 0⟩) hG (by decide) (by decide) (by decide) (by decide) (by decide) (by decide) (by simp [takeH, waitedH, anewH, g.2.1, g.2.2, hm]))
  · have g := put_of (s := 5) (by decide) (by decide)
    exact rpoll_2tt_nd x0 x1 _ 1 G (putB 0 0 5) w hq e (by decide) (by decide) (Lib.hid hG) (fun W => by kernel_rfl) hc (put_h (by decide) (by decide)) (tk_h (X := ⟨5, G, 1, true, 0, ⟨#[]⟩, 0⟩) hG (by decide) (by decide) (by decide) (by decide) (by decide) (by decide) (by simp [takeH, waitedH, anewH, g.2.1, g.2.2, hm]))
  · have g := put_of (s := 6) (by decide) (by decide)
    exact rpoll_2tt_nc x0 x1 _ 0 G (putB 0 0 6) w hq e (by decide) (by decide) (Lib.hid hG) (fun W => by kernel_rfl) hc (put_h (by decide) (by decide)) (tk_h (X := ⟨1, G, 0, false, 1, ⟨#[]⟩, 0⟩) hG (by decide) (by decide) (by decide) (by decide) (by decide) (by decide) (by simp [takeH, waitedH, anewH, g.2.1, g.2.2, hm]))
  · have g := put_of (s := 7) (by decide) (by decide)
    exact rpoll_2tt_nc x0 x1 _ 0 G (putB 0 0 7) w hq e (by decide) (by decide) (Lib.hid hG) (fun W => by kernel_rfl) hc (put_h (by decide) (by decide)) (tk_h (X := ⟨1, G, 0, false, 1, ⟨#[]⟩, 0⟩) hG (by decide) (by decide) (by decide) (by decide) (by decide) (by decide) (by simp [takeH, waitedH, anewH, g.2.1, g.2.2, hm]))
theorem rpoll_w (x0 x1 : Int) (ag last : Bool) (w : World) : Calls Try.prog 7 #[.int .i64 x0, .int .i64 x1, .bool ag, .bool last] w fun e w' => e = .returned (.bool true) ∧ Below w.heap.size w w' := by
  have h0 := umod64 x0 3 (by decide) (by decide)
  have hG := cnt_size 40
  have hc := Lib.hid (fun W : World => carry_c 40 W (by decide) (by decide))
  rw [show ((40 : Nat) : Int) = 40 from rfl] at hc
  rcases (by omega : wrap64 (Int.tmod (IntKind.u64.wrap x0) 3) = 0 ∨ wrap64 (Int.tmod (IntKind.u64.wrap x0) 3) = 1 ∨ wrap64 (Int.tmod (IntKind.u64.wrap x0) 3) = 2) with h | h | h
  · cases ag <;> cases last
    · exact rpoll_0ff x0 x1 _ w h hG hc
    · exact rpoll_0ft x0 x1 _ w h hG hc
    · exact rpoll_early_false x0 x1 _ w h hc
    · exact rpoll_early_true x0 x1 _ w h hc
  · cases ag <;> cases last
    · exact rpoll_1ff x0 x1 _ w h hG hc
    · exact rpoll_1ft x0 x1 _ w h hG hc
    · exact rpoll_1tf x0 x1 _ w h hG hc
    · exact rpoll_1tt x0 x1 _ w h hG hc
  · cases ag <;> cases last
    · exact rpoll_2ff x0 x1 _ w h hG hc
    · exact rpoll_2ft x0 x1 _ w h hG hc
    · exact rpoll_2tf x0 x1 _ w h hG hc
    · exact rpoll_2tt x0 x1 _ w h hG hc
end Go.Proofs.Ythoonffbadhplaa.Rp
