/- Layer 7: the program's queue: its methods. -/
import Derived.Test.YtimnhdmpfndeaaaCha
import Derived.Test.YtimnhdmpfndeaaaHpf
import Derived.RegionTactic
import Derived.BigRegion
import Derived.ChangeAlike
namespace Go.Proofs.Ytimnhdmpfndeaaa.Ch
open Go.RowKit Go.Proofs.Ytimnhdmpfndeaaa.Kt Go.Proofs.Ytimnhdmpfndeaaa.Lw Go.Proofs.Ytimnhdmpfndeaaa.St Go.Proofs.Ytimnhdmpfndeaaa.Nm Go.Proofs.Ytimnhdmpfndeaaa.By Go.Proofs.Ytimnhdmpfndeaaa.En Go.Proofs.Ytimnhdmpfndeaaa.Jr Go.Proofs.Ytimnhdmpfndeaaa.Im Go.Proofs.Ytimnhdmpfndeaaa.Sl Go.Proofs.Ytimnhdmpfndeaaa.Hp
set_option linter.unusedVariables false
set_option linter.unusedSimpArgs false
attribute [local irreducible] gotB goodB Cr.crcB nQ nS nZ nM placeB
/-- the array of a queue: N places. -/
structure Arr (w : World) (g N : Nat) (F : Nat → PlV) : Prop where
  lt : g < w.heap.size
  c0 : ∀ k, k < N → w.cell? ⟨g, k * 5, none⟩ = some (.int .i64 (F k).at_)
  c1 : ∀ k, k < N → w.cell? ⟨g, k * 5 + 1, none⟩ = some (.int .i64 (F k).q)
  c2 : ∀ k, k < N → w.cell? ⟨g, k * 5 + 2, none⟩ = some (.int .i64 (F k).s)
  c3 : ∀ k, k < N → w.cell? ⟨g, k * 5 + 3, none⟩ = some (.int .i64 (F k).z)
  c4 : ∀ k, k < N → w.cell? ⟨g, k * 5 + 4, none⟩ = some (.int .i64 (F k).m)
  fr : ∀ i, i < N * 5 → w.frozen? ⟨g, i, none⟩ = false
theorem Arr.below {w w' : World} {g N : Nat} {F : Nat → PlV} (h : Arr w g N F) (hb : Below w.heap.size w w') : Arr w' g N F :=
  ⟨Nat.lt_of_lt_of_le h.lt hb.size, fun k hk => (hb.cell (p := ⟨g, _, none⟩) h.lt).trans (h.c0 k hk), fun k hk => (hb.cell (p := ⟨g, _, none⟩) h.lt).trans (h.c1 k hk), fun k hk => (hb.cell (p := ⟨g, _, none⟩) h.lt).trans (h.c2 k hk), fun k hk => (hb.cell (p := ⟨g, _, none⟩) h.lt).trans (h.c3 k hk), fun k hk => (hb.cell (p := ⟨g, _, none⟩) h.lt).trans (h.c4 k hk), fun i hi => (hb.frozen (p := ⟨g, _, none⟩) h.lt).trans (h.fr i hi)⟩
theorem len_c (A : Option Addr) (n c : Nat) (w : World) : Calls Try.prog 86 #[.slice A n c] w fun e w' => e = .returned (.int .i64 n) ∧ w = w' := by
  go_enter Try.func86, Try.ntmps86
  go_wp2
  go_ret
  exact ⟨rfl, rfl⟩
set_option maxRecDepth 100000 in
set_option maxHeartbeats 3200000 in
theorem less_c (g N n c i j : Nat) (F : Nat → PlV) (w : World) (h : Arr w g N F) (hi : i < n) (hj : j < n) (hn : n ≤ N) (hN : N ≤ 1000) : Calls Try.prog 132 #[.slice (some ⟨g, 0, none⟩) n c, .int .i64 i, .int .i64 j] w fun e w' => e = .returned (.bool (lessB (F i) (F j))) ∧ Below w.heap.size w w' := by
  have HB := Below.refl w.heap.size w
  have a0 := h.c0 i (by omega)
  have a1 := h.c1 i (by omega)
  have a2 := h.c2 i (by omega)
  have a3 := h.c3 i (by omega)
  have a4 := h.c4 i (by omega)
  have b0 := h.c0 j (by omega)
  have b1 := h.c1 j (by omega)
  have b2 := h.c2 j (by omega)
  have b3 := h.c3 j (by omega)
  have b4 := h.c4 j (by omega)
  have hlt := h.lt
  clear h
  generalize F i = x at *
  generalize F j = y at *
  have i0 : (0 : Int) ≤ (i : Int) := by omega
  have j0 : (0 : Int) ≤ (j : Int) := by omega
  have i1 : (i : Int) < (n : Int) := by omega
  have j1 : (j : Int) < (n : Int) := by omega
  go_enter Try.func132, Try.ntmps132
  go_wp2_with fail
  have HC : w.cell? ⟨g, i * 5, none⟩ = some (.int .i64 x.at_) ∧ w.cell? ⟨g, i * 5 + 1, none⟩ = some (.int .i64 x.q) ∧ w.cell? ⟨g, i * 5 + 2, none⟩ = some (.int .i64 x.s) ∧ w.cell? ⟨g, i * 5 + 3, none⟩ = some (.int .i64 x.z) ∧ w.cell? ⟨g, i * 5 + 4, none⟩ = some (.int .i64 x.m) ∧ w.cell? ⟨g, j * 5, none⟩ = some (.int .i64 y.at_) ∧ w.cell? ⟨g, j * 5 + 1, none⟩ = some (.int .i64 y.q) ∧ w.cell? ⟨g, j * 5 + 2, none⟩ = some (.int .i64 y.s) ∧ w.cell? ⟨g, j * 5 + 3, none⟩ = some (.int .i64 y.z) ∧ w.cell? ⟨g, j * 5 + 4, none⟩ = some (.int .i64 y.m) := ⟨a0, a1, a2, a3, a4, b0, b1, b2, b3, b4⟩
  go_cut [7, 8] (fun v7 v8 wc => ∃ g1 g2 : Nat, v7 = .pointer (some ⟨g1, 0, none⟩) ∧ v8 = .pointer (some ⟨g2, 0, none⟩) ∧ g1 ≠ g2 ∧ w.heap.size ≤ g1 ∧ w.heap.size ≤ g2 ∧ Aside (Blk wc g1 #[.int .i64 x.at_, .int .i64 x.q, .int .i64 x.s, .int .i64 x.z, .int .i64 x.m] 40) ∧ Aside (Blk wc g2 #[.int .i64 y.at_, .int .i64 y.q, .int .i64 y.s, .int .i64 y.z, .int .i64 y.m] 40) ∧ Aside (Below w.heap.size w wc))
  case first =>
    go_region_held3 (fun W => W.cell? ⟨g, i * 5, none⟩ = some (.int .i64 x.at_) ∧ W.cell? ⟨g, i * 5 + 1, none⟩ = some (.int .i64 x.q) ∧ W.cell? ⟨g, i * 5 + 2, none⟩ = some (.int .i64 x.s) ∧ W.cell? ⟨g, i * 5 + 3, none⟩ = some (.int .i64 x.z) ∧ W.cell? ⟨g, i * 5 + 4, none⟩ = some (.int .i64 x.m) ∧ W.cell? ⟨g, j * 5, none⟩ = some (.int .i64 y.at_) ∧ W.cell? ⟨g, j * 5 + 1, none⟩ = some (.int .i64 y.q) ∧ W.cell? ⟨g, j * 5 + 2, none⟩ = some (.int .i64 y.s) ∧ W.cell? ⟨g, j * 5 + 3, none⟩ = some (.int .i64 y.z) ∧ W.cell? ⟨g, j * 5 + 4, none⟩ = some (.int .i64 y.m) ∧ Below w.heap.size w W) (first | (refine k10 HC ?_; (repeat (with_reducible first | exact Below.refl _ _ | (apply kz10; assumption) | apply bl_alloc | apply bl_drew | apply bl_drewN | (refine bl_setn ?_ (by apply kz10; assumption)) | (refine bl_step ?_ (by assumption)) | fail)); done) | fail) (fail)
    all_goals (go_wp2_with fail; go_meet)
    · exact ⟨_, _, rfl, rfl, by omega, by omega, by omega, ((Blk.new _ _ _).alloc _).drew, (Blk.new1 _ _ _ _).drew, bl_drew (bl_alloc (bl_alloc (Below.refl _ _) _) _)⟩
    · exact ⟨_, _, rfl, rfl, by omega, by omega, by omega, (Blk.new1 _ _ _ _).drew, ((Blk.new _ _ _).alloc _).drew, bl_drew (bl_alloc (bl_alloc (Below.refl _ _) _) _)⟩
  case rest =>
    obtain ⟨g1, g2, rfl, rfl, hne, hg1, hg2, BK1, BK2, BB⟩ := hcut
    clear HC a0 a1 a2 a3 a4 b0 b1 b2 b3 b4 HB
    have HB := BB.out
    have K1 : Blk wc g1 #[.int .i64 x.at_, .int .i64 x.q, .int .i64 x.s, .int .i64 x.z, .int .i64 x.m] 40 := BK1.out
    have K2 : Blk wc g2 #[.int .i64 y.at_, .int .i64 y.q, .int .i64 y.s, .int .i64 y.z, .int .i64 y.m] 40 := BK2.out
    clear BK1 BK2 BB
    obtain ⟨cK1_0, cK1_1, cK1_2, cK1_3, cK1_4, fK1, lK1, nK1, mK1⟩ := Blk.all5 K1
    obtain ⟨cK2_0, cK2_1, cK2_2, cK2_3, cK2_4, fK2, lK2, nK2, mK2⟩ := Blk.all5 K2
    by_cases hq : x.q = y.q
    · have q1 : (x.q != y.q) = false := by simp [hq]
      have hv := Lib.hid (show lessB x y = decide (y.at_ < x.at_) by simp [lessB, q1])
      clear hq
      go_wp2_with fail
      go_ret
      exact ⟨retB hv.out.symm, HB⟩
    · have q1 : (x.q != y.q) = true := by simpa using hq
      have hv := Lib.hid (show lessB x y = decide (y.q < x.q) by simp [lessB, q1])
      clear hq
      go_wp2_with fail
      go_ret
      exact ⟨retB hv.out.symm, HB⟩
theorem cell_swp {w : World} {p q : Addr} {v : Value} (h : w.cell? q = some v) : (w.setCell p v).cell? q = some v := by
  by_cases e : q = p
  · subst e
    exact World.cell?_setCell_same _ _ _ h
  · rw [World.cell?_setCell_other (h := fun e' => e e'.symm)]
    exact h
theorem cell_off {w : World} {g a b : Nat} {u v : Value} (hab : b ≠ a) (h : w.cell? ⟨g, b, none⟩ = some v) : (w.setCell ⟨g, a, none⟩ u).cell? ⟨g, b, none⟩ = some v := by
  rw [World.cell?_setCell_other (h := by intro e'; injection e' with _ e' _; omega)]
  exact h
theorem ex_set {w : World} {p q : Addr} {u : Value} (h : ∃ v, w.cell? q = some v) : ∃ v, (w.setCell p u).cell? q = some v := by
  obtain ⟨v, h⟩ := h
  by_cases e : q = p
  · subst e
    exact ⟨_, World.cell?_setCell_same _ _ _ h⟩
  · exact ⟨v, by rw [World.cell?_setCell_other (h := fun e' => e e'.symm)]; exact h⟩
theorem at_set {w : World} {g a : Nat} {u : Value} (h : ∃ v, w.cell? ⟨g, a, none⟩ = some v) : (w.setCell ⟨g, a, none⟩ u).cell? ⟨g, a, none⟩ = some u := by
  obtain ⟨v, h⟩ := h
  exact World.cell?_setCell_same _ _ _ h
theorem sw_i {F : Nat → PlV} {i j : Nat} : swF F i j i = F j := by simp [swF]
theorem sw_j {F : Nat → PlV} {i j : Nat} : swF F i j j = F i := by
  unfold swF
  by_cases e : j = i
  · simp [e]
  · simp [e]
theorem sw_o {F : Nat → PlV} {i j k : Nat} (h1 : k ≠ i) (h2 : k ≠ j) : swF F i j k = F k := by simp [swF, h1, h2]
theorem arr_swap {w : World} {g N i j : Nat} {F : Nat → PlV} (h : Arr w g N F) (hi : i < N) (hj : j < N) : Arr ((((((((((w.setCell ⟨g, i * 5, none⟩ (.int .i64 (F j).at_)).setCell ⟨g, i * 5 + 1, none⟩ (.int .i64 (F j).q)).setCell ⟨g, i * 5 + 2, none⟩ (.int .i64 (F j).s)).setCell ⟨g, i * 5 + 3, none⟩ (.int .i64 (F j).z)).setCell ⟨g, i * 5 + 4, none⟩ (.int .i64 (F j).m)).setCell ⟨g, j * 5, none⟩ (.int .i64 (F i).at_)).setCell ⟨g, j * 5 + 1, none⟩ (.int .i64 (F i).q)).setCell ⟨g, j * 5 + 2, none⟩ (.int .i64 (F i).s)).setCell ⟨g, j * 5 + 3, none⟩ (.int .i64 (F i).z)).setCell ⟨g, j * 5 + 4, none⟩ (.int .i64 (F i).m)) g N (swF F i j) := by
  refine ⟨by simpa using h.lt, ?_, ?_, ?_, ?_, ?_, fun n hn => by simp only [World.frozen?_setCell]; exact h.fr n hn⟩
  · intro k hk
    by_cases ej : k = j
    · subst ej
      rw [sw_j]
      exact (cell_off (by omega) (cell_off (by omega) (cell_off (by omega) (cell_off (by omega) (at_set (ex_set (ex_set (ex_set (ex_set (ex_set ⟨_, h.c0 k hk⟩))))))))))
    · by_cases ei : k = i
      · subst ei
        rw [sw_i]
        exact (cell_off (by omega) (cell_off (by omega) (cell_off (by omega) (cell_off (by omega) (cell_off (by omega) (cell_off (by omega) (cell_off (by omega) (cell_off (by omega) (cell_off (by omega) (at_set ⟨_, h.c0 k hk⟩))))))))))
      · rw [sw_o ei ej]
        exact (cell_off (by omega) (cell_off (by omega) (cell_off (by omega) (cell_off (by omega) (cell_off (by omega) (cell_off (by omega) (cell_off (by omega) (cell_off (by omega) (cell_off (by omega) (cell_off (by omega) (h.c0 k hk)))))))))))
  · intro k hk
    by_cases ej : k = j
    · subst ej
      rw [sw_j]
      exact (cell_off (by omega) (cell_off (by omega) (cell_off (by omega) (at_set (ex_set (ex_set (ex_set (ex_set (ex_set (ex_set ⟨_, h.c1 k hk⟩))))))))))
    · by_cases ei : k = i
      · subst ei
        rw [sw_i]
        exact (cell_off (by omega) (cell_off (by omega) (cell_off (by omega) (cell_off (by omega) (cell_off (by omega) (cell_off (by omega) (cell_off (by omega) (cell_off (by omega) (at_set (ex_set ⟨_, h.c1 k hk⟩))))))))))
      · rw [sw_o ei ej]
        exact (cell_off (by omega) (cell_off (by omega) (cell_off (by omega) (cell_off (by omega) (cell_off (by omega) (cell_off (by omega) (cell_off (by omega) (cell_off (by omega) (cell_off (by omega) (cell_off (by omega) (h.c1 k hk)))))))))))
  · intro k hk
    by_cases ej : k = j
    · subst ej
      rw [sw_j]
      exact (cell_off (by omega) (cell_off (by omega) (at_set (ex_set (ex_set (ex_set (ex_set (ex_set (ex_set (ex_set ⟨_, h.c2 k hk⟩))))))))))
    · by_cases ei : k = i
      · subst ei
        rw [sw_i]
        exact (cell_off (by omega) (cell_off (by omega) (cell_off (by omega) (cell_off (by omega) (cell_off (by omega) (cell_off (by omega) (cell_off (by omega) (at_set (ex_set (ex_set ⟨_, h.c2 k hk⟩))))))))))
      · rw [sw_o ei ej]
        exact (cell_off (by omega) (cell_off (by omega) (cell_off (by omega) (cell_off (by omega) (cell_off (by omega) (cell_off (by omega) (cell_off (by omega) (cell_off (by omega) (cell_off (by omega) (cell_off (by omega) (h.c2 k hk)))))))))))
  · intro k hk
    by_cases ej : k = j
    · subst ej
      rw [sw_j]
      exact (cell_off (by omega) (at_set (ex_set (ex_set (ex_set (ex_set (ex_set (ex_set (ex_set (ex_set ⟨_, h.c3 k hk⟩))))))))))
    · by_cases ei : k = i
      · subst ei
        rw [sw_i]
        exact (cell_off (by omega) (cell_off (by omega) (cell_off (by omega) (cell_off (by omega) (cell_off (by omega) (cell_off (by omega) (at_set (ex_set (ex_set (ex_set ⟨_, h.c3 k hk⟩))))))))))
      · rw [sw_o ei ej]
        exact (cell_off (by omega) (cell_off (by omega) (cell_off (by omega) (cell_off (by omega) (cell_off (by omega) (cell_off (by omega) (cell_off (by omega) (cell_off (by omega) (cell_off (by omega) (cell_off (by omega) (h.c3 k hk)))))))))))
  · intro k hk
    by_cases ej : k = j
    · subst ej
      rw [sw_j]
      exact (at_set (ex_set (ex_set (ex_set (ex_set (ex_set (ex_set (ex_set (ex_set (ex_set ⟨_, h.c4 k hk⟩))))))))))
    · by_cases ei : k = i
      · subst ei
        rw [sw_i]
        exact (cell_off (by omega) (cell_off (by omega) (cell_off (by omega) (cell_off (by omega) (cell_off (by omega) (at_set (ex_set (ex_set (ex_set (ex_set ⟨_, h.c4 k hk⟩))))))))))
      · rw [sw_o ei ej]
        exact (cell_off (by omega) (cell_off (by omega) (cell_off (by omega) (cell_off (by omega) (cell_off (by omega) (cell_off (by omega) (cell_off (by omega) (cell_off (by omega) (cell_off (by omega) (cell_off (by omega) (h.c4 k hk)))))))))))
set_option maxRecDepth 100000 in
set_option maxHeartbeats 3200000 in
theorem swap_c (g N n c i j : Nat) (F : Nat → PlV) (w : World) (h : Arr w g N F) (hi : i < n) (hj : j < n) (hn : n ≤ N) (hN : N ≤ 1000) : Calls Try.prog 133 #[.slice (some ⟨g, 0, none⟩) n c, .int .i64 i, .int .i64 j] w fun e w' => e = .returned (.tuple #[]) ∧ Arr w' g N (swF F i j) ∧ w.grownBy w' (some g) := by
  have HB := Below.refl w.heap.size w
  have a0 := h.c0 i (by omega)
  have a1 := h.c1 i (by omega)
  have a2 := h.c2 i (by omega)
  have a3 := h.c3 i (by omega)
  have a4 := h.c4 i (by omega)
  have b0 := h.c0 j (by omega)
  have b1 := h.c1 j (by omega)
  have b2 := h.c2 j (by omega)
  have b3 := h.c3 j (by omega)
  have b4 := h.c4 j (by omega)
  have fi0 := h.fr (i * 5) (by omega)
  have fi1 := h.fr (i * 5 + 1) (by omega)
  have fi2 := h.fr (i * 5 + 2) (by omega)
  have fi3 := h.fr (i * 5 + 3) (by omega)
  have fi4 := h.fr (i * 5 + 4) (by omega)
  have fj0 := h.fr (j * 5) (by omega)
  have fj1 := h.fr (j * 5 + 1) (by omega)
  have fj2 := h.fr (j * 5 + 2) (by omega)
  have fj3 := h.fr (j * 5 + 3) (by omega)
  have fj4 := h.fr (j * 5 + 4) (by omega)
  have hlt := h.lt
  have H := Lib.hid h
  clear h
  generalize hx : F i = x at *
  generalize hy : F j = y at *
  have e0 : (w.setCell ⟨g, i * 5, none⟩ (.int .i64 y.at_)).cell? ⟨g, j * 5, none⟩ = some (.int .i64 y.at_) := cell_swp b0
  have e1 : ((w.setCell ⟨g, i * 5, none⟩ (.int .i64 y.at_)).setCell ⟨g, i * 5 + 1, none⟩ (.int .i64 y.q)).cell? ⟨g, j * 5 + 1, none⟩ = some (.int .i64 y.q) := cell_swp (cell_off (by omega) b1)
  have e2 : (((w.setCell ⟨g, i * 5, none⟩ (.int .i64 y.at_)).setCell ⟨g, i * 5 + 1, none⟩ (.int .i64 y.q)).setCell ⟨g, i * 5 + 2, none⟩ (.int .i64 y.s)).cell? ⟨g, j * 5 + 2, none⟩ = some (.int .i64 y.s) := cell_swp (cell_off (by omega) (cell_off (by omega) b2))
  have e3 : ((((w.setCell ⟨g, i * 5, none⟩ (.int .i64 y.at_)).setCell ⟨g, i * 5 + 1, none⟩ (.int .i64 y.q)).setCell ⟨g, i * 5 + 2, none⟩ (.int .i64 y.s)).setCell ⟨g, i * 5 + 3, none⟩ (.int .i64 y.z)).cell? ⟨g, j * 5 + 3, none⟩ = some (.int .i64 y.z) := cell_swp (cell_off (by omega) (cell_off (by omega) (cell_off (by omega) b3)))
  have e4 : (((((w.setCell ⟨g, i * 5, none⟩ (.int .i64 y.at_)).setCell ⟨g, i * 5 + 1, none⟩ (.int .i64 y.q)).setCell ⟨g, i * 5 + 2, none⟩ (.int .i64 y.s)).setCell ⟨g, i * 5 + 3, none⟩ (.int .i64 y.z)).setCell ⟨g, i * 5 + 4, none⟩ (.int .i64 y.m)).cell? ⟨g, j * 5 + 4, none⟩ = some (.int .i64 y.m) := cell_swp (cell_off (by omega) (cell_off (by omega) (cell_off (by omega) (cell_off (by omega) b4))))
  have i0 : (0 : Int) ≤ (i : Int) := by omega
  have j0 : (0 : Int) ≤ (j : Int) := by omega
  have i1 : (i : Int) < (n : Int) := by omega
  have j1 : (j : Int) < (n : Int) := by omega
  go_enter Try.func133, Try.ntmps133
  go_wp2_with fail
  go_region
  all_goals
    go_end0
    refine ⟨rfl, ?_, ?_⟩
    · have hA := arr_swap H.out (show i < N by omega) (show j < N by omega)
      rw [hx, hy] at hA
      exact hA.below (bl_drew (Below.refl _ _))
    · repeat (with_reducible first | exact gb_refl _ _ | apply gb_drew | apply gb_set)
end Go.Proofs.Ytimnhdmpfndeaaa.Ch
