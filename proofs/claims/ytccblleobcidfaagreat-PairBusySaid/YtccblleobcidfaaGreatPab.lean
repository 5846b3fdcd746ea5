/- Layer 24: what the program's methods on both ends do: all but a step. -/
import Derived.Test.YtccblleobcidfaaGreatGi
import Derived.Test.YtccblleobcidfaaGreatGv
namespace Go.Proofs.YtccblleobcidfaaGreat.Wo
open Go.RowKit Go.Proofs.YtccblleobcidfaaGreat.Kt Go.Proofs.YtccblleobcidfaaGreat.Lw Go.Proofs.YtccblleobcidfaaGreat.St Go.Proofs.YtccblleobcidfaaGreat.Nm Go.Proofs.YtccblleobcidfaaGreat.Es Go.Proofs.YtccblleobcidfaaGreat.Sl Go.Proofs.YtccblleobcidfaaGreat.Ops Go.Proofs.YtccblleobcidfaaGreat.Fl Go.Proofs.YtccblleobcidfaaGreat.Dv Go.Proofs.YtccblleobcidfaaGreat.Ho Go.Proofs.YtccblleobcidfaaGreat.Rp
set_option linter.unusedVariables false
set_option linter.unusedSimpArgs false
attribute [local irreducible] devMay hostMay
/-- both ends in a block, behind a method. -/
def Doer (w : World) (base g : Nat) (y : WS) (e : Ending) (w' : World) : Prop :=
  e = .returned (.tuple #[]) ∧ (∃ A n c, Blk w' g (y.cs A n c) 130 ∧ y.d.ops.length = n ∧ Own w' base A y.d.ops) ∧ w.grownBy w' (some g)
theorem offo_c (g j : Nat) (ph : Int) (w : World) (hc : w.cell? ⟨g, j, none⟩ = some (.int .i64 ph)) : Calls Tryz.prog 155 #[.pointer (some ⟨g, j, none⟩)] w fun e w' => e = .returned (.bool (offB ph)) ∧ w = w' := by
  go_enter Tryz.func155, Tryz.ntmps155
  go_wp2
  all_goals (go_ret; exact ⟨by simp_all [offB], rfl⟩)
set_option maxRecDepth 100000 in
set_option maxHeartbeats 12800000 in
theorem drop_c (g base : Nat) (x : WS) (a : AS) (A : Option Addr) (n c : Nat) (w : World) (K0 : Blk w g (x.cs A n c) 130) (hn : x.d.ops.length = n) (HO : OwnT w base g A x.d.ops) (hbg : base ≤ g) : Calls Tryz.prog 91 #[.pointer (some ⟨g, 0, none⟩), .agg a.cs] w (Doer w base g ⟨x.f, x.v, x.p, x.r, x.d, HS.zero⟩) := by
  have GB := gb_refl w g
  have eK0 := Blk.ev K0
  have hgw := K0.lt
  have HNL := Lib.hid hn
  have K1 := Blk.new w a.cs 41
  have gne : g ≠ w.heap.size := by omega
  have gne2 : w.heap.size ≠ g := by omega
  go_enter Tryz.func91, Tryz.ntmps91
  go_wp2
  go_end0
  exact ⟨rfl, ⟨A, n, c, (show Blk _ g #[.string x.f, .int .i64 x.v, .int .i64 x.p, .int .i64 x.r, .int .i64 x.d.st, .int .i64 x.d.su, .int .i64 x.d.nx, .int .i64 x.d.go, .int .i64 x.d.sl, .slice A n c, .int .i64 0, .string ⟨#[]⟩, .int .i64 0, .bool false, .int .i64 0, .string ⟨#[]⟩, .int .i64 0] _ from (by repeat (with_reducible first | exact K0 | exact K0 _ | exact K0 _ _ | apply Blk.alloc | apply Blk.drew | apply Blk.set17_0 | apply Blk.set17_1 | apply Blk.set17_2 | apply Blk.set17_3 | apply Blk.set17_4 | apply Blk.set17_5 | apply Blk.set17_6 | apply Blk.set17_7 | apply Blk.set17_8 | apply Blk.set17_9 | apply Blk.set17_10 | apply Blk.set17_11 | apply Blk.set17_12 | apply Blk.set17_13 | apply Blk.set17_14 | apply Blk.set17_15 | apply Blk.set17_16 | (apply Blk.off; (first | assumption | omega | (simp; omega))) | fail))), HNL.out, (OwnT.own (top := g) (by repeat (with_reducible first | exact HO | (refine OwnT.set ?_ (by dsimp only; omega) _) | (refine OwnT.alloc ?_ _) | (refine OwnT.drewn ?_) | fail)))⟩, zq20⟩
set_option maxRecDepth 100000 in
set_option maxHeartbeats 12800000 in
theorem reset_c (g base : Nat) (x : WS) (a : AS) (A : Option Addr) (n c : Nat) (w : World) (K0 : Blk w g (x.cs A n c) 130) (hn : x.d.ops.length = n) (HO : OwnT w base g A x.d.ops) (hbg : base ≤ g) : Calls Tryz.prog 90 #[.pointer (some ⟨g, 0, none⟩), .agg a.cs] w (Doer w base g ⟨x.f, x.v, x.p, x.r, DS.zero, x.h⟩) := by
  have GB := gb_refl w g
  have eK0 := Blk.ev K0
  have hgw := K0.lt
  have HNL := Lib.hid hn
  have K1 := Blk.new w a.cs 41
  have gne : g ≠ w.heap.size := by omega
  have gne2 : w.heap.size ≠ g := by omega
  go_enter Tryz.func90, Tryz.ntmps90
  go_wp2_with (first | (go_at_call 78; (with_reducible refine (new_c _).mono ?_); rintro e w2 ⟨rfl, hb⟩; have GB := gb_bel (w := w) zq20 hb; have K0 := Blk.on K0 (by repeat (with_reducible first | exact K0 | exact K0 _ | exact K0 _ _ | apply Blk.alloc | apply Blk.drew | apply Blk.set17_0 | apply Blk.set17_1 | apply Blk.set17_2 | apply Blk.set17_3 | apply Blk.set17_4 | apply Blk.set17_5 | apply Blk.set17_6 | apply Blk.set17_7 | apply Blk.set17_8 | apply Blk.set17_9 | apply Blk.set17_10 | apply Blk.set17_11 | apply Blk.set17_12 | apply Blk.set17_13 | apply Blk.set17_14 | apply Blk.set17_15 | apply Blk.set17_16 | (apply Blk.off; (first | assumption | omega | (simp; omega))) | fail)) hb; (try clear eK0); have eK0 := Blk.ev K0; have K1 := Blk.on (by first | exact K1) (by repeat (with_reducible first | exact K1 | exact K1 _ | exact K1 _ _ | apply Blk.alloc | apply Blk.drew | apply Blk.set4_0 | apply Blk.set4_1 | apply Blk.set4_2 | apply Blk.set4_3 | (apply Blk.off; (first | assumption | omega | (simp; omega))) | fail)) hb; (try clear eK1); have eK1 := Blk.ev K1; ) | fail)
  go_end0
  exact ⟨rfl, ⟨none, 0, 0, (show Blk _ g #[.string x.f, .int .i64 x.v, .int .i64 x.p, .int .i64 x.r, .int .i64 0, .int .i64 0, .int .i64 0, .int .i64 0, .int .i64 0, .slice none 0 0, .int .i64 x.h.ph, .string x.h.im, .int .i64 x.h.bl, .bool x.h.ag, .int .i64 x.h.tr, .string x.h.rd, .int .i64 x.h.rp] _ from (by repeat (with_reducible first | exact K0 | exact K0 _ | exact K0 _ _ | apply Blk.alloc | apply Blk.drew | apply Blk.set17_0 | apply Blk.set17_1 | apply Blk.set17_2 | apply Blk.set17_3 | apply Blk.set17_4 | apply Blk.set17_5 | apply Blk.set17_6 | apply Blk.set17_7 | apply Blk.set17_8 | apply Blk.set17_9 | apply Blk.set17_10 | apply Blk.set17_11 | apply Blk.set17_12 | apply Blk.set17_13 | apply Blk.set17_14 | apply Blk.set17_15 | apply Blk.set17_16 | (apply Blk.off; (first | assumption | omega | (simp; omega))) | fail))), rfl, Own.nil⟩, zq20⟩
set_option maxRecDepth 100000 in
set_option maxHeartbeats 12800000 in
theorem start_n (g base : Nat) (x : WS) (a : AS) (A : Option Addr) (n c : Nat) (w : World) (K0 : Blk w g (x.cs A n c) 130) (hn : x.d.ops.length = n) (HO : OwnT w base g A x.d.ops) (hbg : base ≤ g) (ho : offB x.h.ph = false) : Calls Tryz.prog 86 #[.pointer (some ⟨g, 0, none⟩), .agg a.cs] w (Doer w base g x) := by
  have GB := gb_refl w g
  have eK0 := Blk.ev K0
  have hgw := K0.lt
  have HNL := Lib.hid hn
  have K1 := Blk.new w a.cs 41
  have gne : g ≠ w.heap.size := by omega
  have gne2 : w.heap.size ≠ g := by omega
  have offo := Lib.hid (fun W hc => offo_c g 10 x.h.ph W hc)
  rw [ho] at offo
  have hph : ∀ o, (w.alloc o).cell? ⟨g, 10, none⟩ = some (.int .i64 x.h.ph) := fun o => Blk.cell (K0.alloc o) 10
  clear ho
  go_enter Tryz.func86, Tryz.ntmps86
  go_wp2_with (first | (go_at_call 155; with_reducible refine (offo.out _ (hph _)).mono ?_; rintro e w' ⟨rfl, rfl⟩) | fail)
  go_end0
  exact ⟨rfl, ⟨A, n, c, (show Blk _ g #[.string x.f, .int .i64 x.v, .int .i64 x.p, .int .i64 x.r, .int .i64 x.d.st, .int .i64 x.d.su, .int .i64 x.d.nx, .int .i64 x.d.go, .int .i64 x.d.sl, .slice A n c, .int .i64 x.h.ph, .string x.h.im, .int .i64 x.h.bl, .bool x.h.ag, .int .i64 x.h.tr, .string x.h.rd, .int .i64 x.h.rp] _ from (by repeat (with_reducible first | exact K0 | exact K0 _ | exact K0 _ _ | apply Blk.alloc | apply Blk.drew | apply Blk.set17_0 | apply Blk.set17_1 | apply Blk.set17_2 | apply Blk.set17_3 | apply Blk.set17_4 | apply Blk.set17_5 | apply Blk.set17_6 | apply Blk.set17_7 | apply Blk.set17_8 | apply Blk.set17_9 | apply Blk.set17_10 | apply Blk.set17_11 | apply Blk.set17_12 | apply Blk.set17_13 | apply Blk.set17_14 | apply Blk.set17_15 | apply Blk.set17_16 | (apply Blk.off; (first | assumption | omega | (simp; omega))) | fail))), HNL.out, (OwnT.own (top := g) (by repeat (with_reducible first | exact HO | (refine OwnT.set ?_ (by dsimp only; omega) _) | (refine OwnT.alloc ?_ _) | (refine OwnT.drewn ?_) | fail)))⟩, zq20⟩
set_option maxRecDepth 100000 in
set_option maxHeartbeats 12800000 in
theorem start_y (g base : Nat) (x : WS) (a : AS) (A : Option Addr) (n c : Nat) (w : World) (K0 : Blk w g (x.cs A n c) 130) (hn : x.d.ops.length = n) (HO : OwnT w base g A x.d.ops) (hbg : base ≤ g) (ho : offB x.h.ph = true) (hids : Ic.mayB x.v x.p x.r = true) (hfi : a.fi.size ≤ 9223372036854775807) : Calls Tryz.prog 86 #[.pointer (some ⟨g, 0, none⟩), .agg a.cs] w (Doer w base g ⟨x.f, x.v, x.p, x.r, x.d, startH a.fi x.v x.p x.r⟩) := by
  have GB := gb_refl w g
  have eK0 := Blk.ev K0
  have hgw := K0.lt
  have HNL := Lib.hid hn
  have K1 := Blk.new w a.cs 41
  have gne : g ≠ w.heap.size := by omega
  have gne2 : w.heap.size ≠ g := by omega
  have offo := Lib.hid (fun W hc => offo_c g 10 x.h.ph W hc)
  rw [ho] at offo
  have hph : ∀ o, (w.alloc o).cell? ⟨g, 10, none⟩ = some (.int .i64 x.h.ph) := fun o => Blk.cell (K0.alloc o) 10
  have sc := Lib.hid (fun W : World => start_c a.fi x.v x.p x.r W hfi)
  have hv : startV a.fi x.v x.p x.r = .tuple #[(startH a.fi x.v x.p x.r).v, .int .i64 0] := by
    unfold startV startH
    rw [hids]
    cases hstOk a.fi x.v x.p x.r <;> rfl
  rw [hv] at sc
  clear ho hids hfi hv
  generalize startH a.fi x.v x.p x.r = H at *
  obtain ⟨P0, I0, B0, G0, T0, R0, Q0⟩ := H
  go_enter Tryz.func86, Tryz.ntmps86
  go_upto_region 2 with (first | (go_at_call 155; with_reducible refine (offo.out _ (hph _)).mono ?_; rintro e w' ⟨rfl, rfl⟩) | fail)
  refine letter (M := fun X => Code.wp _ _ _ _ X) (F := fun X => Blk X g (x.cs A n c) 130 ∧ Blk X w.heap.size a.cs 41 ∧ OwnT X base g A x.d.ops ∧ w.grownBy X (some g) ∧ g < X.heap.size ∧ w.heap.size ≤ X.heap.size) ⟨K0.alloc _, K1, (by repeat (with_reducible first | exact HO | (refine OwnT.set ?_ (by dsimp only; omega) _) | (refine OwnT.alloc ?_ _) | (refine OwnT.drewn ?_) | fail)), zq20, by simp; omega, by simp⟩ ?_
  clear K0 K1 HO GB eK0
  rintro wz ⟨K0, K1, HO, GB, hgz, hwz⟩
  have eK0 := Blk.ev K0
  have eK1 := Blk.ev K1
  go_region_law (first | (go_simp; (go_at_call 66; (with_reducible refine (sc.out _).mono ?_); rintro e w2 ⟨rfl, hb⟩; have HO := OwnT.below (base := base) (top := g) (A := A) (xs := x.d.ops) (by repeat (with_reducible first | exact HO | (refine OwnT.set ?_ (by dsimp only; omega) _) | (refine OwnT.alloc ?_ _) | (refine OwnT.drewn ?_) | fail)) hb; have GB := gb_bel (w := w) zq20 hb; have K0 := Blk.on K0 (by repeat (with_reducible first | exact K0 | exact K0 _ | exact K0 _ _ | apply Blk.alloc | apply Blk.drew | apply Blk.set17_0 | apply Blk.set17_1 | apply Blk.set17_2 | apply Blk.set17_3 | apply Blk.set17_4 | apply Blk.set17_5 | apply Blk.set17_6 | apply Blk.set17_7 | apply Blk.set17_8 | apply Blk.set17_9 | apply Blk.set17_10 | apply Blk.set17_11 | apply Blk.set17_12 | apply Blk.set17_13 | apply Blk.set17_14 | apply Blk.set17_15 | apply Blk.set17_16 | (apply Blk.off; (first | assumption | omega | (simp; omega))) | fail)) hb; (try clear eK0); have eK0 := Blk.ev K0; have K1 := Blk.on (by first | exact K1) (by repeat (with_reducible first | exact K1 | exact K1 _ | exact K1 _ _ | apply Blk.alloc | apply Blk.drew | apply Blk.set4_0 | apply Blk.set4_1 | apply Blk.set4_2 | apply Blk.set4_3 | (apply Blk.off; (first | assumption | omega | (simp; omega))) | fail)) hb; (try clear eK1); have eK1 := Blk.ev K1; )) | fail)
  all_goals (
    go_wp2_with fail
    go_end0
    exact ⟨rfl, ⟨A, n, c, (show Blk _ g #[.string x.f, .int .i64 x.v, .int .i64 x.p, .int .i64 x.r, .int .i64 x.d.st, .int .i64 x.d.su, .int .i64 x.d.nx, .int .i64 x.d.go, .int .i64 x.d.sl, .slice A n c, .int .i64 P0, .string I0, .int .i64 B0, .bool G0, .int .i64 T0, .string R0, .int .i64 Q0] _ from (by repeat (with_reducible first | exact K0 | exact K0 _ | exact K0 _ _ | apply Blk.alloc | apply Blk.drew | apply Blk.set17_0 | apply Blk.set17_1 | apply Blk.set17_2 | apply Blk.set17_3 | apply Blk.set17_4 | apply Blk.set17_5 | apply Blk.set17_6 | apply Blk.set17_7 | apply Blk.set17_8 | apply Blk.set17_9 | apply Blk.set17_10 | apply Blk.set17_11 | apply Blk.set17_12 | apply Blk.set17_13 | apply Blk.set17_14 | apply Blk.set17_15 | apply Blk.set17_16 | (apply Blk.off; (first | assumption | omega | (simp; omega))) | fail))), HNL.out, (OwnT.own (top := g) (by repeat (with_reducible first | exact HO | (refine OwnT.set ?_ (by dsimp only; omega) _) | (refine OwnT.alloc ?_ _) | (refine OwnT.drewn ?_) | fail)))⟩, zq20⟩)
set_option maxRecDepth 100000 in
set_option maxHeartbeats 12800000 in
theorem tick_c (g base : Nat) (x : WS) (a : AS) (A : Option Addr) (n c : Nat) (w : World) (K0 : Blk w g (x.cs A n c) 130) (hn : x.d.ops.length = n) (HO : OwnT w base g A x.d.ops) (hbg : base ≤ g) (hb : bothB x.f x.d = true) : Calls Tryz.prog 88 #[.pointer (some ⟨g, 0, none⟩), .agg a.cs] w (Doer w base g ⟨tickF x.f x.d, x.v, x.p, x.r, tickD x.d, x.h⟩) := by
  have GB := gb_refl w g
  have eK0 := Blk.ev K0
  have hgw := K0.lt
  have HNL := Lib.hid hn
  have K1 := Blk.new w a.cs 41
  have gne : g ≠ w.heap.size := by omega
  have gne2 : w.heap.size ≠ g := by omega
  have sc := Lib.hid (fun (W : World) (r : Row W A x.d.ops) => tstep_c x.f x.d A c n W r hn hb)
  generalize tickF x.f x.d = F at *
  generalize tickD x.d = D at *
  obtain ⟨D0, D1, D2, D3, D4, xs⟩ := D
  clear hb
  go_enter Tryz.func88, Tryz.ntmps88
  go_upto_region 1 with fail
  refine letter (M := fun X => Code.wp _ _ _ _ X) (F := fun X => Blk X g (x.cs A n c) 130 ∧ Blk X w.heap.size a.cs 41 ∧ OwnT X base g A x.d.ops ∧ w.grownBy X (some g) ∧ g < X.heap.size ∧ w.heap.size ≤ X.heap.size) ⟨K0.alloc _, K1, (by repeat (with_reducible first | exact HO | (refine OwnT.set ?_ (by dsimp only; omega) _) | (refine OwnT.alloc ?_ _) | (refine OwnT.drewn ?_) | fail)), zq20, by simp; omega, by simp⟩ ?_
  clear K0 K1 HO GB eK0
  rintro wz ⟨K0, K1, HO, GB, hgz, hwz⟩
  have eK0 := Blk.ev K0
  have eK1 := Blk.ev K1
  have hrd : Row wz.drew A x.d.ops := (OwnT.drewn HO).1.1
  go_region_law (first | (go_simp; (go_at_call 73; (with_reducible refine (sc.out _ hrd).mono ?_); rintro e w2 ⟨⟨A2, n2, c2, rfl, h2, HN⟩, hb⟩; have GB := gb_bel (w := w) zq20 hb; have K0 := Blk.on K0 (by repeat (with_reducible first | exact K0 | exact K0 _ | exact K0 _ _ | apply Blk.alloc | apply Blk.drew | apply Blk.set17_0 | apply Blk.set17_1 | apply Blk.set17_2 | apply Blk.set17_3 | apply Blk.set17_4 | apply Blk.set17_5 | apply Blk.set17_6 | apply Blk.set17_7 | apply Blk.set17_8 | apply Blk.set17_9 | apply Blk.set17_10 | apply Blk.set17_11 | apply Blk.set17_12 | apply Blk.set17_13 | apply Blk.set17_14 | apply Blk.set17_15 | apply Blk.set17_16 | (apply Blk.off; (first | assumption | omega | (simp; omega))) | fail)) hb; (try clear eK0); have eK0 := Blk.ev K0; have K1 := Blk.on (by first | exact K1) (by repeat (with_reducible first | exact K1 | exact K1 _ | exact K1 _ _ | apply Blk.alloc | apply Blk.drew | apply Blk.set4_0 | apply Blk.set4_1 | apply Blk.set4_2 | apply Blk.set4_3 | (apply Blk.off; (first | assumption | omega | (simp; omega))) | fail)) hb; (try clear eK1); have eK1 := Blk.ev K1; have HN := HN.mono (base' := w.heap.size) (by first | exact hwz | (simp; omega) | omega))) | fail)
  all_goals (
    go_wp2_with fail
    go_end0
    exact ⟨rfl, ⟨A2, n2, c2, (show Blk _ g #[.string F, .int .i64 x.v, .int .i64 x.p, .int .i64 x.r, .int .i64 D0, .int .i64 D1, .int .i64 D2, .int .i64 D3, .int .i64 D4, .slice A2 n2 c2, .int .i64 x.h.ph, .string x.h.im, .int .i64 x.h.bl, .bool x.h.ag, .int .i64 x.h.tr, .string x.h.rd, .int .i64 x.h.rp] _ from (by repeat (with_reducible first | exact K0 | exact K0 _ | exact K0 _ _ | apply Blk.alloc | apply Blk.drew | apply Blk.set17_0 | apply Blk.set17_1 | apply Blk.set17_2 | apply Blk.set17_3 | apply Blk.set17_4 | apply Blk.set17_5 | apply Blk.set17_6 | apply Blk.set17_7 | apply Blk.set17_8 | apply Blk.set17_9 | apply Blk.set17_10 | apply Blk.set17_11 | apply Blk.set17_12 | apply Blk.set17_13 | apply Blk.set17_14 | apply Blk.set17_15 | apply Blk.set17_16 | (apply Blk.off; (first | assumption | omega | (simp; omega))) | fail))), h2, (by (refine Own.mono (base := w.heap.size) ?_ (by omega)); repeat (with_reducible first | exact HN | (refine Own.set ?_ (by dsimp only; omega) _) | (refine Own.alloc ?_ _) | (refine Own.drewn ?_) | fail))⟩, zq20⟩)
set_option maxRecDepth 100000 in
set_option maxHeartbeats 12800000 in
theorem cut_c (g base : Nat) (x : WS) (a : AS) (A : Option Addr) (n c : Nat) (w : World) (K0 : Blk w g (x.cs A n c) 130) (hn : x.d.ops.length = n) (HO : OwnT w base g A x.d.ops) (hbg : base ≤ g) (hb : bothB x.f x.d = true) (hk : 0 ≤ a.cu ∧ a.cu ≤ 96) : Calls Tryz.prog 89 #[.pointer (some ⟨g, 0, none⟩), .agg a.cs] w (Doer w base g ⟨cutF x.f x.d a.cu.toNat, x.v, x.p, x.r, DS.zero, x.h⟩) := by
  have GB := gb_refl w g
  have eK0 := Blk.ev K0
  have hgw := K0.lt
  have HNL := Lib.hid hn
  have K1 := Blk.new w a.cs 41
  have gne : g ≠ w.heap.size := by omega
  have gne2 : w.heap.size ≠ g := by omega
  obtain ⟨k, hk2⟩ := Int.eq_ofNat_of_zero_le hk.1
  have hk3 : k ≤ 96 := by omega
  have sc := Lib.hid (fun (W : World) (r : Row W A x.d.ops) => tcut_c x.f x.d k A c n W r hn hb hk3)
  have hk4 : a.cu.toNat = k := by omega
  rw [hk4]
  rw [← hk2] at sc
  generalize cutF x.f x.d k = F at *
  clear hb hk hk2 hk3 hk4
  go_enter Tryz.func89, Tryz.ntmps89
  go_upto_region 1 with fail
  refine letter (M := fun X => Code.wp _ _ _ _ X) (F := fun X => Blk X g (x.cs A n c) 130 ∧ Blk X w.heap.size a.cs 41 ∧ OwnT X base g A x.d.ops ∧ w.grownBy X (some g) ∧ g < X.heap.size ∧ w.heap.size ≤ X.heap.size) ⟨K0.alloc _, K1, (by repeat (with_reducible first | exact HO | (refine OwnT.set ?_ (by dsimp only; omega) _) | (refine OwnT.alloc ?_ _) | (refine OwnT.drewn ?_) | fail)), zq20, by simp; omega, by simp⟩ ?_
  clear K0 K1 HO GB eK0
  rintro wz ⟨K0, K1, HO, GB, hgz, hwz⟩
  have eK0 := Blk.ev K0
  have eK1 := Blk.ev K1
  have hrd : Row wz.drew A x.d.ops := (OwnT.drewn HO).1.1
  go_region_law (first | (go_simp; (go_at_call 158; (with_reducible refine (sc.out _ hrd).mono ?_); rintro e w2 ⟨⟨A2, n2, c2, rfl, h2, HN⟩, hb⟩; have GB := gb_bel (w := w) zq20 hb; have K0 := Blk.on K0 (by repeat (with_reducible first | exact K0 | exact K0 _ | exact K0 _ _ | apply Blk.alloc | apply Blk.drew | apply Blk.set17_0 | apply Blk.set17_1 | apply Blk.set17_2 | apply Blk.set17_3 | apply Blk.set17_4 | apply Blk.set17_5 | apply Blk.set17_6 | apply Blk.set17_7 | apply Blk.set17_8 | apply Blk.set17_9 | apply Blk.set17_10 | apply Blk.set17_11 | apply Blk.set17_12 | apply Blk.set17_13 | apply Blk.set17_14 | apply Blk.set17_15 | apply Blk.set17_16 | (apply Blk.off; (first | assumption | omega | (simp; omega))) | fail)) hb; (try clear eK0); have eK0 := Blk.ev K0; have K1 := Blk.on (by first | exact K1) (by repeat (with_reducible first | exact K1 | exact K1 _ | exact K1 _ _ | apply Blk.alloc | apply Blk.drew | apply Blk.set4_0 | apply Blk.set4_1 | apply Blk.set4_2 | apply Blk.set4_3 | (apply Blk.off; (first | assumption | omega | (simp; omega))) | fail)) hb; (try clear eK1); have eK1 := Blk.ev K1; obtain rfl : n2 = 0 := h2.symm)) | fail)
  all_goals (
    go_wp2_with fail
    go_end0
    exact ⟨rfl, ⟨A2, 0, c2, (show Blk _ g #[.string F, .int .i64 x.v, .int .i64 x.p, .int .i64 x.r, .int .i64 DS.zero.st, .int .i64 DS.zero.su, .int .i64 DS.zero.nx, .int .i64 DS.zero.go, .int .i64 DS.zero.sl, .slice A2 0 c2, .int .i64 x.h.ph, .string x.h.im, .int .i64 x.h.bl, .bool x.h.ag, .int .i64 x.h.tr, .string x.h.rd, .int .i64 x.h.rp] _ from (by repeat (with_reducible first | exact K0 | exact K0 _ | exact K0 _ _ | apply Blk.alloc | apply Blk.drew | apply Blk.set17_0 | apply Blk.set17_1 | apply Blk.set17_2 | apply Blk.set17_3 | apply Blk.set17_4 | apply Blk.set17_5 | apply Blk.set17_6 | apply Blk.set17_7 | apply Blk.set17_8 | apply Blk.set17_9 | apply Blk.set17_10 | apply Blk.set17_11 | apply Blk.set17_12 | apply Blk.set17_13 | apply Blk.set17_14 | apply Blk.set17_15 | apply Blk.set17_16 | (apply Blk.off; (first | assumption | omega | (simp; omega))) | fail))), rfl, Own.nil⟩, zq20⟩)
end Go.Proofs.YtccblleobcidfaaGreat.Wo
