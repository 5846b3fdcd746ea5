/- Layer 24: a step of both ends. -/
import Derived.Test.YtccblleobcidfaaGreatPab
import Derived.Test.YtccblleobcidfaaGreatRpc
import Derived.Test.YtccblleobcidfaaGreatCob
namespace Go.Proofs.YtccblleobcidfaaGreat.Wo
open Go.RowKit Go.Proofs.YtccblleobcidfaaGreat.Kt Go.Proofs.YtccblleobcidfaaGreat.Lw Go.Proofs.YtccblleobcidfaaGreat.St Go.Proofs.YtccblleobcidfaaGreat.Nm Go.Proofs.YtccblleobcidfaaGreat.Es Go.Proofs.YtccblleobcidfaaGreat.Sl Go.Proofs.YtccblleobcidfaaGreat.Ops Go.Proofs.YtccblleobcidfaaGreat.Fl Go.Proofs.YtccblleobcidfaaGreat.Dv Go.Proofs.YtccblleobcidfaaGreat.Ho Go.Proofs.YtccblleobcidfaaGreat.Rp
set_option linter.unusedVariables false
set_option linter.unusedSimpArgs false
attribute [local irreducible] devMay hostMay
theorem gb_new {w W : World} {g j i : Nat} {v : Value} (h : w.grownBy W (some g)) (hj : w.heap.size ≤ j) : w.grownBy (W.setCell ⟨j, i, none⟩ v) (some g) :=
  ⟨h.os, h.tape, h.output, Nat.le_trans h.size (by simp [World.setCell]), fun b hb hr => (Below.heap_setCell _ _ _ _ (fun e => by dsimp only at e; omega)).trans (h.block b hb hr)⟩
set_option maxRecDepth 100000 in
set_option maxHeartbeats 12800000 in
theorem step_n (g base : Nat) (x : WS) (a : AS) (A : Option Addr) (n c : Nat) (w : World) (K0 : Blk w g (x.cs A n c) 130) (hn : x.d.ops.length = n) (HO : OwnT w base g A x.d.ops) (hbg : base ≤ g) (ho : offB x.h.ph = true) : Calls Tryz.prog 87 #[.pointer (some ⟨g, 0, none⟩), .agg a.cs] w (Doer w base g x) := by
  have GB := gb_refl w g
  have eK0 := Blk.ev K0
  have hgw := K0.lt
  have HNL := Lib.hid hn
  have K1 := Blk.new w a.cs 41
  have gne : g ≠ w.heap.size := by omega
  have gne2 : w.heap.size ≠ g := by omega
  have offo := Lib.hid (fun W hc => offo_c g 10 x.h.ph W hc)
  rw [ho] at offo
  have hph : ∀ o, (w.alloc o).cell? ⟨g, 10, none⟩ = some (.int .i64 x.h.ph) := fun o => Blk.cell (K0.alloc o) 10
  clear ho
  go_enter Tryz.func87, Tryz.ntmps87
  go_wp2_with (first | (go_at_call 155; with_reducible refine (offo.out _ (hph _)).mono ?_; rintro e w' ⟨rfl, rfl⟩) | fail)
  go_end0
  exact ⟨rfl, ⟨A, n, c, (show Blk _ g #[.string x.f, .int .i64 x.v, .int .i64 x.p, .int .i64 x.r, .int .i64 x.d.st, .int .i64 x.d.su, .int .i64 x.d.nx, .int .i64 x.d.go, .int .i64 x.d.sl, .slice A n c, .int .i64 x.h.ph, .string x.h.im, .int .i64 x.h.bl, .bool x.h.ag, .int .i64 x.h.tr, .string x.h.rd, .int .i64 x.h.rp] _ from (by repeat (with_reducible first | exact K0 | exact K0 _ | exact K0 _ _ | apply Blk.alloc | apply Blk.drew | apply Blk.set17_0 | apply Blk.set17_1 | apply Blk.set17_2 | apply Blk.set17_3 | apply Blk.set17_4 | apply Blk.set17_5 | apply Blk.set17_6 | apply Blk.set17_7 | apply Blk.set17_8 | apply Blk.set17_9 | apply Blk.set17_10 | apply Blk.set17_11 | apply Blk.set17_12 | apply Blk.set17_13 | apply Blk.set17_14 | apply Blk.set17_15 | apply Blk.set17_16 | (apply Blk.off; (first | assumption | omega | (simp; omega))) | fail))), HNL.out, (OwnT.own (top := g) (by repeat (with_reducible first | exact HO | (refine OwnT.set ?_ (by dsimp only; omega) _) | (refine OwnT.alloc ?_ _) | (refine OwnT.drewn ?_) | fail)))⟩, (by repeat (with_reducible first | exact GB | exact gb_refl _ _ | apply gb_set | apply gb_alloc | apply gb_drew | (refine gb_new ?_ (by omega)) | fail))⟩
set_option maxRecDepth 100000 in
set_option maxHeartbeats 12800000 in
theorem step_1 (g base : Nat) (x : WS) (ak : Int) (afi : ByteArray) (acu : Int) (A : Option Addr) (n c : Nat) (w : World) (K0 : Blk w g (x.cs A n c) 130) (hn : x.d.ops.length = n) (HO : OwnT w base g A x.d.ops) (hbg : base ≤ g) (ho : offB x.h.ph = false) (hon : x.h.on = true) (hi : x.h.im.size ≤ 1000000000000000) (hr : x.h.rd.size ≤ 1000000000000000) : Calls Tryz.prog 87 #[.pointer (some ⟨g, 0, none⟩), .agg #[.int .i64 ak, .string afi, .int .i64 1, .int .i64 acu]] w (Doer w base g ⟨x.f, x.v, x.p, x.r, x.d, takeH x.h true false ⟨#[]⟩⟩) := by
  have GB := gb_refl w g
  have eK0 := Blk.ev K0
  have hgw := K0.lt
  have HNL := Lib.hid hn
  have K1 := Blk.new w #[.int .i64 ak, .string afi, .int .i64 1, .int .i64 acu] 41
  have gne : g ≠ w.heap.size := by omega
  have gne2 : w.heap.size ≠ g := by omega
  have offo := Lib.hid (fun W hc => offo_c g 10 x.h.ph W hc)
  rw [ho] at offo
  have hph : ∀ o, (w.alloc o).cell? ⟨g, 10, none⟩ = some (.int .i64 x.h.ph) := fun o => Blk.cell (K0.alloc o) 10
  have sc := Lib.hid (fun W : World => take_c x.h true false ⟨#[]⟩ W hi hr (by decide))
  have hv : takeV x.h true false ⟨#[]⟩ = .tuple #[(takeH x.h true false ⟨#[]⟩).v, .int .i64 0] := by unfold takeV; rw [hon]; rfl
  rw [hv] at sc
  have K2 := Blk.new1 w (.cells #[.int .i64 ak, .string afi, .int .i64 1, .int .i64 acu] 41) #[.bool true, .bool false, .string ⟨#[]⟩] 107
  have eK2 := Blk.ev K2
  clear ho hv hon hi hr
  generalize takeH x.h true false ⟨#[]⟩ = H at *
  obtain ⟨P0, I0, B0, G0, T0, R0, Q0⟩ := H
  go_enter Tryz.func87, Tryz.ntmps87
  go_upto_region 9 with (first | (go_at_call 155; with_reducible refine (offo.out _ (hph _)).mono ?_; rintro e w' ⟨rfl, rfl⟩) | fail)
  refine letter (M := fun X => Code.wp _ _ _ _ X) (F := fun X => Blk X g (x.cs A n c) 130 ∧ Blk X (w.heap.size + 1) #[.bool true, .bool false, .string ⟨#[]⟩] 107 ∧ OwnT X base g A x.d.ops ∧ w.grownBy X (some g) ∧ g < X.heap.size ∧ w.heap.size ≤ X.heap.size) ⟨(by repeat (with_reducible first | exact K0 | exact K0 _ | exact K0 _ _ | apply Blk.alloc | apply Blk.drew | apply Blk.set17_0 | apply Blk.set17_1 | apply Blk.set17_2 | apply Blk.set17_3 | apply Blk.set17_4 | apply Blk.set17_5 | apply Blk.set17_6 | apply Blk.set17_7 | apply Blk.set17_8 | apply Blk.set17_9 | apply Blk.set17_10 | apply Blk.set17_11 | apply Blk.set17_12 | apply Blk.set17_13 | apply Blk.set17_14 | apply Blk.set17_15 | apply Blk.set17_16 | (apply Blk.off; (first | assumption | omega | (simp; omega))) | fail)), zq25, (by repeat (with_reducible first | exact HO | (refine OwnT.set ?_ (by dsimp only; omega) _) | (refine OwnT.alloc ?_ _) | (refine OwnT.drewn ?_) | fail)), (by repeat (with_reducible first | exact GB | exact gb_refl _ _ | apply gb_set | apply gb_alloc | apply gb_drew | (refine gb_new ?_ (by omega)) | fail)), by simp; omega, by simp; omega⟩ ?_
  clear K0 K1 K2 HO GB eK0 eK2
  rintro wz ⟨K0, K2, HO, GB, hgz, hwz⟩
  have eK0 := Blk.ev K0
  have eK2 := Blk.ev K2
  go_region_law (first | (go_simp; (go_at_call 157; (with_reducible refine (sc.out _).mono ?_); rintro e w2 ⟨rfl, hb⟩; have HO := OwnT.below (base := base) (top := g) (A := A) (xs := x.d.ops) (by repeat (with_reducible first | exact HO | (refine OwnT.set ?_ (by dsimp only; omega) _) | (refine OwnT.alloc ?_ _) | (refine OwnT.drewn ?_) | fail)) hb; have GB := gb_bel (w := w) (by repeat (with_reducible first | exact GB | exact gb_refl _ _ | apply gb_set | apply gb_alloc | apply gb_drew | (refine gb_new ?_ (by omega)) | fail)) hb; have K0 := Blk.on K0 (by repeat (with_reducible first | exact K0 | exact K0 _ | exact K0 _ _ | apply Blk.alloc | apply Blk.drew | apply Blk.set17_0 | apply Blk.set17_1 | apply Blk.set17_2 | apply Blk.set17_3 | apply Blk.set17_4 | apply Blk.set17_5 | apply Blk.set17_6 | apply Blk.set17_7 | apply Blk.set17_8 | apply Blk.set17_9 | apply Blk.set17_10 | apply Blk.set17_11 | apply Blk.set17_12 | apply Blk.set17_13 | apply Blk.set17_14 | apply Blk.set17_15 | apply Blk.set17_16 | (apply Blk.off; (first | assumption | omega | (simp; omega))) | fail)) hb; (try clear eK0); have eK0 := Blk.ev K0; )) | fail)
  all_goals (
    go_wp2_with fail
    go_end0
    exact ⟨rfl, ⟨A, n, c, (show Blk _ g #[.string x.f, .int .i64 x.v, .int .i64 x.p, .int .i64 x.r, .int .i64 x.d.st, .int .i64 x.d.su, .int .i64 x.d.nx, .int .i64 x.d.go, .int .i64 x.d.sl, .slice A n c, .int .i64 P0, .string I0, .int .i64 B0, .bool G0, .int .i64 T0, .string R0, .int .i64 Q0] _ from (by repeat (with_reducible first | exact K0 | exact K0 _ | exact K0 _ _ | apply Blk.alloc | apply Blk.drew | apply Blk.set17_0 | apply Blk.set17_1 | apply Blk.set17_2 | apply Blk.set17_3 | apply Blk.set17_4 | apply Blk.set17_5 | apply Blk.set17_6 | apply Blk.set17_7 | apply Blk.set17_8 | apply Blk.set17_9 | apply Blk.set17_10 | apply Blk.set17_11 | apply Blk.set17_12 | apply Blk.set17_13 | apply Blk.set17_14 | apply Blk.set17_15 | apply Blk.set17_16 | (apply Blk.off; (first | assumption | omega | (simp; omega))) | fail))), HNL.out, (OwnT.own (top := g) (by repeat (with_reducible first | exact HO | (refine OwnT.set ?_ (by dsimp only; omega) _) | (refine OwnT.alloc ?_ _) | (refine OwnT.drewn ?_) | fail)))⟩, (by repeat (with_reducible first | exact GB | exact gb_refl _ _ | apply gb_set | apply gb_alloc | apply gb_drew | (refine gb_new ?_ (by omega)) | fail))⟩)
set_option maxRecDepth 100000 in
set_option maxHeartbeats 12800000 in
theorem step_0 (g base : Nat) (x : WS) (ak : Int) (afi : ByteArray) (acu : Int) (A : Option Addr) (n c : Nat) (w : World) (K0 : Blk w g (x.cs A n c) 130) (hn : x.d.ops.length = n) (HO : OwnT w base g A x.d.ops) (hbg : base ≤ g) (ho : offB x.h.ph = false) (hon : x.h.on = true) (hi : x.h.im.size ≤ 1000000000000000) (hr : x.h.rd.size ≤ 1000000000000000) (hb : bothB x.f x.d = true) (hs : (handT x.f x.d (askS x.h) (askT x.h)).size ≤ 140737488351232) : Calls Tryz.prog 87 #[.pointer (some ⟨g, 0, none⟩), .agg #[.int .i64 ak, .string afi, .int .i64 0, .int .i64 acu]] w (Doer w base g ⟨x.f, x.v, x.p, x.r, handD x.f x.d (askS x.h) (askT x.h), takeH x.h false (handS x.f x.d (askS x.h) (askT x.h)) (handT x.f x.d (askS x.h) (askT x.h))⟩) := by
  have GB := gb_refl w g
  have eK0 := Blk.ev K0
  have hgw := K0.lt
  have HNL := Lib.hid hn
  have K1 := Blk.new w #[.int .i64 ak, .string afi, .int .i64 0, .int .i64 acu] 41
  have gne : g ≠ w.heap.size := by omega
  have gne2 : w.heap.size ≠ g := by omega
  have offo := Lib.hid (fun W hc => offo_c g 10 x.h.ph W hc)
  rw [ho] at offo
  have hph : ∀ o, (w.alloc o).cell? ⟨g, 10, none⟩ = some (.int .i64 x.h.ph) := fun o => Blk.cell (K0.alloc o) 10
  have sh := Lib.hid (fun (W : World) (r : Row W A x.d.ops) => handle_c x.f x.d (askS x.h) (askT x.h) A c n W r hn hb)
  have oc := Lib.hid (fun W : World => asks_c x.h.ph x.h.im x.h.bl x.h.ag x.h.tr x.h.rd x.h.rp W hi hr)
  have hv1 : asksV x.h.ph x.h.im x.h.bl x.h.ag x.h.tr x.h.rd x.h.rp = .tuple #[.string (askS x.h), .string (askT x.h), .int .i64 0] := by
    have h : asksOk x.h.ph x.h.im x.h.bl x.h.tr x.h.rd x.h.rp = true := hon
    unfold asksV; rw [h]; rfl
  rw [hv1] at oc
  generalize handD x.f x.d (askS x.h) (askT x.h) = D at *
  generalize handS x.f x.d (askS x.h) (askT x.h) = S0 at *
  generalize handT x.f x.d (askS x.h) (askT x.h) = T0b at *
  have sc := Lib.hid (fun W : World => take_c x.h false S0 T0b W hi hr hs)
  have hv : takeV x.h false S0 T0b = .tuple #[(takeH x.h false S0 T0b).v, .int .i64 0] := by unfold takeV; rw [hon]; rfl
  rw [hv] at sc
  generalize askS x.h = sB at *
  generalize askT x.h = tB at *
  have K2 := Blk.new1 w (.cells #[.int .i64 ak, .string afi, .int .i64 0, .int .i64 acu] 41) #[.bool true, .bool false, .string ⟨#[]⟩] 107
  have K1 := Blk.alloc K1 (.cells #[.bool true, .bool false, .string ⟨#[]⟩] 107)
  clear ho hv hv1 hon hi hr hs hb
  generalize takeH x.h false S0 T0b = H at *
  obtain ⟨P0, I0, B0, G0, T0, R0, Q0⟩ := H
  obtain ⟨D0, D1, D2, D3, D4, xs⟩ := D
  go_enter Tryz.func87, Tryz.ntmps87
  go_upto_region 6 with (first | (go_at_call 155; with_reducible refine (offo.out _ (hph _)).mono ?_; rintro e w' ⟨rfl, rfl⟩) | (go_at_call 156; (with_reducible refine (oc.out _).mono ?_); rintro e wk ⟨rfl, hb⟩; have HO := OwnT.below (base := base) (top := g) (A := A) (xs := x.d.ops) (by repeat (with_reducible first | exact HO | (refine OwnT.set ?_ (by dsimp only; omega) _) | (refine OwnT.alloc ?_ _) | (refine OwnT.drewn ?_) | fail)) hb; have GB := gb_bel (w := w) (by repeat (with_reducible first | exact GB | exact gb_refl _ _ | apply gb_set | apply gb_alloc | apply gb_drew | (refine gb_new ?_ (by omega)) | fail)) hb; have K0 := Blk.on K0 (by repeat (with_reducible first | exact K0 | exact K0 _ | exact K0 _ _ | apply Blk.alloc | apply Blk.drew | apply Blk.set17_0 | apply Blk.set17_1 | apply Blk.set17_2 | apply Blk.set17_3 | apply Blk.set17_4 | apply Blk.set17_5 | apply Blk.set17_6 | apply Blk.set17_7 | apply Blk.set17_8 | apply Blk.set17_9 | apply Blk.set17_10 | apply Blk.set17_11 | apply Blk.set17_12 | apply Blk.set17_13 | apply Blk.set17_14 | apply Blk.set17_15 | apply Blk.set17_16 | (apply Blk.off; (first | assumption | omega | (simp; omega))) | fail)) hb; (try clear eK0); have eK0 := Blk.ev K0; have K1 := Blk.on K1 (by repeat (with_reducible first | exact K1 | exact K1 _ | exact K1 _ _ | apply Blk.alloc | apply Blk.drew | apply Blk.set4_0 | apply Blk.set4_1 | apply Blk.set4_2 | apply Blk.set4_3 | (apply Blk.off; (first | assumption | omega | (simp; omega))) | fail)) hb; (try clear eK1); have eK1 := Blk.ev K1; have K2 := Blk.on K2 zq25 hb; (try clear eK2); have eK2 := Blk.ev K2; have lt2 := K2.lt; have lt0 := K0.lt; clear hb) | fail)
  have ne0 : g ≠ w.heap.size + 1 := by omega
  have ne1 : w.heap.size + 1 ≠ g := by omega
  have ne2 : g ≠ wk.heap.size := by omega
  have ne3 : wk.heap.size ≠ g := by omega
  have ne4 : w.heap.size ≠ wk.heap.size := by omega
  have ne5 : wk.heap.size ≠ w.heap.size := by omega
  have ne6 : w.heap.size + 1 ≠ wk.heap.size := by omega
  have ne7 : wk.heap.size ≠ w.heap.size + 1 := by omega
  have K3 := Blk.new wk #[.bool false, .bool false, .string ⟨#[]⟩] 107
  refine letter (M := fun X => Code.wp _ _ _ _ X) (F := fun X => Blk X g (x.cs A n c) 130 ∧ Blk X w.heap.size #[.int .i64 ak, .string afi, .int .i64 0, .int .i64 acu] 41 ∧ Blk X (w.heap.size + 1) #[.bool true, .bool false, .string ⟨#[]⟩] 107 ∧ Blk X wk.heap.size #[.bool false, .bool false, .string ⟨#[]⟩] 107 ∧ OwnT X base g A x.d.ops ∧ w.grownBy X (some g) ∧ wk.heap.size < X.heap.size) ⟨K0.alloc _, K1.alloc _, K2.alloc _, K3, (by repeat (with_reducible first | exact HO | (refine OwnT.set ?_ (by dsimp only; omega) _) | (refine OwnT.alloc ?_ _) | (refine OwnT.drewn ?_) | fail)), (by repeat (with_reducible first | exact GB | exact gb_refl _ _ | apply gb_set | apply gb_alloc | apply gb_drew | (refine gb_new ?_ (by omega)) | fail)), by simp⟩ ?_
  clear K0 K1 K2 K3 HO GB eK0 eK1 eK2
  rintro wz ⟨K0, K1, K2, K3, HO, GB, hz3⟩
  have eK0 := Blk.ev K0
  have eK1 := Blk.ev K1
  have eK2 := Blk.ev K2
  have eK3 := Blk.ev K3
  have hrd : Row wz.drew A x.d.ops := (OwnT.drewn HO).1.1
  go_region_law (first | (go_simp; (go_at_call 70; (with_reducible refine (sh.out _ hrd).mono ?_); rintro e w2 ⟨⟨A2, n2, c2, rfl, h2, HN⟩, hb⟩; have GB := gb_bel (w := w) (by repeat (with_reducible first | exact GB | exact gb_refl _ _ | apply gb_set | apply gb_alloc | apply gb_drew | (refine gb_new ?_ (by omega)) | fail)) hb; have K0 := Blk.on K0 (by repeat (with_reducible first | exact K0 | exact K0 _ | exact K0 _ _ | apply Blk.alloc | apply Blk.drew | apply Blk.set17_0 | apply Blk.set17_1 | apply Blk.set17_2 | apply Blk.set17_3 | apply Blk.set17_4 | apply Blk.set17_5 | apply Blk.set17_6 | apply Blk.set17_7 | apply Blk.set17_8 | apply Blk.set17_9 | apply Blk.set17_10 | apply Blk.set17_11 | apply Blk.set17_12 | apply Blk.set17_13 | apply Blk.set17_14 | apply Blk.set17_15 | apply Blk.set17_16 | (apply Blk.off; (first | assumption | omega | (simp; omega))) | fail)) hb; (try clear eK0); have eK0 := Blk.ev K0; have K1 := Blk.on K1 (by repeat (with_reducible first | exact K1 | exact K1 _ | exact K1 _ _ | apply Blk.alloc | apply Blk.drew | apply Blk.set4_0 | apply Blk.set4_1 | apply Blk.set4_2 | apply Blk.set4_3 | (apply Blk.off; (first | assumption | omega | (simp; omega))) | fail)) hb; (try clear eK1); have eK1 := Blk.ev K1; have K2 := Blk.on K2 zq25 hb; (try clear eK2); have eK2 := Blk.ev K2; have K3 := Blk.on K3 (by repeat (with_reducible first | exact K3 | exact K3 _ | exact K3 _ _ | apply Blk.alloc | apply Blk.drew | apply Blk.set3_0 | apply Blk.set3_1 | apply Blk.set3_2 | (apply Blk.off; (first | assumption | omega | (simp; omega))) | fail)) hb; (try clear eK3); have eK3 := Blk.ev K3; have HN := HN.mono (base' := wk.heap.size + 1) (by exact hz3))) | fail)
  all_goals (
    go_upto_region 9 with fail
    refine letter (M := fun X => Code.wp _ _ _ _ X) (F := fun X => Blk X g #[.string x.f, .int .i64 x.v, .int .i64 x.p, .int .i64 x.r, .int .i64 D0, .int .i64 D1, .int .i64 D2, .int .i64 D3, .int .i64 D4, .slice A2 n2 c2, .int .i64 x.h.ph, .string x.h.im, .int .i64 x.h.bl, .bool x.h.ag, .int .i64 x.h.tr, .string x.h.rd, .int .i64 x.h.rp] 130 ∧ Blk X (w.heap.size + 1) #[.bool false, .bool S0, .string T0b] 107 ∧ Own X w.heap.size A2 xs ∧ w.grownBy X (some g)) ⟨(by repeat (with_reducible first | exact K0 | exact K0 _ | exact K0 _ _ | apply Blk.alloc | apply Blk.drew | apply Blk.set17_0 | apply Blk.set17_1 | apply Blk.set17_2 | apply Blk.set17_3 | apply Blk.set17_4 | apply Blk.set17_5 | apply Blk.set17_6 | apply Blk.set17_7 | apply Blk.set17_8 | apply Blk.set17_9 | apply Blk.set17_10 | apply Blk.set17_11 | apply Blk.set17_12 | apply Blk.set17_13 | apply Blk.set17_14 | apply Blk.set17_15 | apply Blk.set17_16 | (apply Blk.off; (first | assumption | omega | (simp; omega))) | fail)), zq25, Own.mono (base := wk.heap.size + 1) (by repeat (with_reducible first | exact HN | (refine Own.set ?_ (by dsimp only; omega) _) | (refine Own.alloc ?_ _) | (refine Own.drewn ?_) | fail)) (by omega), (by repeat (with_reducible first | exact GB | exact gb_refl _ _ | apply gb_set | apply gb_alloc | apply gb_drew | (refine gb_new ?_ (by omega)) | fail))⟩ ?_
    clear K0 K1 K2 K3 HN GB eK0 eK1 eK2 eK3
    rintro wy ⟨K0, K2, HN, GB⟩
    have eK0 := Blk.ev K0
    have eK2 := Blk.ev K2
    go_region_law (first | (go_simp; (go_at_call 157; (with_reducible refine (sc.out _).mono ?_); rintro e w2 ⟨rfl, hb⟩; have GB := gb_bel (w := w) (by repeat (with_reducible first | exact GB | exact gb_refl _ _ | apply gb_set | apply gb_alloc | apply gb_drew | (refine gb_new ?_ (by omega)) | fail)) hb; have K0 := Blk.on K0 (by repeat (with_reducible first | exact K0 | exact K0 _ | exact K0 _ _ | apply Blk.alloc | apply Blk.drew | apply Blk.set17_0 | apply Blk.set17_1 | apply Blk.set17_2 | apply Blk.set17_3 | apply Blk.set17_4 | apply Blk.set17_5 | apply Blk.set17_6 | apply Blk.set17_7 | apply Blk.set17_8 | apply Blk.set17_9 | apply Blk.set17_10 | apply Blk.set17_11 | apply Blk.set17_12 | apply Blk.set17_13 | apply Blk.set17_14 | apply Blk.set17_15 | apply Blk.set17_16 | (apply Blk.off; (first | assumption | omega | (simp; omega))) | fail)) hb; (try clear eK0); have eK0 := Blk.ev K0; have HN := Own.below (base := w.heap.size) (A := A2) (xs := xs) (by repeat (with_reducible first | exact HN | (refine Own.set ?_ (by dsimp only; omega) _) | (refine Own.alloc ?_ _) | (refine Own.drewn ?_) | fail)) hb)) | fail)
    all_goals (
      go_wp2_with fail
      go_end0
      exact ⟨rfl, ⟨A2, n2, c2, (show Blk _ g #[.string x.f, .int .i64 x.v, .int .i64 x.p, .int .i64 x.r, .int .i64 D0, .int .i64 D1, .int .i64 D2, .int .i64 D3, .int .i64 D4, .slice A2 n2 c2, .int .i64 P0, .string I0, .int .i64 B0, .bool G0, .int .i64 T0, .string R0, .int .i64 Q0] _ from (by repeat (with_reducible first | exact K0 | exact K0 _ | exact K0 _ _ | apply Blk.alloc | apply Blk.drew | apply Blk.set17_0 | apply Blk.set17_1 | apply Blk.set17_2 | apply Blk.set17_3 | apply Blk.set17_4 | apply Blk.set17_5 | apply Blk.set17_6 | apply Blk.set17_7 | apply Blk.set17_8 | apply Blk.set17_9 | apply Blk.set17_10 | apply Blk.set17_11 | apply Blk.set17_12 | apply Blk.set17_13 | apply Blk.set17_14 | apply Blk.set17_15 | apply Blk.set17_16 | (apply Blk.off; (first | assumption | omega | (simp; omega))) | fail))), h2, (by (refine Own.mono (base := w.heap.size) ?_ (by omega)); repeat (with_reducible first | exact HN | (refine Own.set ?_ (by dsimp only; omega) _) | (refine Own.alloc ?_ _) | (refine Own.drewn ?_) | fail))⟩, (by repeat (with_reducible first | exact GB | exact gb_refl _ _ | apply gb_set | apply gb_alloc | apply gb_drew | (refine gb_new ?_ (by omega)) | fail))⟩))
set_option maxRecDepth 100000 in
set_option maxHeartbeats 12800000 in
theorem step_2 (g base : Nat) (x : WS) (ak : Int) (afi : ByteArray) (acu : Int) (A : Option Addr) (n c : Nat) (w : World) (K0 : Blk w g (x.cs A n c) 130) (hn : x.d.ops.length = n) (HO : OwnT w base g A x.d.ops) (hbg : base ≤ g) (ho : offB x.h.ph = false) (hon : x.h.on = true) (hi : x.h.im.size ≤ 1000000000000000) (hr : x.h.rd.size ≤ 1000000000000000) (hb : bothB x.f x.d = true) (hs : (handT x.f x.d (askS x.h) (askT x.h)).size ≤ 140737488351232) : Calls Tryz.prog 87 #[.pointer (some ⟨g, 0, none⟩), .agg #[.int .i64 ak, .string afi, .int .i64 2, .int .i64 acu]] w (Doer w base g ⟨x.f, x.v, x.p, x.r, handD x.f x.d (askS x.h) (askT x.h), takeH x.h true false ⟨#[]⟩⟩) := by
  have GB := gb_refl w g
  have eK0 := Blk.ev K0
  have hgw := K0.lt
  have HNL := Lib.hid hn
  have K1 := Blk.new w #[.int .i64 ak, .string afi, .int .i64 2, .int .i64 acu] 41
  have gne : g ≠ w.heap.size := by omega
  have gne2 : w.heap.size ≠ g := by omega
  have offo := Lib.hid (fun W hc => offo_c g 10 x.h.ph W hc)
  rw [ho] at offo
  have hph : ∀ o, (w.alloc o).cell? ⟨g, 10, none⟩ = some (.int .i64 x.h.ph) := fun o => Blk.cell (K0.alloc o) 10
  have sh := Lib.hid (fun (W : World) (r : Row W A x.d.ops) => handle_c x.f x.d (askS x.h) (askT x.h) A c n W r hn hb)
  have oc := Lib.hid (fun W : World => asks_c x.h.ph x.h.im x.h.bl x.h.ag x.h.tr x.h.rd x.h.rp W hi hr)
  have hv1 : asksV x.h.ph x.h.im x.h.bl x.h.ag x.h.tr x.h.rd x.h.rp = .tuple #[.string (askS x.h), .string (askT x.h), .int .i64 0] := by
    have h : asksOk x.h.ph x.h.im x.h.bl x.h.tr x.h.rd x.h.rp = true := hon
    unfold asksV; rw [h]; rfl
  rw [hv1] at oc
  generalize handD x.f x.d (askS x.h) (askT x.h) = D at *
  generalize handS x.f x.d (askS x.h) (askT x.h) = S0 at *
  generalize handT x.f x.d (askS x.h) (askT x.h) = T0b at *
  have sc := Lib.hid (fun W : World => take_c x.h true false ⟨#[]⟩ W hi hr (by decide))
  have hv : takeV x.h true false ⟨#[]⟩ = .tuple #[(takeH x.h true false ⟨#[]⟩).v, .int .i64 0] := by unfold takeV; rw [hon]; rfl
  rw [hv] at sc
  generalize askS x.h = sB at *
  generalize askT x.h = tB at *
  have K2 := Blk.new1 w (.cells #[.int .i64 ak, .string afi, .int .i64 2, .int .i64 acu] 41) #[.bool true, .bool false, .string ⟨#[]⟩] 107
  have K1 := Blk.alloc K1 (.cells #[.bool true, .bool false, .string ⟨#[]⟩] 107)
  clear ho hv hv1 hon hi hr hs hb
  generalize takeH x.h true false ⟨#[]⟩ = H at *
  obtain ⟨P0, I0, B0, G0, T0, R0, Q0⟩ := H
  obtain ⟨D0, D1, D2, D3, D4, xs⟩ := D
  go_enter Tryz.func87, Tryz.ntmps87
  go_upto_region 6 with (first | (go_at_call 155; with_reducible refine (offo.out _ (hph _)).mono ?_; rintro e w' ⟨rfl, rfl⟩) | (go_at_call 156; (with_reducible refine (oc.out _).mono ?_); rintro e wk ⟨rfl, hb⟩; have HO := OwnT.below (base := base) (top := g) (A := A) (xs := x.d.ops) (by repeat (with_reducible first | exact HO | (refine OwnT.set ?_ (by dsimp only; omega) _) | (refine OwnT.alloc ?_ _) | (refine OwnT.drewn ?_) | fail)) hb; have GB := gb_bel (w := w) (by repeat (with_reducible first | exact GB | exact gb_refl _ _ | apply gb_set | apply gb_alloc | apply gb_drew | (refine gb_new ?_ (by omega)) | fail)) hb; have K0 := Blk.on K0 (by repeat (with_reducible first | exact K0 | exact K0 _ | exact K0 _ _ | apply Blk.alloc | apply Blk.drew | apply Blk.set17_0 | apply Blk.set17_1 | apply Blk.set17_2 | apply Blk.set17_3 | apply Blk.set17_4 | apply Blk.set17_5 | apply Blk.set17_6 | apply Blk.set17_7 | apply Blk.set17_8 | apply Blk.set17_9 | apply Blk.set17_10 | apply Blk.set17_11 | apply Blk.set17_12 | apply Blk.set17_13 | apply Blk.set17_14 | apply Blk.set17_15 | apply Blk.set17_16 | (apply Blk.off; (first | assumption | omega | (simp; omega))) | fail)) hb; (try clear eK0); have eK0 := Blk.ev K0; have K1 := Blk.on K1 (by repeat (with_reducible first | exact K1 | exact K1 _ | exact K1 _ _ | apply Blk.alloc | apply Blk.drew | apply Blk.set4_0 | apply Blk.set4_1 | apply Blk.set4_2 | apply Blk.set4_3 | (apply Blk.off; (first | assumption | omega | (simp; omega))) | fail)) hb; (try clear eK1); have eK1 := Blk.ev K1; have K2 := Blk.on K2 zq25 hb; (try clear eK2); have eK2 := Blk.ev K2; have lt2 := K2.lt; have lt0 := K0.lt; clear hb) | fail)
  have ne0 : g ≠ w.heap.size + 1 := by omega
  have ne1 : w.heap.size + 1 ≠ g := by omega
  have ne2 : g ≠ wk.heap.size := by omega
  have ne3 : wk.heap.size ≠ g := by omega
  have ne4 : w.heap.size ≠ wk.heap.size := by omega
  have ne5 : wk.heap.size ≠ w.heap.size := by omega
  have ne6 : w.heap.size + 1 ≠ wk.heap.size := by omega
  have ne7 : wk.heap.size ≠ w.heap.size + 1 := by omega
  have K3 := Blk.new wk #[.bool false, .bool false, .string ⟨#[]⟩] 107
  refine letter (M := fun X => Code.wp _ _ _ _ X) (F := fun X => Blk X g (x.cs A n c) 130 ∧ Blk X w.heap.size #[.int .i64 ak, .string afi, .int .i64 2, .int .i64 acu] 41 ∧ Blk X (w.heap.size + 1) #[.bool true, .bool false, .string ⟨#[]⟩] 107 ∧ Blk X wk.heap.size #[.bool false, .bool false, .string ⟨#[]⟩] 107 ∧ OwnT X base g A x.d.ops ∧ w.grownBy X (some g) ∧ wk.heap.size < X.heap.size) ⟨K0.alloc _, K1.alloc _, K2.alloc _, K3, (by repeat (with_reducible first | exact HO | (refine OwnT.set ?_ (by dsimp only; omega) _) | (refine OwnT.alloc ?_ _) | (refine OwnT.drewn ?_) | fail)), (by repeat (with_reducible first | exact GB | exact gb_refl _ _ | apply gb_set | apply gb_alloc | apply gb_drew | (refine gb_new ?_ (by omega)) | fail)), by simp⟩ ?_
  clear K0 K1 K2 K3 HO GB eK0 eK1 eK2
  rintro wz ⟨K0, K1, K2, K3, HO, GB, hz3⟩
  have eK0 := Blk.ev K0
  have eK1 := Blk.ev K1
  have eK2 := Blk.ev K2
  have eK3 := Blk.ev K3
  have hrd : Row wz.drew A x.d.ops := (OwnT.drewn HO).1.1
  go_region_law (first | (go_simp; (go_at_call 70; (with_reducible refine (sh.out _ hrd).mono ?_); rintro e w2 ⟨⟨A2, n2, c2, rfl, h2, HN⟩, hb⟩; have GB := gb_bel (w := w) (by repeat (with_reducible first | exact GB | exact gb_refl _ _ | apply gb_set | apply gb_alloc | apply gb_drew | (refine gb_new ?_ (by omega)) | fail)) hb; have K0 := Blk.on K0 (by repeat (with_reducible first | exact K0 | exact K0 _ | exact K0 _ _ | apply Blk.alloc | apply Blk.drew | apply Blk.set17_0 | apply Blk.set17_1 | apply Blk.set17_2 | apply Blk.set17_3 | apply Blk.set17_4 | apply Blk.set17_5 | apply Blk.set17_6 | apply Blk.set17_7 | apply Blk.set17_8 | apply Blk.set17_9 | apply Blk.set17_10 | apply Blk.set17_11 | apply Blk.set17_12 | apply Blk.set17_13 | apply Blk.set17_14 | apply Blk.set17_15 | apply Blk.set17_16 | (apply Blk.off; (first | assumption | omega | (simp; omega))) | fail)) hb; (try clear eK0); have eK0 := Blk.ev K0; have K1 := Blk.on K1 (by repeat (with_reducible first | exact K1 | exact K1 _ | exact K1 _ _ | apply Blk.alloc | apply Blk.drew | apply Blk.set4_0 | apply Blk.set4_1 | apply Blk.set4_2 | apply Blk.set4_3 | (apply Blk.off; (first | assumption | omega | (simp; omega))) | fail)) hb; (try clear eK1); have eK1 := Blk.ev K1; have K2 := Blk.on K2 zq25 hb; (try clear eK2); have eK2 := Blk.ev K2; have K3 := Blk.on K3 (by repeat (with_reducible first | exact K3 | exact K3 _ | exact K3 _ _ | apply Blk.alloc | apply Blk.drew | apply Blk.set3_0 | apply Blk.set3_1 | apply Blk.set3_2 | (apply Blk.off; (first | assumption | omega | (simp; omega))) | fail)) hb; (try clear eK3); have eK3 := Blk.ev K3; have HN := HN.mono (base' := wk.heap.size + 1) (by exact hz3))) | fail)
  all_goals (
    go_upto_region 9 with fail
    refine letter (M := fun X => Code.wp _ _ _ _ X) (F := fun X => Blk X g #[.string x.f, .int .i64 x.v, .int .i64 x.p, .int .i64 x.r, .int .i64 D0, .int .i64 D1, .int .i64 D2, .int .i64 D3, .int .i64 D4, .slice A2 n2 c2, .int .i64 x.h.ph, .string x.h.im, .int .i64 x.h.bl, .bool x.h.ag, .int .i64 x.h.tr, .string x.h.rd, .int .i64 x.h.rp] 130 ∧ Blk X (w.heap.size + 1) #[.bool true, .bool false, .string ⟨#[]⟩] 107 ∧ Own X w.heap.size A2 xs ∧ w.grownBy X (some g)) ⟨(by repeat (with_reducible first | exact K0 | exact K0 _ | exact K0 _ _ | apply Blk.alloc | apply Blk.drew | apply Blk.set17_0 | apply Blk.set17_1 | apply Blk.set17_2 | apply Blk.set17_3 | apply Blk.set17_4 | apply Blk.set17_5 | apply Blk.set17_6 | apply Blk.set17_7 | apply Blk.set17_8 | apply Blk.set17_9 | apply Blk.set17_10 | apply Blk.set17_11 | apply Blk.set17_12 | apply Blk.set17_13 | apply Blk.set17_14 | apply Blk.set17_15 | apply Blk.set17_16 | (apply Blk.off; (first | assumption | omega | (simp; omega))) | fail)), zq25, Own.mono (base := wk.heap.size + 1) (by repeat (with_reducible first | exact HN | (refine Own.set ?_ (by dsimp only; omega) _) | (refine Own.alloc ?_ _) | (refine Own.drewn ?_) | fail)) (by omega), (by repeat (with_reducible first | exact GB | exact gb_refl _ _ | apply gb_set | apply gb_alloc | apply gb_drew | (refine gb_new ?_ (by omega)) | fail))⟩ ?_
    clear K0 K1 K2 K3 HN GB eK0 eK1 eK2 eK3
    rintro wy ⟨K0, K2, HN, GB⟩
    have eK0 := Blk.ev K0
    have eK2 := Blk.ev K2
    go_region_law (first | (go_simp; (go_at_call 157; (with_reducible refine (sc.out _).mono ?_); rintro e w2 ⟨rfl, hb⟩; have GB := gb_bel (w := w) (by repeat (with_reducible first | exact GB | exact gb_refl _ _ | apply gb_set | apply gb_alloc | apply gb_drew | (refine gb_new ?_ (by omega)) | fail)) hb; have K0 := Blk.on K0 (by repeat (with_reducible first | exact K0 | exact K0 _ | exact K0 _ _ | apply Blk.alloc | apply Blk.drew | apply Blk.set17_0 | apply Blk.set17_1 | apply Blk.set17_2 | apply Blk.set17_3 | apply Blk.set17_4 | apply Blk.set17_5 | apply Blk.set17_6 | apply Blk.set17_7 | apply Blk.set17_8 | apply Blk.set17_9 | apply Blk.set17_10 | apply Blk.set17_11 | apply Blk.set17_12 | apply Blk.set17_13 | apply Blk.set17_14 | apply Blk.set17_15 | apply Blk.set17_16 | (apply Blk.off; (first | assumption | omega | (simp; omega))) | fail)) hb; (try clear eK0); have eK0 := Blk.ev K0; have HN := Own.below (base := w.heap.size) (A := A2) (xs := xs) (by repeat (with_reducible first | exact HN | (refine Own.set ?_ (by dsimp only; omega) _) | (refine Own.alloc ?_ _) | (refine Own.drewn ?_) | fail)) hb)) | fail)
    all_goals (
      go_wp2_with fail
      go_end0
      exact ⟨rfl, ⟨A2, n2, c2, (show Blk _ g #[.string x.f, .int .i64 x.v, .int .i64 x.p, .int .i64 x.r, .int .i64 D0, .int .i64 D1, .int .i64 D2, .int .i64 D3, .int .i64 D4, .slice A2 n2 c2, .int .i64 P0, .string I0, .int .i64 B0, .bool G0, .int .i64 T0, .string R0, .int .i64 Q0] _ from (by repeat (with_reducible first | exact K0 | exact K0 _ | exact K0 _ _ | apply Blk.alloc | apply Blk.drew | apply Blk.set17_0 | apply Blk.set17_1 | apply Blk.set17_2 | apply Blk.set17_3 | apply Blk.set17_4 | apply Blk.set17_5 | apply Blk.set17_6 | apply Blk.set17_7 | apply Blk.set17_8 | apply Blk.set17_9 | apply Blk.set17_10 | apply Blk.set17_11 | apply Blk.set17_12 | apply Blk.set17_13 | apply Blk.set17_14 | apply Blk.set17_15 | apply Blk.set17_16 | (apply Blk.off; (first | assumption | omega | (simp; omega))) | fail))), h2, (by (refine Own.mono (base := w.heap.size) ?_ (by omega)); repeat (with_reducible first | exact HN | (refine Own.set ?_ (by dsimp only; omega) _) | (refine Own.alloc ?_ _) | (refine Own.drewn ?_) | fail))⟩, (by repeat (with_reducible first | exact GB | exact gb_refl _ _ | apply gb_set | apply gb_alloc | apply gb_drew | (refine gb_new ?_ (by omega)) | fail))⟩))
end Go.Proofs.YtccblleobcidfaaGreat.Wo
