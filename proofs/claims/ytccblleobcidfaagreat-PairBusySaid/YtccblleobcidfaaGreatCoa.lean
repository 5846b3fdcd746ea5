/- Layer 21: a request: what the program's methods on it answer (printed by gen_coa.py). -/
import Derived.Test.YtccblleobcidfaaGreatDld
import Derived.Test.YtccblleobcidfaaGreatUpa
import Derived.Test.YtccblleobcidfaaGreatGtb
import Derived.Test.YtccblleobcidfaaGreatGb
import Derived.Test.YtccblleobcidfaaGreatGy
import Derived.Deep.RegionLaw
namespace Go.Proofs.YtccblleobcidfaaGreat.Dv
open Go.RowKit Go.Proofs.YtccblleobcidfaaGreat.Kt Go.Proofs.YtccblleobcidfaaGreat.Lw Go.Proofs.YtccblleobcidfaaGreat.St Go.Proofs.YtccblleobcidfaaGreat.Nm Go.Proofs.YtccblleobcidfaaGreat.Es Go.Proofs.YtccblleobcidfaaGreat.By Go.Proofs.YtccblleobcidfaaGreat.En Go.Proofs.YtccblleobcidfaaGreat.Jr Go.Proofs.YtccblleobcidfaaGreat.Im Go.Proofs.YtccblleobcidfaaGreat.Sl Go.Proofs.YtccblleobcidfaaGreat.Gr Go.Proofs.YtccblleobcidfaaGreat.Ops Go.Proofs.YtccblleobcidfaaGreat.Ch Go.Proofs.YtccblleobcidfaaGreat.Fl Go.Proofs.YtccblleobcidfaaGreat.Pl
set_option linter.unusedVariables false
set_option linter.unusedSimpArgs false
attribute [local irreducible] gotB goodB Cr.crcB nQ nS nZ nM placeB wholeB devMay
/-- a request's cells; what is done, and what it tells. -/
def Dones (w : World) (d : DS) (t : ByteArray) (e : Ending) (w' : World) : Prop := (∃ A n c, e = .returned (.agg #[.int .i64 d.st, .int .i64 d.su, .int .i64 d.nx, .int .i64 d.go, .int .i64 d.sl, .slice A n c, .string t]) ∧ d.ops.length = n ∧ Own w' w.heap.size A d.ops) ∧ Below w.heap.size w w'
theorem body_gen7 {P : Program} {f : Func} {Q : Ending → World → Prop} {e : Exit} {a : Act} {w W : World} {g1 : Nat} {cs1 : Array Value} {t1 : TypeId} {A : Option Addr} {xs : List OpV} (L1 : Blk W g1 cs1 t1) (O : Own W w.heap.size A xs) (B : Below w.heap.size w W)
    (h : ∀ W', Blk W' g1 cs1 t1 → Own W' w.heap.size A xs → Below w.heap.size w W' → bodyPost P f Q e a W') : bodyPost P f Q e a W := h W L1 O B
theorem low_one {x : Int} (h0 : 0 ≤ x) (h1 : x ≤ 255) : strOfNums [x] = lowB x 1 := by
  have h : lowL x 1 = [x] := by
    simp [lowL]
    omega
  unfold lowB
  rw [h]
theorem stalls_c (w : World) : Calls Tryz.prog 136 #[] w fun e w' => e = .returned (repV false true ⟨#[]⟩) ∧ Below w.heap.size w w' := by
  go_enter Tryz.func136, Tryz.ntmps136
  go_wp2
  exact bodyPost_ret (v := repV false true ⟨#[]⟩) (by simp [results, Tryz.results136, go_sem]) rfl ⟨rfl, zq1⟩
set_option maxRecDepth 100000 in
set_option maxHeartbeats 12800000 in
theorem anew_c (f : ByteArray) (d : DS) (cc v l : Int) (t : ByteArray) (A : Option Addr) (c n : Nat) (w : World) (hl : Row w A d.ops) (hn : d.ops.length = n) :
    Calls Tryz.prog 190 #[.agg #[.string f, .int .i64 d.st, .int .i64 d.su, .int .i64 d.nx, .int .i64 d.go, .int .i64 d.sl, .slice A n c, .int .i64 cc, .int .i64 v, .int .i64 l, .string t]] w (Dones w (DS.zero) (⟨#[]⟩)) := by
  obtain ⟨s, st, nx, g, sl, xs⟩ := d
  simp only at hl hn ⊢
  have HB := Below.refl w.heap.size w
  have K0 := Blk.new w #[.string f, .int .i64 s, .int .i64 st, .int .i64 nx, .int .i64 g, .int .i64 sl, .slice A n c, .int .i64 cc, .int .i64 v, .int .i64 l, .string t] 170
  have K1 := fun cs0 => Blk.new1 w (.cells cs0 170) #[.int .i64 0, .int .i64 0, .int .i64 0, .int .i64 0, .int .i64 0, .slice none 0 0, .string ⟨#[]⟩] 175
  go_enter Tryz.func190, Tryz.ntmps190
  go_wp2_with (first | (go_at_call 78; with_reducible refine (new_c _).mono ?_; rintro e w' ⟨rfl, hb⟩; have HB := bl_step (w := w) zq0 hb; have hzB := HB.size; have K0 := Blk.on zq3 zq46 hb; (try clear cK0_0 cK0_1 cK0_2 cK0_3 cK0_4 cK0_5 cK0_6 cK0_7 cK0_8 cK0_9 cK0_10 fK0 lK0 nK0 mK0); obtain ⟨cK0_0, cK0_1, cK0_2, cK0_3, cK0_4, cK0_5, cK0_6, cK0_7, cK0_8, cK0_9, cK0_10, fK0, lK0, nK0, mK0⟩ := Blk.all11 K0; have K1 := Blk.on zq6 zq8 hb; (try clear cK1_0 cK1_1 cK1_2 cK1_3 cK1_4 cK1_5 cK1_6 fK1 lK1 nK1 mK1); obtain ⟨cK1_0, cK1_1, cK1_2, cK1_3, cK1_4, cK1_5, cK1_6, fK1, lK1, nK1, mK1⟩ := Blk.all7 K1) | fail)
  refine body_gen7 (g1 := w.heap.size + 1) (cs1 := #[.int .i64 0, .int .i64 0, .int .i64 0, .int .i64 0, .int .i64 0, .slice none 0 0, .string ⟨#[]⟩]) (t1 := 175) (A := none) (xs := []) (w := w) zq51 Own.nil zq1 ?_; intro wf L1 HOf HBf; obtain ⟨e0, e1, e2, e3, e4, e5, e6, _⟩ := Blk.all7 L1; exact bodyPost_ret (v := .agg #[.int .i64 0, .int .i64 0, .int .i64 0, .int .i64 0, .int .i64 0, .slice none 0 0, .string ⟨#[]⟩]) (by simp [results, Tryz.results190, go_sem, e0, e1, e2, e3, e4, e5, e6]) rfl ⟨⟨none, 0, 0, rfl, rfl, HOf⟩, HBf⟩
set_option maxRecDepth 100000 in
set_option maxHeartbeats 12800000 in
theorem dnload_c (f : ByteArray) (d : DS) (cc v l : Int) (t : ByteArray) (A : Option Addr) (c n : Nat) (w : World) (hl : Row w A d.ops) (hn : d.ops.length = n) (hok : downOk f d v t = true) :
    Calls Tryz.prog 186 #[.agg #[.string f, .int .i64 d.st, .int .i64 d.su, .int .i64 d.nx, .int .i64 d.go, .int .i64 d.sl, .slice A n c, .int .i64 cc, .int .i64 v, .int .i64 l, .string t]] w (Dones w (downD f d v t) (⟨#[]⟩)) := by
  obtain ⟨s, st, nx, g, sl, xs⟩ := d
  simp only at hl hn ⊢
  have HB := Below.refl w.heap.size w
  have K0 := Blk.new w #[.string f, .int .i64 s, .int .i64 st, .int .i64 nx, .int .i64 g, .int .i64 sl, .slice A n c, .int .i64 cc, .int .i64 v, .int .i64 l, .string t] 170
  have K1 := fun cs0 => Blk.new1 w (.cells cs0 170) #[.int .i64 0, .int .i64 0, .int .i64 0, .int .i64 0, .int .i64 0, .slice none 0 0, .string ⟨#[]⟩] 175
  have tk := Lib.hid (fun W (h : Below w.heap.size w W) => take_c f ⟨s, st, nx, g, sl, xs⟩ v t A c n W (hl.below h) hn hok)
  clear hok hl hn
  generalize hD : downD f ⟨s, st, nx, g, sl, xs⟩ v t = D at *
  obtain ⟨ds, dst, dnx, dg, dsl, dx⟩ := D
  simp only [GivesE] at tk
  clear hD
  go_enter Tryz.func186, Tryz.ntmps186
  go_wp2_with (first | (go_at_call 74; (with_reducible refine (tk.out _ zq1).mono ?_); rintro e w7 ⟨⟨A7, n7, c7, rfl, h7, HO7⟩, hb⟩; have HO7 := (HO7.mono (base' := w.heap.size + 2) (by first | omega | (simp; done) | (simp; omega))).top; have hg7 : w.heap.size + 2 ≤ w7.heap.size := (by have := hb.size; first | omega | (simp at this; omega)); have HB := bl_step (w := w) zq0 hb; have hzB := HB.size; have K0 := Blk.on zq3 zq46 hb; (try clear cK0_0 cK0_1 cK0_2 cK0_3 cK0_4 cK0_5 cK0_6 cK0_7 cK0_8 cK0_9 cK0_10 fK0 lK0 nK0 mK0); obtain ⟨cK0_0, cK0_1, cK0_2, cK0_3, cK0_4, cK0_5, cK0_6, cK0_7, cK0_8, cK0_9, cK0_10, fK0, lK0, nK0, mK0⟩ := Blk.all11 K0; have K1 := Blk.on zq6 zq8 hb; (try clear cK1_0 cK1_1 cK1_2 cK1_3 cK1_4 cK1_5 cK1_6 fK1 lK1 nK1 mK1); obtain ⟨cK1_0, cK1_1, cK1_2, cK1_3, cK1_4, cK1_5, cK1_6, fK1, lK1, nK1, mK1⟩ := Blk.all7 K1; have K3 := fun cs => Blk.new w7 cs 28) | fail)
  refine body_gen7 (g1 := w.heap.size + 1) (cs1 := #[.int .i64 ds, .int .i64 dst, .int .i64 dnx, .int .i64 dg, .int .i64 dsl, .slice A7 n7 c7, .string ⟨#[]⟩]) (t1 := 175) (A := A7) (xs := dx) (w := w) zq51 zq54 zq1 ?_; intro wf L1 HOf HBf; obtain ⟨e0, e1, e2, e3, e4, e5, e6, _⟩ := Blk.all7 L1; exact bodyPost_ret (v := .agg #[.int .i64 ds, .int .i64 dst, .int .i64 dnx, .int .i64 dg, .int .i64 dsl, .slice A7 n7 c7, .string ⟨#[]⟩]) (by simp [results, Tryz.results186, go_sem, e0, e1, e2, e3, e4, e5, e6]) rfl ⟨⟨A7, n7, c7, rfl, h7, HOf⟩, HBf⟩
set_option maxRecDepth 100000 in
set_option maxHeartbeats 12800000 in
theorem upload_c (f : ByteArray) (d : DS) (cc v l : Int) (t : ByteArray) (A : Option Addr) (c n : Nat) (w : World) (hl : Row w A d.ops) (hn : d.ops.length = n) (hok : upOk f d v l = true) :
    Calls Tryz.prog 187 #[.agg #[.string f, .int .i64 d.st, .int .i64 d.su, .int .i64 d.nx, .int .i64 d.go, .int .i64 d.sl, .slice A n c, .int .i64 cc, .int .i64 v, .int .i64 l, .string t]] w (Dones w (upD f d v l) (upT f d v l)) := by
  obtain ⟨s, st, nx, g, sl, xs⟩ := d
  simp only at hl hn ⊢
  have HB := Below.refl w.heap.size w
  have K0 := Blk.new w #[.string f, .int .i64 s, .int .i64 st, .int .i64 nx, .int .i64 g, .int .i64 sl, .slice A n c, .int .i64 cc, .int .i64 v, .int .i64 l, .string t] 170
  have K1 := fun cs0 => Blk.new1 w (.cells cs0 170) #[.int .i64 0, .int .i64 0, .int .i64 0, .int .i64 0, .int .i64 0, .slice none 0 0, .string ⟨#[]⟩] 175
  have tk := Lib.hid (fun W (h : Below w.heap.size w W) => give_c f ⟨s, st, nx, g, sl, xs⟩ v l A c n W (hl.below h) hn hok)
  clear hok hl hn
  generalize hD : upD f ⟨s, st, nx, g, sl, xs⟩ v l = D at *
  obtain ⟨ds, dst, dnx, dg, dsl, dx⟩ := D
  generalize upT f ⟨s, st, nx, g, sl, xs⟩ v l = T at *
  simp only [GivesT] at tk
  clear hD
  go_enter Tryz.func187, Tryz.ntmps187
  go_wp2_with (first | (go_at_call 243; (with_reducible refine (tk.out _ zq1).mono ?_); rintro e w7 ⟨⟨A7, n7, c7, rfl, h7, HO7⟩, hb⟩; have HO7 := (HO7.mono (base' := w.heap.size + 2) (by first | omega | (simp; done) | (simp; omega))).top; have hg7 : w.heap.size + 2 ≤ w7.heap.size := (by have := hb.size; first | omega | (simp at this; omega)); have HB := bl_step (w := w) zq0 hb; have hzB := HB.size; have K0 := Blk.on zq3 zq46 hb; (try clear cK0_0 cK0_1 cK0_2 cK0_3 cK0_4 cK0_5 cK0_6 cK0_7 cK0_8 cK0_9 cK0_10 fK0 lK0 nK0 mK0); obtain ⟨cK0_0, cK0_1, cK0_2, cK0_3, cK0_4, cK0_5, cK0_6, cK0_7, cK0_8, cK0_9, cK0_10, fK0, lK0, nK0, mK0⟩ := Blk.all11 K0; have K1 := Blk.on zq6 zq8 hb; (try clear cK1_0 cK1_1 cK1_2 cK1_3 cK1_4 cK1_5 cK1_6 fK1 lK1 nK1 mK1); obtain ⟨cK1_0, cK1_1, cK1_2, cK1_3, cK1_4, cK1_5, cK1_6, fK1, lK1, nK1, mK1⟩ := Blk.all7 K1; have K3 := fun cs => Blk.new w7 cs 28) | fail)
  refine body_gen7 (g1 := w.heap.size + 1) (cs1 := #[.int .i64 ds, .int .i64 dst, .int .i64 dnx, .int .i64 dg, .int .i64 dsl, .slice A7 n7 c7, .string T]) (t1 := 175) (A := A7) (xs := dx) (w := w) zq51 zq54 zq1 ?_; intro wf L1 HOf HBf; obtain ⟨e0, e1, e2, e3, e4, e5, e6, _⟩ := Blk.all7 L1; exact bodyPost_ret (v := .agg #[.int .i64 ds, .int .i64 dst, .int .i64 dnx, .int .i64 dg, .int .i64 dsl, .slice A7 n7 c7, .string T]) (by simp [results, Tryz.results187, go_sem, e0, e1, e2, e3, e4, e5, e6]) rfl ⟨⟨A7, n7, c7, rfl, h7, HOf⟩, HBf⟩
set_option maxRecDepth 100000 in
set_option maxHeartbeats 12800000 in
theorem getstatus_c (f : ByteArray) (d : DS) (cc v l : Int) (t : ByteArray) (A : Option Addr) (c n : Nat) (w : World) (hl : Row w A d.ops) (hn : d.ops.length = n) (hok : bothB f d = true) :
    Calls Tryz.prog 188 #[.agg #[.string f, .int .i64 d.st, .int .i64 d.su, .int .i64 d.nx, .int .i64 d.go, .int .i64 d.sl, .slice A n c, .int .i64 cc, .int .i64 v, .int .i64 l, .string t]] w (Dones w (statD f d) (tellB (statD f d))) := by
  obtain ⟨s, st, nx, g, sl, xs⟩ := d
  simp only at hl hn ⊢
  have HB := Below.refl w.heap.size w
  have K0 := Blk.new w #[.string f, .int .i64 s, .int .i64 st, .int .i64 nx, .int .i64 g, .int .i64 sl, .slice A n c, .int .i64 cc, .int .i64 v, .int .i64 l, .string t] 170
  have K1 := fun cs0 => Blk.new1 w (.cells cs0 170) #[.int .i64 0, .int .i64 0, .int .i64 0, .int .i64 0, .int .i64 0, .slice none 0 0, .string ⟨#[]⟩] 175
  have tk := Lib.hid (fun W (h : Below w.heap.size w W) => get_c f ⟨s, st, nx, g, sl, xs⟩ A c n W (by have := (both_parts hok).1; omega) (hl.below h) hn)
  rw [(get_yes hok).1, (get_yes hok).2] at tk
  have hDm := may_stat (f := f) (both_parts hok).2
  clear hok hl hn
  generalize hD : statD f ⟨s, st, nx, g, sl, xs⟩ = D at *
  obtain ⟨ds, dst, dnx, dg, dsl, dx⟩ := D
  simp only [Tells] at tk
  obtain ⟨q1, q2, _⟩ := may_nums hDm
  simp only at q1 q2
  have hA := Lib.hid (fun (m : Nat) => show An.ansMay dst (min (m : Int) 255) ds = true from (by simp [An.ansMay, rngB]; omega))
  have pa := Lib.hid (fun (m : Nat) (W : World) => An.put_c dst (min (m : Int) 255) ds W)
  have hT := Lib.hid (fun (m : Nat) (h : dx.length = m) => show tellB ⟨ds, dst, dnx, dg, dsl, dx⟩ = An.putB dst (min (m : Int) 255) ds by unfold tellB; rw [h])
  clear hD hDm
  go_enter Tryz.func188, Tryz.ntmps188
  go_wp2_with (first | (go_at_call 71; (with_reducible refine (tk.out _ zq1).mono ?_); rintro e w7 ⟨⟨A7, n7, c7, rfl, h7, HO7⟩, hb⟩; have HO7 := (HO7.mono (base' := w.heap.size + 2) (by first | omega | (simp; done) | (simp; omega))).top; have hg7 : w.heap.size + 2 ≤ w7.heap.size := (by have := hb.size; first | omega | (simp at this; omega)); have HB := bl_step (w := w) zq0 hb; have hzB := HB.size; have K0 := Blk.on zq3 zq46 hb; (try clear cK0_0 cK0_1 cK0_2 cK0_3 cK0_4 cK0_5 cK0_6 cK0_7 cK0_8 cK0_9 cK0_10 fK0 lK0 nK0 mK0); obtain ⟨cK0_0, cK0_1, cK0_2, cK0_3, cK0_4, cK0_5, cK0_6, cK0_7, cK0_8, cK0_9, cK0_10, fK0, lK0, nK0, mK0⟩ := Blk.all11 K0; have K1 := Blk.on zq6 zq8 hb; (try clear cK1_0 cK1_1 cK1_2 cK1_3 cK1_4 cK1_5 cK1_6 fK1 lK1 nK1 mK1); obtain ⟨cK1_0, cK1_1, cK1_2, cK1_3, cK1_4, cK1_5, cK1_6, fK1, lK1, nK1, mK1⟩ := Blk.all7 K1; have K3 := fun cs => Blk.new w7 cs 28; have K4 := fun cs0 cs => Blk.new1 w7 (.cells cs0 28) cs 111; have pa := Lib.hid (pa.out n7); have hT := Lib.hid (hT.out n7 h7); have hpe : An.putE dst (min (n7 : Int) 255) ds = 0 := (by unfold An.putE; rw [hA.out n7]; rfl); generalize hmn : min (n7 : Int) 255 = mn at *) | (go_at_call 244; (with_reducible refine (pa.out _).mono ?_); rintro e w8 ⟨rfl, hb⟩; have HO7 := OwnT.below (base := w.heap.size + 2) (top := w7.heap.size) (A := A7) (xs := dx) (by repeat (with_reducible first | exact HO7 | (refine OwnT.set ?_ (by dsimp only; omega) _) | (refine OwnT.alloc ?_ _) | (refine OwnT.drewn ?_) | fail)) hb; have HB := bl_step (w := w) zq0 hb; have hzB := HB.size; have K0 := Blk.on zq3 zq46 hb; (try clear cK0_0 cK0_1 cK0_2 cK0_3 cK0_4 cK0_5 cK0_6 cK0_7 cK0_8 cK0_9 cK0_10 fK0 lK0 nK0 mK0); obtain ⟨cK0_0, cK0_1, cK0_2, cK0_3, cK0_4, cK0_5, cK0_6, cK0_7, cK0_8, cK0_9, cK0_10, fK0, lK0, nK0, mK0⟩ := Blk.all11 K0; have K1 := Blk.on zq6 zq8 hb; (try clear cK1_0 cK1_1 cK1_2 cK1_3 cK1_4 cK1_5 cK1_6 fK1 lK1 nK1 mK1); obtain ⟨cK1_0, cK1_1, cK1_2, cK1_3, cK1_4, cK1_5, cK1_6, fK1, lK1, nK1, mK1⟩ := Blk.all7 K1; have K3 := Blk.on zq26 zq34 hb; (try clear cK3_0 cK3_1 cK3_2 cK3_3 cK3_4 cK3_5 fK3 lK3 nK3 mK3); obtain ⟨cK3_0, cK3_1, cK3_2, cK3_3, cK3_4, cK3_5, fK3, lK3, nK3, mK3⟩ := Blk.all6 K3; have K4 := Blk.on zq38 zq35 hb; (try clear cK4_0 cK4_1 cK4_2 fK4 lK4 nK4 mK4); obtain ⟨cK4_0, cK4_1, cK4_2, fK4, lK4, nK4, mK4⟩ := Blk.all3 K4) | fail)
  rw [hT.out]
  refine body_gen7 (g1 := w.heap.size + 1) (cs1 := #[.int .i64 ds, .int .i64 dst, .int .i64 dnx, .int .i64 dg, .int .i64 dsl, .slice A7 n7 c7, .string (An.putB dst mn ds)]) (t1 := 175) (A := A7) (xs := dx) (w := w) zq51 zq54 zq1 ?_; intro wf L1 HOf HBf; obtain ⟨e0, e1, e2, e3, e4, e5, e6, _⟩ := Blk.all7 L1; exact bodyPost_ret (v := .agg #[.int .i64 ds, .int .i64 dst, .int .i64 dnx, .int .i64 dg, .int .i64 dsl, .slice A7 n7 c7, .string (An.putB dst mn ds)]) (by simp [results, Tryz.results188, go_sem, e0, e1, e2, e3, e4, e5, e6]) rfl ⟨⟨A7, n7, c7, rfl, h7, HOf⟩, HBf⟩
set_option maxRecDepth 100000 in
set_option maxHeartbeats 12800000 in
theorem getstate_c (f : ByteArray) (d : DS) (cc v l : Int) (t : ByteArray) (A : Option Addr) (c n : Nat) (w : World) (hl : Row w A d.ops) (hn : d.ops.length = n) (hok : bothB f d = true) :
    Calls Tryz.prog 189 #[.agg #[.string f, .int .i64 d.st, .int .i64 d.su, .int .i64 d.nx, .int .i64 d.go, .int .i64 d.sl, .slice A n c, .int .i64 cc, .int .i64 v, .int .i64 l, .string t]] w (Dones w (d) (lowB d.st 1)) := by
  obtain ⟨s, st, nx, g, sl, xs⟩ := d
  simp only at hl hn ⊢
  have HB := Below.refl w.heap.size w
  have K0 := Blk.new w #[.string f, .int .i64 s, .int .i64 st, .int .i64 nx, .int .i64 g, .int .i64 sl, .slice A n c, .int .i64 cc, .int .i64 v, .int .i64 l, .string t] 170
  have K1 := fun cs0 => Blk.new1 w (.cells cs0 170) #[.int .i64 0, .int .i64 0, .int .i64 0, .int .i64 0, .int .i64 0, .slice none 0 0, .string ⟨#[]⟩] 175
  obtain ⟨q1, q2, q3, q4, q5⟩ := may_nums (both_parts hok).2
  have hlen := may_len (both_parts hok).2
  simp only at q1 hlen
  have cp := Lib.hid (fun W (h : Below w.heap.size w W) => dcopy_c ⟨s, st, nx, g, sl, xs⟩ A c n W (hl.below h) hn (by omega))
  simp only at cp
  have HN := Lib.hid hn
  have hcv := fun (W : World) (x : Int) => own_str (P := Tryz.prog) (xs := [x]) Tryz.underlying59 Tryz.underlying5 Tryz.underlying9 (World.ownsRow_lit (base := W.heap.size) (e := 5) (size := 1) W #[.int .u8 x] 1 (Nat.le_refl _) (by decide) rfl)
  have hu : IntKind.u8.wrap s = s := by simp only [IntKind.wrap_u8]; omega
  have hS : strOfNums [s] = lowB s 1 := low_one q1.1 (by omega)
  clear hok hl hn q2 q3 q4 q5
  go_enter Tryz.func189, Tryz.ntmps189
  go_upto_region 1 with fail
  have L0 : Blk ((w.alloc (.cells #[.string f, .int .i64 s, .int .i64 st, .int .i64 nx, .int .i64 g, .int .i64 sl, .slice A n c, .int .i64 cc, .int .i64 v, .int .i64 l, .string t] 170)).alloc (.cells #[.int .i64 0, .int .i64 0, .int .i64 0, .int .i64 0, .int .i64 0, .slice none 0 0, .string ⟨#[]⟩] 175)) w.heap.size #[.string f, .int .i64 s, .int .i64 st, .int .i64 nx, .int .i64 g, .int .i64 sl, .slice A n c, .int .i64 cc, .int .i64 v, .int .i64 l, .string t] 170 := by repeat (with_reducible first | exact K0 | apply Blk.alloc | fail)
  have L1 : Blk ((w.alloc (.cells #[.string f, .int .i64 s, .int .i64 st, .int .i64 nx, .int .i64 g, .int .i64 sl, .slice A n c, .int .i64 cc, .int .i64 v, .int .i64 l, .string t] 170)).alloc (.cells #[.int .i64 0, .int .i64 0, .int .i64 0, .int .i64 0, .int .i64 0, .slice none 0 0, .string ⟨#[]⟩] 175)) (w.heap.size + 1) #[.int .i64 0, .int .i64 0, .int .i64 0, .int .i64 0, .int .i64 0, .slice none 0 0, .string ⟨#[]⟩] 175 := K1 _
  have HBz : Below w.heap.size w ((w.alloc (.cells #[.string f, .int .i64 s, .int .i64 st, .int .i64 nx, .int .i64 g, .int .i64 sl, .slice A n c, .int .i64 cc, .int .i64 v, .int .i64 l, .string t] 170)).alloc (.cells #[.int .i64 0, .int .i64 0, .int .i64 0, .int .i64 0, .int .i64 0, .slice none 0 0, .string ⟨#[]⟩] 175)) := zq1
  have hz : w.heap.size + 2 ≤ ((w.alloc (.cells #[.string f, .int .i64 s, .int .i64 st, .int .i64 nx, .int .i64 g, .int .i64 sl, .slice A n c, .int .i64 cc, .int .i64 v, .int .i64 l, .string t] 170)).alloc (.cells #[.int .i64 0, .int .i64 0, .int .i64 0, .int .i64 0, .int .i64 0, .slice none 0 0, .string ⟨#[]⟩] 175)).heap.size := (by simp)
  clear HB K0 K1
  generalize (w.alloc (.cells #[.string f, .int .i64 s, .int .i64 st, .int .i64 nx, .int .i64 g, .int .i64 sl, .slice A n c, .int .i64 cc, .int .i64 v, .int .i64 l, .string t] 170)).alloc (.cells #[.int .i64 0, .int .i64 0, .int .i64 0, .int .i64 0, .int .i64 0, .slice none 0 0, .string ⟨#[]⟩] 175) = wz at *
  have HB := HBz
  have K0 := L0
  have K1 := L1
  obtain ⟨cK0_0, cK0_1, cK0_2, cK0_3, cK0_4, cK0_5, cK0_6, cK0_7, cK0_8, cK0_9, cK0_10, fK0, lK0, nK0, mK0⟩ := Blk.all11 K0
  obtain ⟨cK1_0, cK1_1, cK1_2, cK1_3, cK1_4, cK1_5, cK1_6, fK1, lK1, nK1, mK1⟩ := Blk.all7 K1
  clear L0 L1 HBz
  have e0 : (Go.convert 59 9 (.slice (some ⟨wz.heap.size, 0, none⟩) 1 1)).run Tryz.prog (wz.alloc (.cells #[.int .u8 s] 5)).drew = .ok (.string (strOfNums [s])) (wz.alloc (.cells #[.int .u8 s] 5)).drew := own_str (P := Tryz.prog) (xs := [s]) Tryz.underlying59 Tryz.underlying5 Tryz.underlying9 (World.ownsRow.drew (World.ownsRow_lit (base := wz.heap.size) (e := 5) (size := 1) wz #[.int .u8 s] 1 (Nat.le_refl _) (by decide) rfl))
  go_region_law (first | (go_simp; (go_at_call 85; (with_reducible refine (cp.out _ zq1).mono ?_); rintro e w7 ⟨⟨A7, c7, rfl, HO7⟩, hb⟩; have HO7 := (HO7.mono (base' := w.heap.size + 2) (by first | exact hz | omega | (simp; done) | (simp; omega))).top; have hg7 : w.heap.size + 2 ≤ w7.heap.size := Nat.le_trans hz (Nat.le_trans (by first | exact Nat.le_refl _ | (simp; done)) hb.size); (try (have e7 : (Go.convert 59 9 (.slice (some ⟨wz.heap.size, 0, none⟩) 1 1)).run Tryz.prog w7 = .ok (.string (strOfNums [s])) w7 := own_str (P := Tryz.prog) (xs := [s]) Tryz.underlying59 Tryz.underlying5 Tryz.underlying9 (own_below (w := (wz.alloc (.cells #[.int .u8 s] 5)).drew) (World.ownsRow.drew (World.ownsRow_lit (base := wz.heap.size) (e := 5) (size := 1) wz #[.int .u8 s] 1 (Nat.le_refl _) (by decide) rfl)) hb))); have HB := bl_step (w := w) zq0 hb; have hzB := HB.size; have K0 := Blk.on zq3 zq46 hb; (try clear cK0_0 cK0_1 cK0_2 cK0_3 cK0_4 cK0_5 cK0_6 cK0_7 cK0_8 cK0_9 cK0_10 fK0 lK0 nK0 mK0); obtain ⟨cK0_0, cK0_1, cK0_2, cK0_3, cK0_4, cK0_5, cK0_6, cK0_7, cK0_8, cK0_9, cK0_10, fK0, lK0, nK0, mK0⟩ := Blk.all11 K0; have K1 := Blk.on zq6 zq8 hb; (try clear cK1_0 cK1_1 cK1_2 cK1_3 cK1_4 cK1_5 cK1_6 fK1 lK1 nK1 mK1); obtain ⟨cK1_0, cK1_1, cK1_2, cK1_3, cK1_4, cK1_5, cK1_6, fK1, lK1, nK1, mK1⟩ := Blk.all7 K1)) | fail)
  all_goals (go_wp2_with fail; refine body_gen7 (g1 := w.heap.size + 1) (cs1 := #[.int .i64 s, .int .i64 st, .int .i64 nx, .int .i64 g, .int .i64 sl, .slice A7 n c7, .string (lowB s 1)]) (t1 := 175) (A := A7) (xs := xs) (w := w) zq51 zq54 zq1 ?_; intro wf L1 HOf HBf; obtain ⟨e0, e1, e2, e3, e4, e5, e6, _⟩ := Blk.all7 L1; exact bodyPost_ret (v := .agg #[.int .i64 s, .int .i64 st, .int .i64 nx, .int .i64 g, .int .i64 sl, .slice A7 n c7, .string (lowB s 1)]) (by simp [results, Tryz.results189, go_sem, e0, e1, e2, e3, e4, e5, e6]) rfl ⟨⟨A7, n, c7, rfl, HN.out, HOf⟩, HBf⟩)
end Go.Proofs.YtccblleobcidfaaGreat.Dv
