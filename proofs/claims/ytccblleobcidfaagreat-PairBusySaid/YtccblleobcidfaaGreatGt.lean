/- Texts laid as one: Gta Gtk Hda. -/
import Derived.Test.YtccblleobcidfaaGreatDcb
import Derived.Test.YtccblleobcidfaaGreatSga
import Derived.Test.YtccblleobcidfaaGreatGf
import Derived.RegionTactic
import Derived.BigRegion
import Derived.Lib.MinMax
import Derived.Deep.RegionHeld3
import Derived.Test.YtccblleobcidfaaGreatGd
/- Layer 19: asking: what the program's Get and the references' Status answer. -/
section
namespace Go.Proofs.YtccblleobcidfaaGreat.Dv
open Go.RowKit Go.Proofs.YtccblleobcidfaaGreat.Kt Go.Proofs.YtccblleobcidfaaGreat.Lw Go.Proofs.YtccblleobcidfaaGreat.St Go.Proofs.YtccblleobcidfaaGreat.Nm Go.Proofs.YtccblleobcidfaaGreat.Es Go.Proofs.YtccblleobcidfaaGreat.By Go.Proofs.YtccblleobcidfaaGreat.En Go.Proofs.YtccblleobcidfaaGreat.Jr Go.Proofs.YtccblleobcidfaaGreat.Im Go.Proofs.YtccblleobcidfaaGreat.Sl Go.Proofs.YtccblleobcidfaaGreat.Gr Go.Proofs.YtccblleobcidfaaGreat.Ops Go.Proofs.YtccblleobcidfaaGreat.Ch Go.Proofs.YtccblleobcidfaaGreat.Fl Go.Proofs.YtccblleobcidfaaGreat.Pl
set_option linter.unusedVariables false
set_option linter.unusedSimpArgs false
attribute [local irreducible] gotB goodB Cr.crcB nQ nS nZ nM placeB wholeB devMay
/-- the next record's numbers. -/
def newQ (f : ByteArray) : Int := maxL (scanL f) + 1
def newM (f : ByteArray) (s z : Int) : Int := Cr.crcB (imgB f s z)
/-- the steps that commit a device's image. -/
def commitL (f : ByteArray) (d : DS) : List OpV := appL f (newQ f) d.sl d.go (newM f d.sl d.go)
def commitD (f : ByteArray) (d : DS) : DS := if recE f d.sl d.go = 0 then ⟨5, d.su, d.nx, d.go, d.sl, commitL f d⟩ else DS.fail 3
def statD (f : ByteArray) (d : DS) : DS := if d.st = 1 then ⟨if d.ops = [] then 3 else 2, d.su, d.nx, d.go, d.sl, d.ops⟩ else if d.st = 4 then commitD f d else d
def bothB (f : ByteArray) (d : DS) : Bool := decide (f.size = 768) && d.may
def getD (f : ByteArray) (d : DS) : DS := if bothB f d = true then statD f d else DS.zero
def getE (f : ByteArray) (d : DS) : Int := if bothB f d = true then 0 else 1900
theorem get_no {f : ByteArray} {d : DS} (h : bothB f d = false) : getD f d = DS.zero ∧ getE f d = 1900 := by simp [getD, getE, h]
theorem get_yes {f : ByteArray} {d : DS} (h : bothB f d = true) : getD f d = statD f d ∧ getE f d = 0 := by simp [getD, getE, h]
theorem both_parts {f : ByteArray} {d : DS} (h : bothB f d = true) : f.size = 768 ∧ d.may = true := by simpa [bothB] using h
theorem both_not {f : ByteArray} {d : DS} (h : bothB f d = false) (hf : f.size = 768) : d.may = false := by simpa [bothB, hf] using h
set_option maxRecDepth 100000 in
set_option maxHeartbeats 1600000 in
theorem both_c (f : ByteArray) (d : DS) (A : Option Addr) (c n : Nat) (w : World) (h : f.size ≤ 9223372036854775807) (hl : Row w A d.ops) (hn : d.ops.length = n) :
    Calls Tryz.prog 106 #[.string f, (.agg #[.int .i64 d.st, .int .i64 d.su, .int .i64 d.nx, .int .i64 d.go, .int .i64 d.sl, .slice A n c])] w fun e w' => e = .returned (.bool (bothB f d)) ∧ Below w.heap.size w w' := by
  obtain ⟨s, st, nx, g, sl, xs⟩ := d
  simp only at hl hn ⊢
  have HB := Below.refl w.heap.size w
  have K0 := Blk.new w #[.int .i64 s, .int .i64 st, .int .i64 nx, .int .i64 g, .int .i64 sl, .slice A n c] 28
  have mm := Lib.hid (fun W : World => rmay_c f W h)
  have dm := Lib.hid (fun W (h : Below w.heap.size w W) => rdevMay_c s st nx g sl A c n xs W (hl.below h) hn)
  have hv := Lib.hid (show bothB f ⟨s, st, nx, g, sl, xs⟩ = (decide (f.size = 768) && devMay s st nx g sl xs) from rfl)
  clear hl
  by_cases hf : f.size = 768
  · rw [decide_eq_true hf] at mm hv
    clear hf
    go_enter Tryz.func106, Tryz.ntmps106
    go_wp2_with (first | (go_at_call 102; with_reducible refine (mm.out _).mono ?_; rintro e w' ⟨rfl, rfl⟩) | (go_at_call 178; with_reducible refine (dm.out _ zq1).mono ?_; rintro e w' ⟨rfl, hb⟩; have HB := bl_step (w := w) zq0 hb; have hzB := HB.size; have K0 := Blk.on zq3 zq5 hb; (try clear cK0_0 cK0_1 cK0_2 cK0_3 cK0_4 cK0_5 fK0 lK0 nK0 mK0); obtain ⟨cK0_0, cK0_1, cK0_2, cK0_3, cK0_4, cK0_5, fK0, lK0, nK0, mK0⟩ := Blk.all6 K0) | fail)
    go_ret
    exact ⟨Ops.retB (by rw [hv.out, Bool.true_and]), HB⟩
  · rw [decide_eq_false hf] at mm hv
    clear hf
    go_enter Tryz.func106, Tryz.ntmps106
    go_wp2_with (first | (go_at_call 102; with_reducible refine (mm.out _).mono ?_; rintro e w' ⟨rfl, rfl⟩) | (go_at_call 178; with_reducible refine (dm.out _ zq1).mono ?_; rintro e w' ⟨rfl, hb⟩; have HB := bl_step (w := w) zq0 hb; have hzB := HB.size; have K0 := Blk.on zq3 zq5 hb; (try clear cK0_0 cK0_1 cK0_2 cK0_3 cK0_4 cK0_5 fK0 lK0 nK0 mK0); obtain ⟨cK0_0, cK0_1, cK0_2, cK0_3, cK0_4, cK0_5, fK0, lK0, nK0, mK0⟩ := Blk.all6 K0) | fail)
    go_ret
    exact ⟨Ops.retB (by rw [hv.out, Bool.false_and]), zq1⟩
/-- a device that a call gives, its steps in memory of the call's own. -/
def Gives (w : World) (d : DS) (e : Ending) (w' : World) : Prop := (∃ A n c, e = .returned (.agg #[.int .i64 d.st, .int .i64 d.su, .int .i64 d.nx, .int .i64 d.go, .int .i64 d.sl, .slice A n c]) ∧ d.ops.length = n ∧ Own w' w.heap.size A d.ops) ∧ Below w.heap.size w w'
set_option maxRecDepth 100000 in
set_option maxHeartbeats 6400000 in
theorem commit_c (f : ByteArray) (d : DS) (A : Option Addr) (c n : Nat) (w : World) (hf : f.size = 768) : Calls Tryz.prog 138 #[.string f, (.agg #[.int .i64 d.st, .int .i64 d.su, .int .i64 d.nx, .int .i64 d.go, .int .i64 d.sl, .slice A n c])] w (Gives w (commitD f d)) := by
  obtain ⟨s, st, nx, g, sl, xs⟩ := d
  simp only
  have HB := Below.refl w.heap.size w
  have K0 := Blk.new w #[.int .i64 s, .int .i64 st, .int .i64 nx, .int .i64 g, .int .i64 sl, .slice A n c] 28
  have K1 := fun cs0 => Blk.new1 w (.cells cs0 28) #[.int .i64 0, .int .i64 0, .int .i64 0, .int .i64 0, .int .i64 0, .slice none 0 0] 28
  have rc := Lib.hid (fun W : World => srec_c f sl g W (by omega))
  rcases rec_e f sl g with hr | hr
  · obtain ⟨_, hv, hm, _⟩ := rec_yes hr
    have hv : recV f sl g = #[.int .i64 (newQ f), .int .i64 sl, .int .i64 g, .int .i64 (newM f sl g)] := hv
    have hm : recMay (newQ f) sl g (newM f sl g) = true := hm
    rw [hv, hr] at rc
    have hD : commitD f ⟨s, st, nx, g, sl, xs⟩ = ⟨5, st, nx, g, sl, appL f (newQ f) sl g (newM f sl g)⟩ := by simp [commitD, commitL, hr]
    rw [hD]
    have ap := Lib.hid (fun W : World => append_yes f (newQ f) sl g (newM f sl g) W hf hm)
    have ML := Lib.hid (app_may f (newQ f) sl g (newM f sl g))
    have hl2 := app_len f (newQ f) sl g (newM f sl g)
    unfold appY at ap
    generalize newQ f = Q at *
    generalize newM f sl g = M at *
    generalize appL f Q sl g M = OL at *
    obtain ⟨p, hp⟩ : ∃ p, OL.length = p := ⟨_, rfl⟩
    rw [hp] at ap hl2
    have HP := Lib.hid hp
    clear hv hm hr hD hp hf
    go_enter Tryz.func138, Tryz.ntmps138
    go_wp2_with (first | (go_at_call 191; with_reducible refine (rc.out _).mono ?_; rintro e w1 ⟨rfl, hb⟩; have HB := bl_step (w := w) zq0 hb; have hzB := HB.size; have K0 := Blk.on zq3 zq5 hb; (try clear cK0_0 cK0_1 cK0_2 cK0_3 cK0_4 cK0_5 fK0 lK0 nK0 mK0); obtain ⟨cK0_0, cK0_1, cK0_2, cK0_3, cK0_4, cK0_5, fK0, lK0, nK0, mK0⟩ := Blk.all6 K0; have K1 := Blk.on zq6 zq12 hb; (try clear cK1_0 cK1_1 cK1_2 cK1_3 cK1_4 cK1_5 fK1 lK1 nK1 mK1); obtain ⟨cK1_0, cK1_1, cK1_2, cK1_3, cK1_4, cK1_5, fK1, lK1, nK1, mK1⟩ := Blk.all6 K1; have K2 := fun cs => Blk.new w1 cs 67) | (go_at_call 192; (with_reducible refine (ap.out _).mono ?_); rintro e w2 ⟨A', c', rfl, hown, hb⟩; have HO := (own_of hown HP.out (by omega) (fun o ho => (ML.out o ho).2)).mono (base' := w.heap.size + 2) (by simp; omega); have HB := bl_step (w := w) zq0 hb; have hzB := HB.size; have K0 := Blk.on zq3 zq5 hb; (try clear cK0_0 cK0_1 cK0_2 cK0_3 cK0_4 cK0_5 fK0 lK0 nK0 mK0); obtain ⟨cK0_0, cK0_1, cK0_2, cK0_3, cK0_4, cK0_5, fK0, lK0, nK0, mK0⟩ := Blk.all6 K0; have K1 := Blk.on zq6 zq12 hb; (try clear cK1_0 cK1_1 cK1_2 cK1_3 cK1_4 cK1_5 fK1 lK1 nK1 mK1); obtain ⟨cK1_0, cK1_1, cK1_2, cK1_3, cK1_4, cK1_5, fK1, lK1, nK1, mK1⟩ := Blk.all6 K1) | fail)
    exact bodyPost_ret (v := .agg #[.int .i64 5, .int .i64 st, .int .i64 nx, .int .i64 g, .int .i64 sl, .slice A' p c']) (by simp [results, Tryz.results138, go_sem, *]) rfl ⟨⟨A', p, c', rfl, HP.out, (by (refine Own.mono (base := w.heap.size + 2) ?_ (by omega)); (repeat (with_reducible refine Own.set ?_ (by dsimp only; omega) _)); (first | exact HO | (refine Own.below HO ?_; repeat (with_reducible first | exact Below.refl _ _ | assumption | (refine bl_set ?_ (by omega)) | apply bl_alloc | apply bl_drewN | apply bl_drew | (refine bl_step ?_ (by assumption)) | fail))))⟩, zq1⟩
  · have hD : commitD f ⟨s, st, nx, g, sl, xs⟩ = DS.fail 3 := by
      have : ¬ recE f sl g = 0 := by omega
      simp [commitD, this]
    rw [hD]
    obtain ⟨a, b, c', d, hv⟩ := rec_four f sl g
    rw [hv] at rc
    clear hv hD hf
    rcases hr with hr | hr
    all_goals (rw [hr] at rc; clear hr; go_enter Tryz.func138, Tryz.ntmps138; go_wp2_with (first | (go_at_call 191; with_reducible refine (rc.out _).mono ?_; rintro e w1 ⟨rfl, hb⟩; have HB := bl_step (w := w) zq0 hb; have hzB := HB.size; have K0 := Blk.on zq3 zq5 hb; (try clear cK0_0 cK0_1 cK0_2 cK0_3 cK0_4 cK0_5 fK0 lK0 nK0 mK0); obtain ⟨cK0_0, cK0_1, cK0_2, cK0_3, cK0_4, cK0_5, fK0, lK0, nK0, mK0⟩ := Blk.all6 K0; have K1 := Blk.on zq6 zq12 hb; (try clear cK1_0 cK1_1 cK1_2 cK1_3 cK1_4 cK1_5 fK1 lK1 nK1 mK1); obtain ⟨cK1_0, cK1_1, cK1_2, cK1_3, cK1_4, cK1_5, fK1, lK1, nK1, mK1⟩ := Blk.all6 K1; have K2 := fun cs => Blk.new w1 cs 67) | (go_at_call 135; with_reducible refine (failed_c 3 _).mono ?_; rintro e w' ⟨rfl, hb⟩; have HB := bl_step (w := w) zq0 hb; have hzB := HB.size; have K0 := Blk.on zq3 zq5 hb; (try clear cK0_0 cK0_1 cK0_2 cK0_3 cK0_4 cK0_5 fK0 lK0 nK0 mK0); obtain ⟨cK0_0, cK0_1, cK0_2, cK0_3, cK0_4, cK0_5, fK0, lK0, nK0, mK0⟩ := Blk.all6 K0; have K1 := Blk.on zq6 zq12 hb; (try clear cK1_0 cK1_1 cK1_2 cK1_3 cK1_4 cK1_5 fK1 lK1 nK1 mK1); obtain ⟨cK1_0, cK1_1, cK1_2, cK1_3, cK1_4, cK1_5, fK1, lK1, nK1, mK1⟩ := Blk.all6 K1) | fail); exact bodyPost_ret (v := .agg #[.int .i64 7, .int .i64 3, .int .i64 0, .int .i64 0, .int .i64 0, .slice none 0 0]) (by simp [results, Tryz.results138, go_sem, *]) rfl ⟨⟨none, 0, 0, rfl, rfl, Own.nil⟩, zq1⟩)
/-- a device, an answer, an error that a call gives. -/
def Tells (w : World) (d : DS) (E : Int) (e : Ending) (w' : World) : Prop :=
  (∃ A n c, e = .returned (.tuple #[(.agg #[.int .i64 d.st, .int .i64 d.su, .int .i64 d.nx, .int .i64 d.go, .int .i64 d.sl, .slice A n c]), .agg #[.int .i64 d.su, .int .i64 (min (n : Int) 255), .int .i64 d.st], .int .i64 E]) ∧ d.ops.length = n ∧ Own w' w.heap.size A d.ops) ∧ Below w.heap.size w w'
end Go.Proofs.YtccblleobcidfaaGreat.Dv
end
/- Regions that draw their order and end in two stores: what they leave. -/
section
namespace Go.Proofs.YtccblleobcidfaaGreat.Dv
open Go.RowKit Go.Proofs.YtccblleobcidfaaGreat.Kt Go.Proofs.YtccblleobcidfaaGreat.Lw Go.Proofs.YtccblleobcidfaaGreat.St Go.Proofs.YtccblleobcidfaaGreat.Nm Go.Proofs.YtccblleobcidfaaGreat.Es Go.Proofs.YtccblleobcidfaaGreat.By Go.Proofs.YtccblleobcidfaaGreat.En Go.Proofs.YtccblleobcidfaaGreat.Jr Go.Proofs.YtccblleobcidfaaGreat.Im Go.Proofs.YtccblleobcidfaaGreat.Sl Go.Proofs.YtccblleobcidfaaGreat.Gr Go.Proofs.YtccblleobcidfaaGreat.Ops Go.Proofs.YtccblleobcidfaaGreat.Ch Go.Proofs.YtccblleobcidfaaGreat.Fl Go.Proofs.YtccblleobcidfaaGreat.Pl
set_option linter.unusedVariables false
set_option linter.unusedSimpArgs false
/-- the cells of a block behind a store elsewhere. -/
theorem far6 {W X : World} {b j : Nat} {v v0 v1 v2 v3 v4 v5 : Value} {g : Nat} (hX : X = W.setCell ⟨b, j, none⟩ v) (hp : g ≠ b) (h : W.cell? ⟨g, 0, none⟩ = some (v0) ∧ W.cell? ⟨g, 1, none⟩ = some (v1) ∧ W.cell? ⟨g, 2, none⟩ = some (v2) ∧ W.cell? ⟨g, 3, none⟩ = some (v3) ∧ W.cell? ⟨g, 4, none⟩ = some (v4) ∧ W.cell? ⟨g, 5, none⟩ = some (v5)) : X.cell? ⟨g, 0, none⟩ = some (v0) ∧ X.cell? ⟨g, 1, none⟩ = some (v1) ∧ X.cell? ⟨g, 2, none⟩ = some (v2) ∧ X.cell? ⟨g, 3, none⟩ = some (v3) ∧ X.cell? ⟨g, 4, none⟩ = some (v4) ∧ X.cell? ⟨g, 5, none⟩ = some (v5) := by
  subst hX
  have e : ∀ i, (W.setCell ⟨b, j, none⟩ v).cell? ⟨g, i, none⟩ = W.cell? ⟨g, i, none⟩ := fun i => World.cell?_of_block (a := ⟨g, i, none⟩) (Below.heap_setCell W ⟨b, j, none⟩ v g hp)
  simp only [e]
  exact h
theorem Own.drew {w : World} {base : Nat} {A : Option Addr} {xs : List OpV} (h : Own w base A xs) : Own w.drew base A xs := h
theorem body_gen {P : Program} {f : Func} {Q : Ending → World → Prop} {e : Exit} {a : Act} {w W : World} {g1 g2 b : Nat} {cs1 cs2 : Array Value} {t1 t2 : TypeId} {A : Option Addr} {xs : List OpV} (L1 : Blk W g1 cs1 t1) (L2 : Blk W g2 cs2 t2) (O : Own W b A xs) (B : Below w.heap.size w W)
    (h : ∀ W', Blk W' g1 cs1 t1 → Blk W' g2 cs2 t2 → Own W' b A xs → Below w.heap.size w W' → bodyPost P f Q e a W') : bodyPost P f Q e a W := h W L1 L2 O B
theorem min_step {P : Program} {Q : Exit → Act → World → Prop} {o : Oper} {ys : Nat → Option Bool} {a : Act} {w : World} {K : Act → World → Prop} (hw : Region.wanted o ys = true) (x y : Operand) (ats : Array TypeId) (ho : o.op = .call { callee := .builtin .min, args := #[x, y], argTypes := ats })
    (k k' : IntKind) (m n : Int) (hx : a.eval x = .int k m) (hy : a.eval y = .int k' n) (h : K (a.put o.dst (.int k (min m n))) w) : if Region.wanted o ys = true then o.wp P a w K Q else K (a.put o.dst undef) w := by
  rw [if_pos hw]
  unfold Oper.wp execOp
  simp only [ho, resolve, invoke, builtin, Sem.run_bind, Sem.run_pure, Result.andThen_ok, List.map_toArray, List.map_cons, List.map_nil, hx, hy, Lib.run_min_ints]
  exact h
theorem drew6 {W : World} {v0 v1 v2 v3 v4 v5 : Value} {g : Nat} (h : W.cell? ⟨g, 0, none⟩ = some (v0) ∧ W.cell? ⟨g, 1, none⟩ = some (v1) ∧ W.cell? ⟨g, 2, none⟩ = some (v2) ∧ W.cell? ⟨g, 3, none⟩ = some (v3) ∧ W.cell? ⟨g, 4, none⟩ = some (v4) ∧ W.cell? ⟨g, 5, none⟩ = some (v5)) : W.drew.cell? ⟨g, 0, none⟩ = some (v0) ∧ W.drew.cell? ⟨g, 1, none⟩ = some (v1) ∧ W.drew.cell? ⟨g, 2, none⟩ = some (v2) ∧ W.drew.cell? ⟨g, 3, none⟩ = some (v3) ∧ W.drew.cell? ⟨g, 4, none⟩ = some (v4) ∧ W.drew.cell? ⟨g, 5, none⟩ = some (v5) := h
end Go.Proofs.YtccblleobcidfaaGreat.Dv
end
/- Layers 18, 20, 21: ticks, reading back, requests, in plain Lean. -/
section
namespace Go.Proofs.YtccblleobcidfaaGreat.Dv
open Go.RowKit Go.Proofs.YtccblleobcidfaaGreat.Kt Go.Proofs.YtccblleobcidfaaGreat.Lw Go.Proofs.YtccblleobcidfaaGreat.St Go.Proofs.YtccblleobcidfaaGreat.Nm Go.Proofs.YtccblleobcidfaaGreat.Es Go.Proofs.YtccblleobcidfaaGreat.By Go.Proofs.YtccblleobcidfaaGreat.En Go.Proofs.YtccblleobcidfaaGreat.Jr Go.Proofs.YtccblleobcidfaaGreat.Im Go.Proofs.YtccblleobcidfaaGreat.Sl Go.Proofs.YtccblleobcidfaaGreat.Gr Go.Proofs.YtccblleobcidfaaGreat.Ops Go.Proofs.YtccblleobcidfaaGreat.Ch Go.Proofs.YtccblleobcidfaaGreat.Fl Go.Proofs.YtccblleobcidfaaGreat.Pl
set_option linter.unusedVariables false
set_option linter.unusedSimpArgs false
/-- does a device do its steps? -/
def DS.works (d : DS) : Bool := d.st == 2 || d.st == 5
/-- the flash, and the device, behind a tick. -/
def tickF (f : ByteArray) (d : DS) : ByteArray := match d.works, d.ops with | true, o :: _ => doB f o | _, _ => f
def tickD (d : DS) : DS := bif d.works then (if d.ops.tail = [] then (if d.st = 5 then DS.zero else ⟨1, d.su, d.nx, d.go, d.sl, []⟩) else ⟨d.st, d.su, d.nx, d.go, d.sl, d.ops.tail⟩) else d
/-- the flash behind a cut. -/
def cutF (f : ByteArray) (d : DS) (n : Nat) : ByteArray := match d.works, d.ops with | true, o :: _ => cutB f o n | _, _ => f
/-- may a block be read back? -/
def upOk (f : ByteArray) (d : DS) (b l : Int) : Bool := bothB f d && ((d.st == 0 || d.st == 6) && (rngB b 0 65535 && rngB l 0 32))
def upNext (d : DS) : Int := if d.st = 0 then 0 else d.nx
/-- the bytes of the active image from a block on, so many. -/
def upB (s : ByteArray) (k l : Nat) : ByteArray := s.extract (min s.size (32 * k)) (min s.size (min s.size (32 * k) + l))
def upT (f : ByteArray) (d : DS) (b l : Int) : ByteArray := match activeO f with
  | some p => if b = upNext d then upB (imgB f p.s p.z) (upNext d).toNat l.toNat else ⟨#[]⟩
  | none => ⟨#[]⟩
def upD (f : ByteArray) (d : DS) (b l : Int) : DS := match activeO f with
  | some p => if b = upNext d then (if (upT f d b l).size < 32 then DS.zero else ⟨6, d.su, min (upNext d + 1) 16, d.go, d.sl, d.ops⟩) else DS.fail 4
  | none => DS.fail 2
theorem upB_size (s : ByteArray) (k l : Nat) : (upB s k l).size ≤ l := by
  unfold upB
  rw [ByteArray.size_extract]
  omega
/-- the program cuts twice. -/
theorem up_two (s : ByteArray) (k l : Nat) : (s.extract (min (32 * k) s.size) s.size).extract 0 (min l (s.size - min (32 * k) s.size)) = upB s k l := by
  unfold upB
  rw [ByteArray.extract_extract]
  congr 1 <;> omega
end Go.Proofs.YtccblleobcidfaaGreat.Dv
end
