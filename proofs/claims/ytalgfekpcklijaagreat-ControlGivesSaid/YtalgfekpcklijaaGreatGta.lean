/- Layer 19: asking: what the program's Get and the references' Status answer. -/
import Derived.Test.YtalgfekpcklijaaGreatDcb
import Derived.Test.YtalgfekpcklijaaGreatSga
import Derived.Test.YtalgfekpcklijaaGreatGf
namespace Go.Proofs.YtalgfekpcklijaaGreat.Dv
open Go.RowKit Go.Proofs.YtalgfekpcklijaaGreat.Kt Go.Proofs.YtalgfekpcklijaaGreat.Lw Go.Proofs.YtalgfekpcklijaaGreat.St Go.Proofs.YtalgfekpcklijaaGreat.Nm Go.Proofs.YtalgfekpcklijaaGreat.Es Go.Proofs.YtalgfekpcklijaaGreat.By Go.Proofs.YtalgfekpcklijaaGreat.En Go.Proofs.YtalgfekpcklijaaGreat.Jr Go.Proofs.YtalgfekpcklijaaGreat.Im Go.Proofs.YtalgfekpcklijaaGreat.Sl Go.Proofs.YtalgfekpcklijaaGreat.Gr Go.Proofs.YtalgfekpcklijaaGreat.Ops Go.Proofs.YtalgfekpcklijaaGreat.Ch Go.Proofs.YtalgfekpcklijaaGreat.Fl Go.Proofs.YtalgfekpcklijaaGreat.Pl
set_option linter.unusedVariables false
set_option linter.unusedSimpArgs false
attribute [local irreducible] gotB goodB Cr.crcB nQ nS nZ nM placeB wholeB devMay
/-- the next record's numbers. -/
def newQ (f : ByteArray) : Int := maxL (scanL f) + 1
def newM (f : ByteArray) (s z : Int) : Int := Cr.crcB (imgB f s z)
/-- the steps that commit a device's image. -/
def commitL (f : ByteArray) (d : DS) : List OpV := appL f (newQ f) d.sl d.go (newM f d.sl d.go)
def commitD (f : ByteArray) (d : DS) : DS := if recE f d.sl d.go = 0 then ⟨5, d.su, d.nx, d.go, d.sl, commitL f d⟩ else DS.fail 3
def statD (f : ByteArray) (d : DS) : DS := if d.st = 1 then ⟨if d.ops = [] then 3 else 2, d.su, d.nx, d.go, d.sl, d.ops⟩ else if d.st = 4 then commitD f d else d
def bothB (f : ByteArray) (d : DS) : Bool := decide (f.size = 768) && d.may
def getD (f : ByteArray) (d : DS) : DS := if bothB f d = true then statD f d else DS.zero
def getE (f : ByteArray) (d : DS) : Int := if bothB f d = true then 0 else 1900
theorem get_no {f : ByteArray} {d : DS} (h : bothB f d = false) : getD f d = DS.zero ∧ getE f d = 1900 := by simp [getD, getE, h]
theorem get_yes {f : ByteArray} {d : DS} (h : bothB f d = true) : getD f d = statD f d ∧ getE f d = 0 := by simp [getD, getE, h]
theorem both_parts {f : ByteArray} {d : DS} (h : bothB f d = true) : f.size = 768 ∧ d.may = true := by simpa [bothB] using h
theorem both_not {f : ByteArray} {d : DS} (h : bothB f d = false) (hf : f.size = 768) : d.may = false := by simpa [bothB, hf] using h
set_option maxRecDepth 100000 in
set_option maxHeartbeats 1600000 in
theorem both_c (f : ByteArray) (d : DS) (A : Option Addr) (c n : Nat) (w : World) (h : f.size ≤ 9223372036854775807) (hl : Row w A d.ops) (hn : d.ops.length = n) :
    Calls Tryz.prog 50 #[.string f, (.agg #[.int .i64 d.st, .int .i64 d.su, .int .i64 d.nx, .int .i64 d.go, .int .i64 d.sl, .slice A n c])] w fun e w' => e = .returned (.bool (bothB f d)) ∧ Below w.heap.size w w' := by
  obtain ⟨s, st, nx, g, sl, xs⟩ := d
  simp only at hl hn ⊢
  have HB := Below.refl w.heap.size w
  have K0 := Blk.new w #[.int .i64 s, .int .i64 st, .int .i64 nx, .int .i64 g, .int .i64 sl, .slice A n c] 24
  have mm := Lib.hid (fun W : World => rmay_c f W h)
  have dm := Lib.hid (fun W (h : Below w.heap.size w W) => rdevMay_c s st nx g sl A c n xs W (hl.below h) hn)
  have hv := Lib.hid (show bothB f ⟨s, st, nx, g, sl, xs⟩ = (decide (f.size = 768) && devMay s st nx g sl xs) from rfl)
  clear hl
  by_cases hf : f.size = 768
  · rw [decide_eq_true hf] at mm hv
    clear hf
    go_enter Tryz.func50, Tryz.ntmps50
    go_wp2_with (first | (go_at_call 86; with_reducible refine (mm.out _).mono ?_; rintro e w' ⟨rfl, rfl⟩) | (go_at_call 24; with_reducible refine (dm.out _ (by repeat (with_reducible first | exact Below.refl _ _ | assumption | (refine bl_set ?_ (by omega)) | apply bl_alloc | apply bl_drewN | apply bl_drew | (refine bl_step ?_ (by assumption)) | fail))).mono ?_; rintro e w' ⟨rfl, hb⟩; have HB := bl_step (w := w) (by repeat (with_reducible first | exact HB | (refine bl_set ?_ (by omega)) | apply bl_alloc | apply bl_drew | apply bl_drewN | fail)) hb; have hzB := HB.size; have K0 := Blk.on (by first | exact K0 | exact K0 #[] | exact K0 (.cells #[] 0) #[] | exact K0 #[] #[]) (by repeat (with_reducible first | exact K0 | exact K0 _ | exact K0 _ _ | apply Blk.alloc | apply Blk.drew | apply Blk.drewN | apply Blk.set6_0 | apply Blk.set6_1 | apply Blk.set6_2 | apply Blk.set6_3 | apply Blk.set6_4 | apply Blk.set6_5 | (apply Blk.off; (first | assumption | omega | (simp; omega))) | fail)) hb; (try clear cK0_0 cK0_1 cK0_2 cK0_3 cK0_4 cK0_5 fK0 lK0 nK0 mK0); obtain ⟨cK0_0, cK0_1, cK0_2, cK0_3, cK0_4, cK0_5, fK0, lK0, nK0, mK0⟩ := Blk.all6 K0) | fail)
    go_ret
    exact ⟨Ops.retB (by rw [hv.out, Bool.true_and]), HB⟩
  · rw [decide_eq_false hf] at mm hv
    clear hf
    go_enter Tryz.func50, Tryz.ntmps50
    go_wp2_with (first | (go_at_call 86; with_reducible refine (mm.out _).mono ?_; rintro e w' ⟨rfl, rfl⟩) | (go_at_call 24; with_reducible refine (dm.out _ (by repeat (with_reducible first | exact Below.refl _ _ | assumption | (refine bl_set ?_ (by omega)) | apply bl_alloc | apply bl_drewN | apply bl_drew | (refine bl_step ?_ (by assumption)) | fail))).mono ?_; rintro e w' ⟨rfl, hb⟩; have HB := bl_step (w := w) (by repeat (with_reducible first | exact HB | (refine bl_set ?_ (by omega)) | apply bl_alloc | apply bl_drew | apply bl_drewN | fail)) hb; have hzB := HB.size; have K0 := Blk.on (by first | exact K0 | exact K0 #[] | exact K0 (.cells #[] 0) #[] | exact K0 #[] #[]) (by repeat (with_reducible first | exact K0 | exact K0 _ | exact K0 _ _ | apply Blk.alloc | apply Blk.drew | apply Blk.drewN | apply Blk.set6_0 | apply Blk.set6_1 | apply Blk.set6_2 | apply Blk.set6_3 | apply Blk.set6_4 | apply Blk.set6_5 | (apply Blk.off; (first | assumption | omega | (simp; omega))) | fail)) hb; (try clear cK0_0 cK0_1 cK0_2 cK0_3 cK0_4 cK0_5 fK0 lK0 nK0 mK0); obtain ⟨cK0_0, cK0_1, cK0_2, cK0_3, cK0_4, cK0_5, fK0, lK0, nK0, mK0⟩ := Blk.all6 K0) | fail)
    go_ret
    exact ⟨Ops.retB (by rw [hv.out, Bool.false_and]), (by repeat (with_reducible first | exact Below.refl _ _ | assumption | (refine bl_set ?_ (by omega)) | apply bl_alloc | apply bl_drewN | apply bl_drew | (refine bl_step ?_ (by assumption)) | fail))⟩
theorem rec_zero {f : ByteArray} {s z : Int} (h : ¬ recE f s z = 0) : recV f s z = #[.int .i64 0, .int .i64 0, .int .i64 0, .int .i64 0] := by
  unfold recV
  rw [if_neg]
  rintro ⟨h1, h2⟩
  exact h (by simp [recE, h1, h2])
/-- a device that a call gives, its steps in memory of the call's own. -/
def Gives (w : World) (d : DS) (e : Ending) (w' : World) : Prop := (∃ A n c, e = .returned (.agg #[.int .i64 d.st, .int .i64 d.su, .int .i64 d.nx, .int .i64 d.go, .int .i64 d.sl, .slice A n c]) ∧ d.ops.length = n ∧ Own w' w.heap.size A d.ops) ∧ Below w.heap.size w w'
set_option maxRecDepth 100000 in
set_option maxHeartbeats 6400000 in
theorem commit_c (f : ByteArray) (d : DS) (A : Option Addr) (c n : Nat) (w : World) (hf : f.size = 768) : Calls Tryz.prog 183 #[.string f, (.agg #[.int .i64 d.st, .int .i64 d.su, .int .i64 d.nx, .int .i64 d.go, .int .i64 d.sl, .slice A n c])] w (Gives w (commitD f d)) := by
  obtain ⟨s, st, nx, g, sl, xs⟩ := d
  simp only
  have HB := Below.refl w.heap.size w
  have K0 := Blk.new w #[.int .i64 s, .int .i64 st, .int .i64 nx, .int .i64 g, .int .i64 sl, .slice A n c] 24
  have K1 := fun cs0 => Blk.new1 w (.cells cs0 24) #[.int .i64 0, .int .i64 0, .int .i64 0, .int .i64 0, .int .i64 0, .slice none 0 0] 24
  have rc := Lib.hid (fun W : World => srec_c f sl g W (by omega))
  rcases rec_e f sl g with hr | hr
  · obtain ⟨_, hv, hm, _⟩ := rec_yes hr
    have hv : recV f sl g = #[.int .i64 (newQ f), .int .i64 sl, .int .i64 g, .int .i64 (newM f sl g)] := hv
    have hm : recMay (newQ f) sl g (newM f sl g) = true := hm
    rw [hv, hr] at rc
    have hD : commitD f ⟨s, st, nx, g, sl, xs⟩ = ⟨5, st, nx, g, sl, appL f (newQ f) sl g (newM f sl g)⟩ := by simp [commitD, commitL, hr]
    rw [hD]
    have ap := Lib.hid (fun W : World => append_yes f (newQ f) sl g (newM f sl g) W hf hm)
    have ML := Lib.hid (app_may f (newQ f) sl g (newM f sl g))
    have hl2 := app_len f (newQ f) sl g (newM f sl g)
    unfold appY at ap
    generalize newQ f = Q at *
    generalize newM f sl g = M at *
    generalize appL f Q sl g M = OL at *
    obtain ⟨p, hp⟩ : ∃ p, OL.length = p := ⟨_, rfl⟩
    rw [hp] at ap hl2
    have HP := Lib.hid hp
    clear hv hm hr hD hp hf
    go_enter Tryz.func183, Tryz.ntmps183
    go_wp2_with (first | (go_at_call 208; with_reducible refine (rc.out _).mono ?_; rintro e w1 ⟨rfl, hb⟩; have HB := bl_step (w := w) (by repeat (with_reducible first | exact HB | (refine bl_set ?_ (by omega)) | apply bl_alloc | apply bl_drew | apply bl_drewN | fail)) hb; have hzB := HB.size; have K0 := Blk.on (by first | exact K0 | exact K0 #[] | exact K0 (.cells #[] 0) #[] | exact K0 #[] #[]) (by repeat (with_reducible first | exact K0 | exact K0 _ | exact K0 _ _ | apply Blk.alloc | apply Blk.drew | apply Blk.drewN | apply Blk.set6_0 | apply Blk.set6_1 | apply Blk.set6_2 | apply Blk.set6_3 | apply Blk.set6_4 | apply Blk.set6_5 | (apply Blk.off; (first | assumption | omega | (simp; omega))) | fail)) hb; (try clear cK0_0 cK0_1 cK0_2 cK0_3 cK0_4 cK0_5 fK0 lK0 nK0 mK0); obtain ⟨cK0_0, cK0_1, cK0_2, cK0_3, cK0_4, cK0_5, fK0, lK0, nK0, mK0⟩ := Blk.all6 K0; have K1 := Blk.on (by first | exact K1 | exact K1 #[] | exact K1 (.cells #[] 0) #[] | exact K1 #[] #[]) (by repeat (with_reducible first | exact K1 | exact K1 _ | exact K1 _ _ | apply Blk.alloc | apply Blk.drew | apply Blk.drewN | apply Blk.set6_0 | apply Blk.set6_1 | apply Blk.set6_2 | apply Blk.set6_3 | apply Blk.set6_4 | apply Blk.set6_5 | (apply Blk.off; (first | assumption | omega | (simp; omega))) | fail)) hb; (try clear cK1_0 cK1_1 cK1_2 cK1_3 cK1_4 cK1_5 fK1 lK1 nK1 mK1); obtain ⟨cK1_0, cK1_1, cK1_2, cK1_3, cK1_4, cK1_5, fK1, lK1, nK1, mK1⟩ := Blk.all6 K1; have K2 := fun cs => Blk.new w1 cs 83) | (go_at_call 209; (with_reducible refine (ap.out _).mono ?_); rintro e w2 ⟨A', c', rfl, hown, hb⟩; have HO := (own_of hown HP.out (by omega) (fun o ho => (ML.out o ho).2)).mono (base' := w.heap.size + 2) (by simp; omega); have HB := bl_step (w := w) (by repeat (with_reducible first | exact HB | (refine bl_set ?_ (by omega)) | apply bl_alloc | apply bl_drew | apply bl_drewN | fail)) hb; have hzB := HB.size; have K0 := Blk.on (by first | exact K0 | exact K0 #[] | exact K0 (.cells #[] 0) #[] | exact K0 #[] #[]) (by repeat (with_reducible first | exact K0 | exact K0 _ | exact K0 _ _ | apply Blk.alloc | apply Blk.drew | apply Blk.drewN | apply Blk.set6_0 | apply Blk.set6_1 | apply Blk.set6_2 | apply Blk.set6_3 | apply Blk.set6_4 | apply Blk.set6_5 | (apply Blk.off; (first | assumption | omega | (simp; omega))) | fail)) hb; (try clear cK0_0 cK0_1 cK0_2 cK0_3 cK0_4 cK0_5 fK0 lK0 nK0 mK0); obtain ⟨cK0_0, cK0_1, cK0_2, cK0_3, cK0_4, cK0_5, fK0, lK0, nK0, mK0⟩ := Blk.all6 K0; have K1 := Blk.on (by first | exact K1 | exact K1 #[] | exact K1 (.cells #[] 0) #[] | exact K1 #[] #[]) (by repeat (with_reducible first | exact K1 | exact K1 _ | exact K1 _ _ | apply Blk.alloc | apply Blk.drew | apply Blk.drewN | apply Blk.set6_0 | apply Blk.set6_1 | apply Blk.set6_2 | apply Blk.set6_3 | apply Blk.set6_4 | apply Blk.set6_5 | (apply Blk.off; (first | assumption | omega | (simp; omega))) | fail)) hb; (try clear cK1_0 cK1_1 cK1_2 cK1_3 cK1_4 cK1_5 fK1 lK1 nK1 mK1); obtain ⟨cK1_0, cK1_1, cK1_2, cK1_3, cK1_4, cK1_5, fK1, lK1, nK1, mK1⟩ := Blk.all6 K1) | fail)
    exact bodyPost_ret (v := .agg #[.int .i64 5, .int .i64 st, .int .i64 nx, .int .i64 g, .int .i64 sl, .slice A' p c']) (by simp [results, Tryz.results183, go_sem, *]) rfl ⟨⟨A', p, c', rfl, HP.out, (by (refine Own.mono (base := w.heap.size + 2) ?_ (by omega)); (repeat (with_reducible refine Own.set ?_ (by dsimp only; omega) _)); (first | exact HO | (refine Own.below HO ?_; repeat (with_reducible first | exact Below.refl _ _ | assumption | (refine bl_set ?_ (by omega)) | apply bl_alloc | apply bl_drewN | apply bl_drew | (refine bl_step ?_ (by assumption)) | fail))))⟩, (by repeat (with_reducible first | exact Below.refl _ _ | assumption | (refine bl_set ?_ (by omega)) | apply bl_alloc | apply bl_drewN | apply bl_drew | (refine bl_step ?_ (by assumption)) | fail))⟩
  · have hD : commitD f ⟨s, st, nx, g, sl, xs⟩ = DS.fail 3 := by
      have : ¬ recE f sl g = 0 := by omega
      simp [commitD, this]
    rw [hD]
    obtain ⟨a, b, c', d, hv⟩ := rec_four f sl g
    rw [hv] at rc
    clear hv hD hf
    rcases hr with hr | hr
    all_goals (rw [hr] at rc; clear hr; go_enter Tryz.func183, Tryz.ntmps183; go_wp2_with (first | (go_at_call 208; with_reducible refine (rc.out _).mono ?_; rintro e w1 ⟨rfl, hb⟩; have HB := bl_step (w := w) (by repeat (with_reducible first | exact HB | (refine bl_set ?_ (by omega)) | apply bl_alloc | apply bl_drew | apply bl_drewN | fail)) hb; have hzB := HB.size; have K0 := Blk.on (by first | exact K0 | exact K0 #[] | exact K0 (.cells #[] 0) #[] | exact K0 #[] #[]) (by repeat (with_reducible first | exact K0 | exact K0 _ | exact K0 _ _ | apply Blk.alloc | apply Blk.drew | apply Blk.drewN | apply Blk.set6_0 | apply Blk.set6_1 | apply Blk.set6_2 | apply Blk.set6_3 | apply Blk.set6_4 | apply Blk.set6_5 | (apply Blk.off; (first | assumption | omega | (simp; omega))) | fail)) hb; (try clear cK0_0 cK0_1 cK0_2 cK0_3 cK0_4 cK0_5 fK0 lK0 nK0 mK0); obtain ⟨cK0_0, cK0_1, cK0_2, cK0_3, cK0_4, cK0_5, fK0, lK0, nK0, mK0⟩ := Blk.all6 K0; have K1 := Blk.on (by first | exact K1 | exact K1 #[] | exact K1 (.cells #[] 0) #[] | exact K1 #[] #[]) (by repeat (with_reducible first | exact K1 | exact K1 _ | exact K1 _ _ | apply Blk.alloc | apply Blk.drew | apply Blk.drewN | apply Blk.set6_0 | apply Blk.set6_1 | apply Blk.set6_2 | apply Blk.set6_3 | apply Blk.set6_4 | apply Blk.set6_5 | (apply Blk.off; (first | assumption | omega | (simp; omega))) | fail)) hb; (try clear cK1_0 cK1_1 cK1_2 cK1_3 cK1_4 cK1_5 fK1 lK1 nK1 mK1); obtain ⟨cK1_0, cK1_1, cK1_2, cK1_3, cK1_4, cK1_5, fK1, lK1, nK1, mK1⟩ := Blk.all6 K1; have K2 := fun cs => Blk.new w1 cs 83) | (go_at_call 47; with_reducible refine (failed_c 3 _).mono ?_; rintro e w' ⟨rfl, hb⟩; have HB := bl_step (w := w) (by repeat (with_reducible first | exact HB | (refine bl_set ?_ (by omega)) | apply bl_alloc | apply bl_drew | apply bl_drewN | fail)) hb; have hzB := HB.size; have K0 := Blk.on (by first | exact K0 | exact K0 #[] | exact K0 (.cells #[] 0) #[] | exact K0 #[] #[]) (by repeat (with_reducible first | exact K0 | exact K0 _ | exact K0 _ _ | apply Blk.alloc | apply Blk.drew | apply Blk.drewN | apply Blk.set6_0 | apply Blk.set6_1 | apply Blk.set6_2 | apply Blk.set6_3 | apply Blk.set6_4 | apply Blk.set6_5 | (apply Blk.off; (first | assumption | omega | (simp; omega))) | fail)) hb; (try clear cK0_0 cK0_1 cK0_2 cK0_3 cK0_4 cK0_5 fK0 lK0 nK0 mK0); obtain ⟨cK0_0, cK0_1, cK0_2, cK0_3, cK0_4, cK0_5, fK0, lK0, nK0, mK0⟩ := Blk.all6 K0; have K1 := Blk.on (by first | exact K1 | exact K1 #[] | exact K1 (.cells #[] 0) #[] | exact K1 #[] #[]) (by repeat (with_reducible first | exact K1 | exact K1 _ | exact K1 _ _ | apply Blk.alloc | apply Blk.drew | apply Blk.drewN | apply Blk.set6_0 | apply Blk.set6_1 | apply Blk.set6_2 | apply Blk.set6_3 | apply Blk.set6_4 | apply Blk.set6_5 | (apply Blk.off; (first | assumption | omega | (simp; omega))) | fail)) hb; (try clear cK1_0 cK1_1 cK1_2 cK1_3 cK1_4 cK1_5 fK1 lK1 nK1 mK1); obtain ⟨cK1_0, cK1_1, cK1_2, cK1_3, cK1_4, cK1_5, fK1, lK1, nK1, mK1⟩ := Blk.all6 K1) | fail); exact bodyPost_ret (v := .agg #[.int .i64 7, .int .i64 3, .int .i64 0, .int .i64 0, .int .i64 0, .slice none 0 0]) (by simp [results, Tryz.results183, go_sem, *]) rfl ⟨⟨none, 0, 0, rfl, rfl, Own.nil⟩, (by repeat (with_reducible first | exact Below.refl _ _ | assumption | (refine bl_set ?_ (by omega)) | apply bl_alloc | apply bl_drewN | apply bl_drew | (refine bl_step ?_ (by assumption)) | fail))⟩)
/-- a device, an answer, an error that a call gives. -/
def Tells (w : World) (d : DS) (E : Int) (e : Ending) (w' : World) : Prop :=
  (∃ A n c, e = .returned (.tuple #[(.agg #[.int .i64 d.st, .int .i64 d.su, .int .i64 d.nx, .int .i64 d.go, .int .i64 d.sl, .slice A n c]), .agg #[.int .i64 d.su, .int .i64 (min (n : Int) 255), .int .i64 d.st], .int .i64 E]) ∧ d.ops.length = n ∧ Own w' w.heap.size A d.ops) ∧ Below w.heap.size w w'
end Go.Proofs.YtalgfekpcklijaaGreat.Dv
