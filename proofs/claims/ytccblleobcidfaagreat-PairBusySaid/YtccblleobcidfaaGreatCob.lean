/- Layer 21: a request: what the program's Handle answers (printed by gen_cob.py). -/
import Derived.Test.YtccblleobcidfaaGreatCoa
import Derived.Test.YtccblleobcidfaaGreatGs
import Derived.Test.YtccblleobcidfaaGreatGn
namespace Go.Proofs.YtccblleobcidfaaGreat.Dv
open Go.RowKit Go.Proofs.YtccblleobcidfaaGreat.Kt Go.Proofs.YtccblleobcidfaaGreat.Lw Go.Proofs.YtccblleobcidfaaGreat.St Go.Proofs.YtccblleobcidfaaGreat.Nm Go.Proofs.YtccblleobcidfaaGreat.Es Go.Proofs.YtccblleobcidfaaGreat.By Go.Proofs.YtccblleobcidfaaGreat.En Go.Proofs.YtccblleobcidfaaGreat.Jr Go.Proofs.YtccblleobcidfaaGreat.Im Go.Proofs.YtccblleobcidfaaGreat.Sl Go.Proofs.YtccblleobcidfaaGreat.Gr Go.Proofs.YtccblleobcidfaaGreat.Ops Go.Proofs.YtccblleobcidfaaGreat.Ch Go.Proofs.YtccblleobcidfaaGreat.Fl Go.Proofs.YtccblleobcidfaaGreat.Pl
set_option linter.unusedVariables false
set_option linter.unusedSimpArgs false
attribute [local irreducible] gotB goodB Cr.crcB nQ nS nZ nM placeB wholeB devMay
theorem does_1 (w : World) : Calls Tryz.prog 137 #[.int .i64 1] w fun e w' => e = .returned (.func (.func 186) #[] #[]) ∧ w = w' := by
  go_enter Tryz.func137, Tryz.ntmps137
  go_wp2
  go_ret
  exact ⟨rfl, rfl⟩
theorem does_2 (w : World) : Calls Tryz.prog 137 #[.int .i64 2] w fun e w' => e = .returned (.func (.func 187) #[] #[]) ∧ w = w' := by
  go_enter Tryz.func137, Tryz.ntmps137
  go_wp2
  go_ret
  exact ⟨rfl, rfl⟩
theorem does_3 (w : World) : Calls Tryz.prog 137 #[.int .i64 3] w fun e w' => e = .returned (.func (.func 188) #[] #[]) ∧ w = w' := by
  go_enter Tryz.func137, Tryz.ntmps137
  go_wp2
  go_ret
  exact ⟨rfl, rfl⟩
theorem does_5 (w : World) : Calls Tryz.prog 137 #[.int .i64 5] w fun e w' => e = .returned (.func (.func 189) #[] #[]) ∧ w = w' := by
  go_enter Tryz.func137, Tryz.ntmps137
  go_wp2
  go_ret
  exact ⟨rfl, rfl⟩
theorem does_0 (c : Int) (w : World) (h1 : ¬ c = 1) (h2 : ¬ c = 2) (h3 : ¬ c = 3) (h5 : ¬ c = 5) : Calls Tryz.prog 137 #[.int .i64 c] w fun e w' => e = .returned (.func (.func 190) #[] #[]) ∧ w = w' := by
  have h1 : (c == 1) = false := by simpa using h1
  have h2 : (c == 2) = false := by simpa using h2
  have h3 : (c == 3) = false := by simpa using h3
  have h5 : (c == 5) = false := by simpa using h5
  go_enter Tryz.func137, Tryz.ntmps137
  go_wp2
  go_ret
  exact ⟨rfl, rfl⟩
/-- has a request as many bytes of data as it tells? -/
def fitB (cc l : Int) (t : ByteArray) : Bool := decide ((t.size : Int) = reqN cc l)
set_option maxHeartbeats 3200000 in
theorem fits_c (f : ByteArray) (s st nx g sl : Int) (A : Option Addr) (n c : Nat) (cc v l : Int) (t : ByteArray) (w : World) : Calls Tryz.prog 134 #[.agg #[.string f, .int .i64 s, .int .i64 st, .int .i64 nx, .int .i64 g, .int .i64 sl, .slice A n c, .int .i64 cc, .int .i64 v, .int .i64 l, .string t]] w fun e w' => e = .returned (.bool (fitB cc l t)) ∧ Below w.heap.size w w' := by
  have HB := Below.refl w.heap.size w
  have K0 := Blk.new w #[.string f, .int .i64 s, .int .i64 st, .int .i64 nx, .int .i64 g, .int .i64 sl, .slice A n c, .int .i64 cc, .int .i64 v, .int .i64 l, .string t] 170
  by_cases h1 : cc = 1
  · subst h1
    have hv := Lib.hid (show fitB 1 l t = ((t.size : Int) == l) by unfold fitB reqN; rw [if_pos rfl, Bool.eq_iff_iff]; simp)
    go_enter Tryz.func134, Tryz.ntmps134
    go_wp2_with fail
    go_ret
    exact ⟨Ops.retB hv.out.symm, zq1⟩
  · have h2 : (cc == 1) = false := by simpa using h1
    by_cases ht : t.size = 0
    · have t1 : t = ⟨#[]⟩ := size_nil ht
      subst t1
      have hv := Lib.hid (show fitB cc l ⟨#[]⟩ = true by unfold fitB reqN; rw [if_neg h1]; rfl)
      go_enter Tryz.func134, Tryz.ntmps134
      go_wp2_with fail
      go_ret
      exact ⟨Ops.retB hv.out.symm, zq1⟩
    · have t1 : t.toList.isEmpty = false := size_some ht
      have t2 : (t.toList == []) = false := by cases e : t.toList with | nil => rw [e] at t1; simp at t1 | cons => rfl
      have hv := Lib.hid (show fitB cc l t = false by unfold fitB reqN; rw [if_neg h1]; exact decide_eq_false (by omega))
      go_enter Tryz.func134, Tryz.ntmps134
      go_wp2_with fail
      go_ret
      exact ⟨Ops.retB hv.out.symm, zq1⟩
set_option maxRecDepth 100000 in
set_option maxHeartbeats 12800000 in
theorem handle_n (f : ByteArray) (d : DS) (a t : ByteArray) (A : Option Addr) (c n : Nat) (w : World) (hl : Row w A d.ops) (hn : d.ops.length = n) (hb : bothB f d = true) (hg : Su.gotS a = false) :
    Calls Tryz.prog 70 #[.string f, (.agg #[.int .i64 d.st, .int .i64 d.su, .int .i64 d.nx, .int .i64 d.go, .int .i64 d.sl, .slice A n c]), .string a, .string t] w (Hands w (DS.fail 6) true ⟨#[]⟩ 0) := by
  obtain ⟨s, st, nx, g, sl, xs⟩ := d
  simp only at hl hn ⊢
  have HB := Below.refl w.heap.size w
  have K0 := Blk.new w #[.int .i64 s, .int .i64 st, .int .i64 nx, .int .i64 g, .int .i64 sl, .slice A n c] 28
  have K1 := fun cs0 => Blk.new1 w (.cells cs0 28) #[.int .i64 0, .int .i64 0, .int .i64 0, .int .i64 0, .int .i64 0, .slice none 0 0] 28
  have K2 := fun cs0 cs1 => Blk.new2 w (.cells cs0 28) (.cells cs1 28) #[.bool false, .bool false, .string ⟨#[]⟩] 107
  obtain ⟨hf, hmay⟩ := both_parts hb
  have mm := Lib.hid (fun W : World => may_c f W (by omega))
  rw [decide_eq_true hf] at mm
  have dm := Lib.hid (fun W (h : Below w.heap.size w W) => devMay_c s st nx g sl A c n xs W (hl.below h) hn)
  rw [show devMay s st nx g sl xs = true from hmay] at dm
  obtain ⟨m1, m2, m3, m4, m5⟩ := may_nums hmay
  simp only at m1
  have gs := Lib.hid (fun W : World => Su.sget_c a W)
  rw [gotW_no hg, hg] at gs
  have al := Lib.hid (fun W : World => Tb.allowed_c s 0 W)
  rw [allow_0 m1.1 m1.2] at al
  have r1 : rngB s 0 7 = true := by simp [rngB]; omega
  have hq : Tb.allowE s 0 = 0 := by rw [Tb.allowE, r1]; rfl
  have ft := Lib.hid (fun W : World => fits_c f s st nx g sl A n c 0 0 0 t W)
  clear hb hl hn hmay m1 m2 m3 m4 m5 hf hg
  go_enter Tryz.func70, Tryz.ntmps70
  go_wp2_with (first | (go_at_call 76; with_reducible refine (mm.out _).mono ?_; rintro e w' ⟨rfl, rfl⟩) | ((first | (go_at_call 104; with_reducible refine (dm.out _ zq1).mono ?_; rintro e w' ⟨rfl, hb⟩) | (go_at_call 133; with_reducible refine (al.out _).mono ?_; rintro e w' ⟨rfl, hb⟩) | (go_at_call 134; with_reducible refine (ft.out _).mono ?_; rintro e w' ⟨rfl, hb⟩) | (go_at_call 135; with_reducible refine (failed_c 6 _).mono ?_; rintro e w' ⟨rfl, hb⟩) | (go_at_call 136; with_reducible refine (stalls_c _).mono ?_; rintro e w' ⟨rfl, hb⟩)); have HB := bl_step (w := w) zq0 hb; have hzB := HB.size; have K0 := Blk.on zq3 zq10 hb; (try clear eK0); have eK0 := Blk.ev K0; have K1 := Blk.on zq6 zq9 hb; (try clear eK1); have eK1 := Blk.ev K1; have K2 := Blk.on zq15 zq21 hb; (try clear eK2); have eK2 := Blk.ev K2; (try (have K3 := Blk.on zq26 zq28 hb; (try clear eK3); have eK3 := Blk.ev K3)); (try (have K4 := Blk.on zq38 zq42 hb; (try clear eK4); have eK4 := Blk.ev K4))) | (go_at_call 132; with_reducible refine (gs.out _).mono ?_; rintro e w3 ⟨rfl, hb⟩; have HB := bl_step (w := w) zq0 hb; have hzB := HB.size; have K0 := Blk.on zq3 zq10 hb; (try clear eK0); have eK0 := Blk.ev K0; have K1 := Blk.on zq6 zq9 hb; (try clear eK1); have eK1 := Blk.ev K1; have K2 := Blk.on zq15 zq21 hb; (try clear eK2); have eK2 := Blk.ev K2; (try (have K3 := Blk.on zq26 zq28 hb; (try clear eK3); have eK3 := Blk.ev K3)); (try (have K4 := Blk.on zq38 zq42 hb; (try clear eK4); have eK4 := Blk.ev K4)); have K3 := fun cs => Blk.new w3 cs 105; have K4 := fun o cs => Blk.new1 w3 o cs 170) | fail)
  refine body_gen (g1 := w.heap.size + 1) (cs1 := #[.int .i64 7, .int .i64 6, .int .i64 0, .int .i64 0, .int .i64 0, .slice none 0 0]) (t1 := 28) (g2 := w.heap.size + 2) (cs2 := #[.bool false, .bool true, .string ⟨#[]⟩]) (t2 := 107) (b := w.heap.size) (A := none) (xs := []) (w := w) zq24 zq25 Own.nil zq1 ?_; intro wf L1 L2 HOf HBf; obtain ⟨e0, e1, e2, e3, e4, e5, _⟩ := Blk.all6 L1; obtain ⟨e6, e7, e8, _⟩ := Blk.all3 L2; exact bodyPost_ret (v := .tuple #[.agg #[.int .i64 7, .int .i64 6, .int .i64 0, .int .i64 0, .int .i64 0, .slice none 0 0], .agg #[.bool false, .bool true, .string ⟨#[]⟩], .int .i64 0]) (by simp [results, Tryz.results70, go_sem, e0, e1, e2, e3, e4, e5, e6, e7, e8]) rfl ⟨⟨none, 0, 0, rfl, rfl, HOf⟩, HBf⟩
set_option maxRecDepth 100000 in
set_option maxHeartbeats 12800000 in
theorem handle_x (f : ByteArray) (d : DS) (a t : ByteArray) (A : Option Addr) (c n : Nat) (w : World) (hl : Row w A d.ops) (hn : d.ops.length = n) (hb : bothB f d = true) (hg : Su.gotS a = true) (hx : (decide ((t.size : Int) = reqN (setC a) (setL a)) && Tb.allowB d.st (setC a)) = false) :
    Calls Tryz.prog 70 #[.string f, (.agg #[.int .i64 d.st, .int .i64 d.su, .int .i64 d.nx, .int .i64 d.go, .int .i64 d.sl, .slice A n c]), .string a, .string t] w (Hands w (DS.fail 6) true ⟨#[]⟩ 0) := by
  obtain ⟨s, st, nx, g, sl, xs⟩ := d
  simp only at hl hn ⊢
  have HB := Below.refl w.heap.size w
  have K0 := Blk.new w #[.int .i64 s, .int .i64 st, .int .i64 nx, .int .i64 g, .int .i64 sl, .slice A n c] 28
  have K1 := fun cs0 => Blk.new1 w (.cells cs0 28) #[.int .i64 0, .int .i64 0, .int .i64 0, .int .i64 0, .int .i64 0, .slice none 0 0] 28
  have K2 := fun cs0 cs1 => Blk.new2 w (.cells cs0 28) (.cells cs1 28) #[.bool false, .bool false, .string ⟨#[]⟩] 107
  obtain ⟨hf, hmay⟩ := both_parts hb
  have mm := Lib.hid (fun W : World => may_c f W (by omega))
  rw [decide_eq_true hf] at mm
  have dm := Lib.hid (fun W (h : Below w.heap.size w W) => devMay_c s st nx g sl A c n xs W (hl.below h) hn)
  rw [show devMay s st nx g sl xs = true from hmay] at dm
  obtain ⟨m1, m2, m3, m4, m5⟩ := may_nums hmay
  simp only at m1
  have gs := Lib.hid (fun W : World => Su.sget_c a W)
  rw [gotW_yes hg, hg] at gs
  obtain ⟨⟨gc0, gc1⟩, _, _⟩ := got_set hg
  have al := Lib.hid (fun W : World => Tb.allowed_c s (setC a) W)
  have r1 : rngB s 0 7 = true := by simp [rngB]; omega
  have r2 : rngB (setC a) 0 6 = true := by simp [rngB]; omega
  have hq : Tb.allowE s (setC a) = 0 := by rw [Tb.allowE, r1, r2]; rfl
  have ft := Lib.hid (fun W : World => fits_c f s st nx g sl A n c (setC a) (setV a) (setL a) t W)
  simp only [fitB] at ft
  simp only at hx
  clear hb hl hn hmay m1 m2 m3 m4 m5 hf hg
  have hgz := gs
  clear hgz gc0 gc1
  generalize setC a = cc at *
  generalize setV a = v at *
  generalize setL a = l at *
  rcases Bool.eq_false_or_eq_true (decide ((t.size : Int) = reqN cc l)) with h1 | h1
  · rw [h1] at ft hx
    rw [Bool.true_and] at hx
    rw [hx] at al
    go_enter Tryz.func70, Tryz.ntmps70
    go_wp2_with (first | (go_at_call 76; with_reducible refine (mm.out _).mono ?_; rintro e w' ⟨rfl, rfl⟩) | ((first | (go_at_call 104; with_reducible refine (dm.out _ zq1).mono ?_; rintro e w' ⟨rfl, hb⟩) | (go_at_call 133; with_reducible refine (al.out _).mono ?_; rintro e w' ⟨rfl, hb⟩) | (go_at_call 134; with_reducible refine (ft.out _).mono ?_; rintro e w' ⟨rfl, hb⟩) | (go_at_call 135; with_reducible refine (failed_c 6 _).mono ?_; rintro e w' ⟨rfl, hb⟩) | (go_at_call 136; with_reducible refine (stalls_c _).mono ?_; rintro e w' ⟨rfl, hb⟩)); have HB := bl_step (w := w) zq0 hb; have hzB := HB.size; have K0 := Blk.on zq3 zq10 hb; (try clear eK0); have eK0 := Blk.ev K0; have K1 := Blk.on zq6 zq9 hb; (try clear eK1); have eK1 := Blk.ev K1; have K2 := Blk.on zq15 zq21 hb; (try clear eK2); have eK2 := Blk.ev K2; (try (have K3 := Blk.on zq26 zq28 hb; (try clear eK3); have eK3 := Blk.ev K3)); (try (have K4 := Blk.on zq38 zq42 hb; (try clear eK4); have eK4 := Blk.ev K4))) | (go_at_call 132; with_reducible refine (gs.out _).mono ?_; rintro e w3 ⟨rfl, hb⟩; have HB := bl_step (w := w) zq0 hb; have hzB := HB.size; have K0 := Blk.on zq3 zq10 hb; (try clear eK0); have eK0 := Blk.ev K0; have K1 := Blk.on zq6 zq9 hb; (try clear eK1); have eK1 := Blk.ev K1; have K2 := Blk.on zq15 zq21 hb; (try clear eK2); have eK2 := Blk.ev K2; (try (have K3 := Blk.on zq26 zq28 hb; (try clear eK3); have eK3 := Blk.ev K3)); (try (have K4 := Blk.on zq38 zq42 hb; (try clear eK4); have eK4 := Blk.ev K4)); have K3 := fun cs => Blk.new w3 cs 105; have K4 := fun o cs => Blk.new1 w3 o cs 170) | fail)
    refine body_gen (g1 := w.heap.size + 1) (cs1 := #[.int .i64 7, .int .i64 6, .int .i64 0, .int .i64 0, .int .i64 0, .slice none 0 0]) (t1 := 28) (g2 := w.heap.size + 2) (cs2 := #[.bool false, .bool true, .string ⟨#[]⟩]) (t2 := 107) (b := w.heap.size) (A := none) (xs := []) (w := w) zq24 zq25 Own.nil zq1 ?_; intro wf L1 L2 HOf HBf; obtain ⟨e0, e1, e2, e3, e4, e5, _⟩ := Blk.all6 L1; obtain ⟨e6, e7, e8, _⟩ := Blk.all3 L2; exact bodyPost_ret (v := .tuple #[.agg #[.int .i64 7, .int .i64 6, .int .i64 0, .int .i64 0, .int .i64 0, .slice none 0 0], .agg #[.bool false, .bool true, .string ⟨#[]⟩], .int .i64 0]) (by simp [results, Tryz.results70, go_sem, e0, e1, e2, e3, e4, e5, e6, e7, e8]) rfl ⟨⟨none, 0, 0, rfl, rfl, HOf⟩, HBf⟩
  · rw [h1] at ft
    generalize Tb.allowB s cc = ab at *
    go_enter Tryz.func70, Tryz.ntmps70
    go_wp2_with (first | (go_at_call 76; with_reducible refine (mm.out _).mono ?_; rintro e w' ⟨rfl, rfl⟩) | ((first | (go_at_call 104; with_reducible refine (dm.out _ zq1).mono ?_; rintro e w' ⟨rfl, hb⟩) | (go_at_call 133; with_reducible refine (al.out _).mono ?_; rintro e w' ⟨rfl, hb⟩) | (go_at_call 134; with_reducible refine (ft.out _).mono ?_; rintro e w' ⟨rfl, hb⟩) | (go_at_call 135; with_reducible refine (failed_c 6 _).mono ?_; rintro e w' ⟨rfl, hb⟩) | (go_at_call 136; with_reducible refine (stalls_c _).mono ?_; rintro e w' ⟨rfl, hb⟩)); have HB := bl_step (w := w) zq0 hb; have hzB := HB.size; have K0 := Blk.on zq3 zq10 hb; (try clear eK0); have eK0 := Blk.ev K0; have K1 := Blk.on zq6 zq9 hb; (try clear eK1); have eK1 := Blk.ev K1; have K2 := Blk.on zq15 zq21 hb; (try clear eK2); have eK2 := Blk.ev K2; (try (have K3 := Blk.on zq26 zq28 hb; (try clear eK3); have eK3 := Blk.ev K3)); (try (have K4 := Blk.on zq38 zq42 hb; (try clear eK4); have eK4 := Blk.ev K4))) | (go_at_call 132; with_reducible refine (gs.out _).mono ?_; rintro e w3 ⟨rfl, hb⟩; have HB := bl_step (w := w) zq0 hb; have hzB := HB.size; have K0 := Blk.on zq3 zq10 hb; (try clear eK0); have eK0 := Blk.ev K0; have K1 := Blk.on zq6 zq9 hb; (try clear eK1); have eK1 := Blk.ev K1; have K2 := Blk.on zq15 zq21 hb; (try clear eK2); have eK2 := Blk.ev K2; (try (have K3 := Blk.on zq26 zq28 hb; (try clear eK3); have eK3 := Blk.ev K3)); (try (have K4 := Blk.on zq38 zq42 hb; (try clear eK4); have eK4 := Blk.ev K4)); have K3 := fun cs => Blk.new w3 cs 105; have K4 := fun o cs => Blk.new1 w3 o cs 170) | fail)
    refine body_gen (g1 := w.heap.size + 1) (cs1 := #[.int .i64 7, .int .i64 6, .int .i64 0, .int .i64 0, .int .i64 0, .slice none 0 0]) (t1 := 28) (g2 := w.heap.size + 2) (cs2 := #[.bool false, .bool true, .string ⟨#[]⟩]) (t2 := 107) (b := w.heap.size) (A := none) (xs := []) (w := w) zq24 zq25 Own.nil zq1 ?_; intro wf L1 L2 HOf HBf; obtain ⟨e0, e1, e2, e3, e4, e5, _⟩ := Blk.all6 L1; obtain ⟨e6, e7, e8, _⟩ := Blk.all3 L2; exact bodyPost_ret (v := .tuple #[.agg #[.int .i64 7, .int .i64 6, .int .i64 0, .int .i64 0, .int .i64 0, .slice none 0 0], .agg #[.bool false, .bool true, .string ⟨#[]⟩], .int .i64 0]) (by simp [results, Tryz.results70, go_sem, e0, e1, e2, e3, e4, e5, e6, e7, e8]) rfl ⟨⟨none, 0, 0, rfl, rfl, HOf⟩, HBf⟩
theorem drew7 {W : World} {v0 v1 v2 v3 v4 v5 v6 : Value} {g : Nat} (h : W.cell? ⟨g, 0, none⟩ = some (v0) ∧ W.cell? ⟨g, 1, none⟩ = some (v1) ∧ W.cell? ⟨g, 2, none⟩ = some (v2) ∧ W.cell? ⟨g, 3, none⟩ = some (v3) ∧ W.cell? ⟨g, 4, none⟩ = some (v4) ∧ W.cell? ⟨g, 5, none⟩ = some (v5) ∧ W.cell? ⟨g, 6, none⟩ = some (v6)) : W.drew.cell? ⟨g, 0, none⟩ = some (v0) ∧ W.drew.cell? ⟨g, 1, none⟩ = some (v1) ∧ W.drew.cell? ⟨g, 2, none⟩ = some (v2) ∧ W.drew.cell? ⟨g, 3, none⟩ = some (v3) ∧ W.drew.cell? ⟨g, 4, none⟩ = some (v4) ∧ W.drew.cell? ⟨g, 5, none⟩ = some (v5) ∧ W.drew.cell? ⟨g, 6, none⟩ = some (v6) := h
theorem far7 {W X : World} {b j : Nat} {v v0 v1 v2 v3 v4 v5 v6 : Value} {g : Nat} (hX : X = W.setCell ⟨b, j, none⟩ v) (hp : g ≠ b) (h : W.cell? ⟨g, 0, none⟩ = some (v0) ∧ W.cell? ⟨g, 1, none⟩ = some (v1) ∧ W.cell? ⟨g, 2, none⟩ = some (v2) ∧ W.cell? ⟨g, 3, none⟩ = some (v3) ∧ W.cell? ⟨g, 4, none⟩ = some (v4) ∧ W.cell? ⟨g, 5, none⟩ = some (v5) ∧ W.cell? ⟨g, 6, none⟩ = some (v6)) : X.cell? ⟨g, 0, none⟩ = some (v0) ∧ X.cell? ⟨g, 1, none⟩ = some (v1) ∧ X.cell? ⟨g, 2, none⟩ = some (v2) ∧ X.cell? ⟨g, 3, none⟩ = some (v3) ∧ X.cell? ⟨g, 4, none⟩ = some (v4) ∧ X.cell? ⟨g, 5, none⟩ = some (v5) ∧ X.cell? ⟨g, 6, none⟩ = some (v6) := by
  subst hX
  have e : ∀ i, (W.setCell ⟨b, j, none⟩ v).cell? ⟨g, i, none⟩ = W.cell? ⟨g, i, none⟩ := fun i => World.cell?_of_block (a := ⟨g, i, none⟩) (Below.heap_setCell W ⟨b, j, none⟩ v g hp)
  simp only [e]
  exact h
theorem bel7 {W X : World} {v0 v1 v2 v3 v4 v5 v6 : Value} {g : Nat} (hb : Below W.heap.size W X) (hg : g < W.heap.size) (h : W.cell? ⟨g, 0, none⟩ = some (v0) ∧ W.cell? ⟨g, 1, none⟩ = some (v1) ∧ W.cell? ⟨g, 2, none⟩ = some (v2) ∧ W.cell? ⟨g, 3, none⟩ = some (v3) ∧ W.cell? ⟨g, 4, none⟩ = some (v4) ∧ W.cell? ⟨g, 5, none⟩ = some (v5) ∧ W.cell? ⟨g, 6, none⟩ = some (v6)) : X.cell? ⟨g, 0, none⟩ = some (v0) ∧ X.cell? ⟨g, 1, none⟩ = some (v1) ∧ X.cell? ⟨g, 2, none⟩ = some (v2) ∧ X.cell? ⟨g, 3, none⟩ = some (v3) ∧ X.cell? ⟨g, 4, none⟩ = some (v4) ∧ X.cell? ⟨g, 5, none⟩ = some (v5) ∧ X.cell? ⟨g, 6, none⟩ = some (v6) := by
  have e : ∀ i, X.cell? ⟨g, i, none⟩ = W.cell? ⟨g, i, none⟩ := fun i => World.cell?_of_block (a := ⟨g, i, none⟩) (hb.block g hg)
  simp only [e]
  exact h
theorem way7_new {w w' w7 : World} {c0 c1 c2 : Array Value} {t0 t1 t2 t : TypeId} {v0 v1 v2 v3 v4 : Value} {A : Option Addr} {n c : Nat} {T : ByteArray} {dx : List OpV} (HB : Below w.heap.size w w') (h38 : w.heap.size + 3 ≤ w'.heap.size) (K0 : Blk w' w.heap.size c0 t0) (K1 : Blk w' (w.heap.size + 1) c1 t1) (K2 : Blk w' (w.heap.size + 2) c2 t2) (h7 : dx.length = n) (hb : Below w'.drew.heap.size w'.drew w7) (HO : OwnT w7 w'.drew.heap.size w7.heap.size A dx) : ∃ (g5 : Nat) (A7 : Option Addr) (n7 c7 : Nat), Value.pointer (some ⟨w7.heap.size, 0, none⟩) = .pointer (some ⟨g5, 0, none⟩) ∧ w.heap.size + 3 ≤ g5 ∧ dx.length = n7 ∧ Aside (Blk (w7.alloc (.cells #[v0, v1, v2, v3, v4, .slice A n c, .string T] t)) g5 #[v0, v1, v2, v3, v4, .slice A7 n7 c7, .string T] t) ∧ Aside (Blk (w7.alloc (.cells #[v0, v1, v2, v3, v4, .slice A n c, .string T] t)) w.heap.size c0 t0) ∧ Aside (Blk (w7.alloc (.cells #[v0, v1, v2, v3, v4, .slice A n c, .string T] t)) (w.heap.size + 1) c1 t1) ∧ Aside (Blk (w7.alloc (.cells #[v0, v1, v2, v3, v4, .slice A n c, .string T] t)) (w.heap.size + 2) c2 t2) ∧ Aside (Own (w7.alloc (.cells #[v0, v1, v2, v3, v4, .slice A n c, .string T] t)) (w.heap.size + 3) A7 dx) ∧ Aside (Below w.heap.size w (w7.alloc (.cells #[v0, v1, v2, v3, v4, .slice A n c, .string T] t))) := by
  have hz : w'.heap.size ≤ w7.heap.size := hb.size
  have k : ∀ {g : Nat} {cs : Array Value} {tt : TypeId}, Blk w' g cs tt → Blk (w7.alloc (.cells #[v0, v1, v2, v3, v4, .slice A n c, .string T] t)) g cs tt := fun K => Blk.alloc (Blk.below (Blk.drew K) hb) _
  refine ⟨w7.heap.size, A, n, c, rfl, by omega, h7, Blk.new _ _ _, k K0, k K1, k K2, (OwnT.own (OwnT.alloc HO _)).mono h38, bl_alloc (bl_step (bl_drew HB) hb) _⟩
theorem way7_old {w w' w7 : World} {c0 c1 c2 : Array Value} {t0 t1 t2 t : TypeId} {v0 v1 v2 v3 v4 z0 z1 z2 z3 z4 z5 z6 : Value} {A : Option Addr} {n c : Nat} {T : ByteArray} {dx : List OpV} (HB : Below w.heap.size w w') (h38 : w.heap.size + 3 ≤ w'.heap.size) (K0 : Blk w' w.heap.size c0 t0) (K1 : Blk w' (w.heap.size + 1) c1 t1) (K2 : Blk w' (w.heap.size + 2) c2 t2) (h7 : dx.length = n) (hb : Below ((w'.alloc (.cells #[z0, z1, z2, z3, z4, z5, z6] t)).drew).heap.size ((w'.alloc (.cells #[z0, z1, z2, z3, z4, z5, z6] t)).drew) w7) (HO : OwnT w7 ((w'.alloc (.cells #[z0, z1, z2, z3, z4, z5, z6] t)).drew).heap.size w7.heap.size A dx) : ∃ (g5 : Nat) (A7 : Option Addr) (n7 c7 : Nat), Value.pointer (some ⟨w'.heap.size, 0, none⟩) = .pointer (some ⟨g5, 0, none⟩) ∧ w.heap.size + 3 ≤ g5 ∧ dx.length = n7 ∧ Aside (Blk ((((((((w7.setCell ⟨w'.heap.size, 0, none⟩ (v0)).setCell ⟨w'.heap.size, 1, none⟩ (v1)).setCell ⟨w'.heap.size, 2, none⟩ (v2)).setCell ⟨w'.heap.size, 3, none⟩ (v3)).setCell ⟨w'.heap.size, 4, none⟩ (v4)).setCell ⟨w'.heap.size, 5, none⟩ (.slice A n c)).setCell ⟨w'.heap.size, 6, none⟩ (.string T))) g5 #[v0, v1, v2, v3, v4, .slice A7 n7 c7, .string T] t) ∧ Aside (Blk ((((((((w7.setCell ⟨w'.heap.size, 0, none⟩ (v0)).setCell ⟨w'.heap.size, 1, none⟩ (v1)).setCell ⟨w'.heap.size, 2, none⟩ (v2)).setCell ⟨w'.heap.size, 3, none⟩ (v3)).setCell ⟨w'.heap.size, 4, none⟩ (v4)).setCell ⟨w'.heap.size, 5, none⟩ (.slice A n c)).setCell ⟨w'.heap.size, 6, none⟩ (.string T))) w.heap.size c0 t0) ∧ Aside (Blk ((((((((w7.setCell ⟨w'.heap.size, 0, none⟩ (v0)).setCell ⟨w'.heap.size, 1, none⟩ (v1)).setCell ⟨w'.heap.size, 2, none⟩ (v2)).setCell ⟨w'.heap.size, 3, none⟩ (v3)).setCell ⟨w'.heap.size, 4, none⟩ (v4)).setCell ⟨w'.heap.size, 5, none⟩ (.slice A n c)).setCell ⟨w'.heap.size, 6, none⟩ (.string T))) (w.heap.size + 1) c1 t1) ∧ Aside (Blk ((((((((w7.setCell ⟨w'.heap.size, 0, none⟩ (v0)).setCell ⟨w'.heap.size, 1, none⟩ (v1)).setCell ⟨w'.heap.size, 2, none⟩ (v2)).setCell ⟨w'.heap.size, 3, none⟩ (v3)).setCell ⟨w'.heap.size, 4, none⟩ (v4)).setCell ⟨w'.heap.size, 5, none⟩ (.slice A n c)).setCell ⟨w'.heap.size, 6, none⟩ (.string T))) (w.heap.size + 2) c2 t2) ∧ Aside (Own ((((((((w7.setCell ⟨w'.heap.size, 0, none⟩ (v0)).setCell ⟨w'.heap.size, 1, none⟩ (v1)).setCell ⟨w'.heap.size, 2, none⟩ (v2)).setCell ⟨w'.heap.size, 3, none⟩ (v3)).setCell ⟨w'.heap.size, 4, none⟩ (v4)).setCell ⟨w'.heap.size, 5, none⟩ (.slice A n c)).setCell ⟨w'.heap.size, 6, none⟩ (.string T))) (w.heap.size + 3) A7 dx) ∧ Aside (Below w.heap.size w ((((((((w7.setCell ⟨w'.heap.size, 0, none⟩ (v0)).setCell ⟨w'.heap.size, 1, none⟩ (v1)).setCell ⟨w'.heap.size, 2, none⟩ (v2)).setCell ⟨w'.heap.size, 3, none⟩ (v3)).setCell ⟨w'.heap.size, 4, none⟩ (v4)).setCell ⟨w'.heap.size, 5, none⟩ (.slice A n c)).setCell ⟨w'.heap.size, 6, none⟩ (.string T)))) := by
  have hlt : w'.heap.size < ((w'.alloc (.cells #[z0, z1, z2, z3, z4, z5, z6] t)).drew).heap.size := by show _ < (w'.heap.push _).size; simp
  have k : ∀ {g : Nat} {cs : Array Value} {tt : TypeId}, g < w'.heap.size → Blk w' g cs tt → Blk (((((((w7.setCell ⟨w'.heap.size, 0, none⟩ (v0)).setCell ⟨w'.heap.size, 1, none⟩ (v1)).setCell ⟨w'.heap.size, 2, none⟩ (v2)).setCell ⟨w'.heap.size, 3, none⟩ (v3)).setCell ⟨w'.heap.size, 4, none⟩ (v4)).setCell ⟨w'.heap.size, 5, none⟩ (.slice A n c)).setCell ⟨w'.heap.size, 6, none⟩ (.string T)) g cs tt := fun hg K => by
    have K := Blk.below (Blk.drew (Blk.alloc K (.cells #[z0, z1, z2, z3, z4, z5, z6] t))) hb
    have hp : _ ≠ w'.heap.size := Nat.ne_of_lt hg
    exact Blk.off hp (Blk.off hp (Blk.off hp (Blk.off hp (Blk.off hp (Blk.off hp (Blk.off hp K))))))
  have K5 := Blk.below (Blk.drew (Blk.new w' #[z0, z1, z2, z3, z4, z5, z6] t)) hb
  have K5 := Blk.set7_6 (Blk.set7_5 (Blk.set7_4 (Blk.set7_3 (Blk.set7_2 (Blk.set7_1 (Blk.set7_0 K5 v0) v1) v2) v3) v4) (.slice A n c)) (.string T)
  have HO := OwnT.set (p := ⟨w'.heap.size, 6, none⟩) (OwnT.set (p := ⟨w'.heap.size, 5, none⟩) (OwnT.set (p := ⟨w'.heap.size, 4, none⟩) (OwnT.set (p := ⟨w'.heap.size, 3, none⟩) (OwnT.set (p := ⟨w'.heap.size, 2, none⟩) (OwnT.set (p := ⟨w'.heap.size, 1, none⟩) (OwnT.set (p := ⟨w'.heap.size, 0, none⟩) HO (.inl hlt) v0) (.inl hlt) v1) (.inl hlt) v2) (.inl hlt) v3) (.inl hlt) v4) (.inl hlt) (.slice A n c)) (.inl hlt) (.string T)
  have hw : w.heap.size ≤ w'.heap.size := by omega
  have B := bl_step (bl_drew (bl_alloc HB (.cells #[z0, z1, z2, z3, z4, z5, z6] t))) hb
  have B := bl_set (g := w'.heap.size) (j := 6) (v := .string T) (bl_set (g := w'.heap.size) (j := 5) (v := .slice A n c) (bl_set (g := w'.heap.size) (j := 4) (v := v4) (bl_set (g := w'.heap.size) (j := 3) (v := v3) (bl_set (g := w'.heap.size) (j := 2) (v := v2) (bl_set (g := w'.heap.size) (j := 1) (v := v1) (bl_set (g := w'.heap.size) (j := 0) (v := v0) B hw) hw) hw) hw) hw) hw) hw
  exact ⟨w'.heap.size, A, n, c, rfl, h38, h7, K5, k (by omega) K0, k (by omega) K1, k (by omega) K2, HO.own.mono (Nat.le_trans h38 (Nat.le_of_lt hlt)), B⟩
theorem keep12 {W X : World} {g3 g4 : Nat} {a v0 v1 v2 v3 v4 v5 v6 v7 v8 v9 v10 : Value} {t : TypeId} (h : W.cell? ⟨g3, 0, none⟩ = some a) (K : Blk W g4 #[v0, v1, v2, v3, v4, v5, v6, v7, v8, v9, v10] t) (hb : Below W.heap.size W X) : X.cell? ⟨g3, 0, none⟩ = some a ∧ X.cell? ⟨g4, 0, none⟩ = some (v0) ∧ X.cell? ⟨g4, 1, none⟩ = some (v1) ∧ X.cell? ⟨g4, 2, none⟩ = some (v2) ∧ X.cell? ⟨g4, 3, none⟩ = some (v3) ∧ X.cell? ⟨g4, 4, none⟩ = some (v4) ∧ X.cell? ⟨g4, 5, none⟩ = some (v5) ∧ X.cell? ⟨g4, 6, none⟩ = some (v6) ∧ X.cell? ⟨g4, 7, none⟩ = some (v7) ∧ X.cell? ⟨g4, 8, none⟩ = some (v8) ∧ X.cell? ⟨g4, 9, none⟩ = some (v9) ∧ X.cell? ⟨g4, 10, none⟩ = some (v10) ∧ Below W.heap.size W X := by
  obtain ⟨a0, a1, a2, a3, a4, a5, a6, a7, a8, a9, a10, _⟩ := Blk.all11 (K.below hb)
  exact ⟨cb hb h, a0, a1, a2, a3, a4, a5, a6, a7, a8, a9, a10, hb⟩
theorem does_D {f : ByteArray} {d : DS} {c v l : Int} {t : ByteArray} : (c = 1 → doesD f d c v l t = downD f d v t ∧ doesT f d c v l = ⟨#[]⟩) ∧ (c = 2 → doesD f d c v l t = upD f d v l ∧ doesT f d c v l = upT f d v l) ∧ (c = 3 → doesD f d c v l t = statD f d ∧ doesT f d c v l = tellB (statD f d)) ∧ (c = 5 → doesD f d c v l t = d ∧ doesT f d c v l = lowB d.st 1) ∧ (¬ c = 1 → ¬ c = 2 → ¬ c = 3 → ¬ c = 5 → doesD f d c v l t = DS.zero ∧ doesT f d c v l = ⟨#[]⟩) := by
  refine ⟨fun h => ?_, fun h => ?_, fun h => ?_, fun h => ?_, fun h1 h2 h3 h5 => ?_⟩
  · simp [doesD, doesT, h]
  · simp [doesD, doesT, h]
  · simp [doesD, doesT, h]
  · simp [doesD, doesT, h]
  · simp [doesD, doesT, h1, h2, h3, h5]
set_option maxRecDepth 100000 in
set_option maxHeartbeats 12800000 in
theorem handle_y1 (f : ByteArray) (d : DS) (a t : ByteArray) (A : Option Addr) (c n : Nat) (w : World) (hl : Row w A d.ops) (hn : d.ops.length = n) (hb : bothB f d = true) (hok : handOk d a t = true) (hc : setC a = 1) :
    Calls Tryz.prog 70 #[.string f, (.agg #[.int .i64 d.st, .int .i64 d.su, .int .i64 d.nx, .int .i64 d.go, .int .i64 d.sl, .slice A n c]), .string a, .string t] w (Hands w (doneD f d a t) (failB d (doneD f d a t)) (bif failB d (doneD f d a t) then ⟨#[]⟩ else doesT f d (setC a) (setV a) (setL a)) 0) := by
  obtain ⟨hg, hfit, hal⟩ := hand_parts hok
  have hdd := (does_D (f := f) (d := d) (c := setC a) (v := setV a) (l := setL a) (t := t)).1 hc
  have mc := Lib.hid (fun W (h : Below w.heap.size w W) => dnload_c f d (setC a) (setV a) (setL a) t A c n W (hl.below h) hn (hand_down hb hok hc))
  have hDE : doneD f d a t = doesD f d (setC a) (setV a) (setL a) t := rfl
  rw [hDE]
  rw [hdd.1, hdd.2]
  clear hdd hDE
  have dc := Lib.hid (fun W : World => does_1 W)
  obtain ⟨D, hD⟩ : ∃ D, D = downD f d (setV a) t := ⟨_, rfl⟩
  obtain ⟨T, hT⟩ : ∃ T : ByteArray, T = (⟨#[]⟩ : ByteArray) := ⟨_, rfl⟩
  have mc := Lib.hid (fun W (h : Below w.heap.size w W) => (show Calls _ _ _ _ (Dones W D T) from by rw [hD, hT]; exact mc.out W h))
  have key : Calls Tryz.prog 70 #[.string f, (.agg #[.int .i64 d.st, .int .i64 d.su, .int .i64 d.nx, .int .i64 d.go, .int .i64 d.sl, .slice A n c]), .string a, .string t] w (Hands w D (failB d D) (bif failB d D then ⟨#[]⟩ else T) 0) := ?_
  · rw [hD, hT] at key
    exact key
  clear hD hT
  obtain ⟨ds, dst, dnx, dg, dsl, dx⟩ := D
  obtain ⟨s, st, nx, g, sl, xs⟩ := d
  simp only at hl hn hal ⊢
  have HB := Below.refl w.heap.size w
  have K0 := Blk.new w #[.int .i64 s, .int .i64 st, .int .i64 nx, .int .i64 g, .int .i64 sl, .slice A n c] 28
  have K1 := fun cs0 => Blk.new1 w (.cells cs0 28) #[.int .i64 0, .int .i64 0, .int .i64 0, .int .i64 0, .int .i64 0, .slice none 0 0] 28
  have K2 := fun cs0 cs1 => Blk.new2 w (.cells cs0 28) (.cells cs1 28) #[.bool false, .bool false, .string ⟨#[]⟩] 107
  obtain ⟨hf, hmay⟩ := both_parts hb
  have mm := Lib.hid (fun W : World => may_c f W (by omega))
  rw [decide_eq_true hf] at mm
  have dm := Lib.hid (fun W (h : Below w.heap.size w W) => devMay_c s st nx g sl A c n xs W (hl.below h) hn)
  rw [show devMay s st nx g sl xs = true from hmay] at dm
  obtain ⟨m1, m2, m3, m4, m5⟩ := may_nums hmay
  simp only at m1
  have gs := Lib.hid (fun W : World => Su.sget_c a W)
  rw [gotW_yes hg, hg] at gs
  obtain ⟨⟨gc0, gc1⟩, _, _⟩ := got_set hg
  have al := Lib.hid (fun W : World => Tb.allowed_c s (setC a) W)
  have r1 : rngB s 0 7 = true := by simp [rngB]; omega
  have r2 : rngB (setC a) 0 6 = true := by simp [rngB]; omega
  have hq : Tb.allowE s (setC a) = 0 := by rw [Tb.allowE, r1, r2]; rfl
  rw [hal] at al
  have ft := Lib.hid (fun W : World => fits_c f s st nx g sl A n c (setC a) (setV a) (setL a) t W)
  rw [show fitB (setC a) (setL a) t = true by unfold fitB; exact decide_eq_true hfit] at ft
  clear hb hl hn hmay m1 m2 m3 m4 m5 hf hg hok hal hfit r1 r2 gc0 gc1
  simp only [Dones] at mc
  obtain ⟨fb, hfb⟩ : ∃ fb, fb = failB ⟨s, st, nx, g, sl, xs⟩ ⟨ds, dst, dnx, dg, dsl, dx⟩ := ⟨_, rfl⟩
  rw [← hfb]
  simp only [failB] at hfb
  have hcc : setC a = 1 := hc
  rw [hcc] at gs al ft mc hq
  clear hcc hc
  generalize setV a = v at *
  generalize setL a = l at *
  go_enter Tryz.func70, Tryz.ntmps70
  go_upto_region 8 with (first | (go_at_call 76; with_reducible refine (mm.out _).mono ?_; rintro e w' ⟨rfl, rfl⟩) | ((first | (go_at_call 104; with_reducible refine (dm.out _ zq1).mono ?_; rintro e w' ⟨rfl, hb⟩) | (go_at_call 133; with_reducible refine (al.out _).mono ?_; rintro e w' ⟨rfl, hb⟩) | (go_at_call 134; with_reducible refine (ft.out _).mono ?_; rintro e w' ⟨rfl, hb⟩)); have HB := bl_step (w := w) zq0 hb; have hzB := HB.size; have K0 := Blk.on zq3 zq10 hb; (try clear eK0); have eK0 := Blk.ev K0; have K1 := Blk.on zq6 zq9 hb; (try clear eK1); have eK1 := Blk.ev K1; have K2 := Blk.on zq15 zq21 hb; (try clear eK2); have eK2 := Blk.ev K2; (try (have K3 := Blk.on zq26 zq28 hb; (try clear eK3); have eK3 := Blk.ev K3)); (try (have K4 := Blk.on zq38 zq42 hb; (try clear eK4); have eK4 := Blk.ev K4))) | (go_at_call 132; with_reducible refine (gs.out _).mono ?_; rintro e w3 ⟨rfl, hb⟩; have HB := bl_step (w := w) zq0 hb; have hzB := HB.size; have K0 := Blk.on zq3 zq10 hb; (try clear eK0); have eK0 := Blk.ev K0; have K1 := Blk.on zq6 zq9 hb; (try clear eK1); have eK1 := Blk.ev K1; have K2 := Blk.on zq15 zq21 hb; (try clear eK2); have eK2 := Blk.ev K2; (try (have K3 := Blk.on zq26 zq28 hb; (try clear eK3); have eK3 := Blk.ev K3)); (try (have K4 := Blk.on zq38 zq42 hb; (try clear eK4); have eK4 := Blk.ev K4)); have K3 := fun cs => Blk.new w3 cs 105; have K4 := fun o cs => Blk.new1 w3 o cs 170) | fail)
  go_cut [16] (fun v16 wc => ∃ (g5 : Nat) (A7 : Option Addr) (n7 c7 : Nat), v16 = .pointer (some ⟨g5, 0, none⟩) ∧ w.heap.size + 3 ≤ g5 ∧ dx.length = n7 ∧ Aside (Blk wc g5 #[.int .i64 ds, .int .i64 dst, .int .i64 dnx, .int .i64 dg, .int .i64 dsl, .slice A7 n7 c7, .string T] 175) ∧ Aside (Blk wc w.heap.size #[.int .i64 s, .int .i64 st, .int .i64 nx, .int .i64 g, .int .i64 sl, .slice A n c] 28) ∧ Aside (Blk wc (w.heap.size + 1) #[.int .i64 0, .int .i64 0, .int .i64 0, .int .i64 0, .int .i64 0, .slice none 0 0] 28) ∧ Aside (Blk wc (w.heap.size + 2) #[.bool false, .bool false, .string ⟨#[]⟩] 107) ∧ Aside (Own wc (w.heap.size + 3) A7 dx) ∧ Aside (Below w.heap.size w wc))
  case first =>
    have h38 : w.heap.size + 3 ≤ w'.heap.size := by omega
    have hlt9 : w'.heap.size < ((w'.alloc (.cells #[.int .i64 0, .int .i64 0, .int .i64 0, .int .i64 0, .int .i64 0, .slice none 0 0, .string ⟨#[]⟩] 175)).drew).heap.size := (by show _ < (w'.heap.push _).size; simp)
    have h39 : w.heap.size + 3 ≤ ((w'.alloc (.cells #[.int .i64 0, .int .i64 0, .int .i64 0, .int .i64 0, .int .i64 0, .slice none 0 0, .string ⟨#[]⟩] 175)).drew).heap.size := Nat.le_trans h38 (Nat.le_of_lt hlt9)
    go_region_held3 (fun W => W.cell? ⟨w3.heap.size, 0, none⟩ = some (.int .i64 1) ∧ W.cell? ⟨w3.heap.size + 1, 0, none⟩ = some (.string f) ∧ W.cell? ⟨w3.heap.size + 1, 1, none⟩ = some (.int .i64 s) ∧ W.cell? ⟨w3.heap.size + 1, 2, none⟩ = some (.int .i64 st) ∧ W.cell? ⟨w3.heap.size + 1, 3, none⟩ = some (.int .i64 nx) ∧ W.cell? ⟨w3.heap.size + 1, 4, none⟩ = some (.int .i64 g) ∧ W.cell? ⟨w3.heap.size + 1, 5, none⟩ = some (.int .i64 sl) ∧ W.cell? ⟨w3.heap.size + 1, 6, none⟩ = some (.slice A n c) ∧ W.cell? ⟨w3.heap.size + 1, 7, none⟩ = some (.int .i64 1) ∧ W.cell? ⟨w3.heap.size + 1, 8, none⟩ = some (.int .i64 v) ∧ W.cell? ⟨w3.heap.size + 1, 9, none⟩ = some (.int .i64 l) ∧ W.cell? ⟨w3.heap.size + 1, 10, none⟩ = some (.string t) ∧ Below w'.heap.size w' W) (first | (refine keep12 (eK3.1 0) K4 ?_; (repeat (with_reducible first | exact Below.refl _ _ | apply bl_alloc | apply bl_drew | apply bl_drewN | (refine bl_set ?_ (by omega)) | (refine bl_step ?_ (by assumption)) | fail)); done) | fail) (first | (go_at_call 137; with_reducible refine (dc.out _).mono ?_; rintro e wq ⟨rfl, rfl⟩) | (go_at_call 186; (with_reducible refine (mc.out _ zq1).mono ?_); rintro e w7 ⟨⟨A7, n7, c7, rfl, h7, HO7⟩, hb⟩; obtain ⟨hcc, hff, hll, hnn, hnm⟩ := keep hb; have HO7 := HO7.top; have hz7 : w'.heap.size ≤ w7.heap.size := (by first | exact hb.size | exact Nat.le_trans (Nat.le_of_lt hlt9) hb.size)) | fail)
    all_goals (go_wp2_with fail; go_meet)
    · exact way7_new HB h38 K0 K1 K2 h7 hb HO7
    all_goals with_reducible exact way7_old HB h38 K0 K1 K2 h7 hb HO7
  case rest =>
    obtain ⟨g5, A7, n7, c7, rfl, hg5, h7, BK5, BK0, BK1, BK2, BO, BB⟩ := hcut
    have K5 := BK5.out
    have K0 := BK0.out
    have K1 := BK1.out
    have K2 := BK2.out
    have HO := BO.out
    have HBc := BB.out
    clear BK5 BK0 BK1 BK2 BO BB HB hb hzB mm dm gs al ft dc mc hq
    (try clear K3 K4 cK0_0 cK0_1 cK0_2 cK0_3 cK0_4 cK0_5 fK0 lK0 nK0 mK0 cK1_0 cK1_1 cK1_2 cK1_3 cK1_4 cK1_5 fK1 lK1 nK1 mK1 cK2_0 cK2_1 cK2_2 fK2 lK2 nK2 mK2)
    (try clear cK3_0 cK3_1 cK3_2 fK3 lK3 nK3 mK3 cK4_0 cK4_1 cK4_2 cK4_3 cK4_4 cK4_5 cK4_6 cK4_7 cK4_8 cK4_9 cK4_10 fK4 lK4 nK4 mK4)
    have HB := HBc
    clear HBc
    obtain ⟨cK0_0, cK0_1, cK0_2, cK0_3, cK0_4, cK0_5, fK0, lK0, nK0, mK0⟩ := Blk.all6 K0
    obtain ⟨cK1_0, cK1_1, cK1_2, cK1_3, cK1_4, cK1_5, fK1, lK1, nK1, mK1⟩ := Blk.all6 K1
    obtain ⟨cK2_0, cK2_1, cK2_2, fK2, lK2, nK2, mK2⟩ := Blk.all3 K2
    obtain ⟨cK5_0, cK5_1, cK5_2, cK5_3, cK5_4, cK5_5, cK5_6, fK5, lK5, nK5, mK5⟩ := Blk.all7 K5
    have lc9 : g5 < wc.drew.heap.size := lK5
    have z1 : g5 ≠ w.heap.size + 1 := by omega
    have z2 : g5 ≠ w.heap.size + 2 := by omega
    have z3 : w.heap.size + 1 ≠ g5 := by omega
    have z4 : w.heap.size + 2 ≠ g5 := by omega
    by_cases hd7 : ds = 7
    · by_cases hs7 : s = 7
      · have q0 : fb = false := by rw [hfb]; simp [hd7, hs7]
        have q1 : (ds == 7) = true := by simpa using hd7
        have q2 : (s != 7) = false := by simp [hs7]
        clear hd7 hs7 hfb
        go_upto_region 11 with fail
        have HC : wc.cell? ⟨g5, 0, none⟩ = some (.int .i64 ds) ∧ wc.cell? ⟨g5, 1, none⟩ = some (.int .i64 dst) ∧ wc.cell? ⟨g5, 2, none⟩ = some (.int .i64 dnx) ∧ wc.cell? ⟨g5, 3, none⟩ = some (.int .i64 dg) ∧ wc.cell? ⟨g5, 4, none⟩ = some (.int .i64 dsl) ∧ wc.cell? ⟨g5, 5, none⟩ = some (.slice A7 n7 c7) ∧ wc.cell? ⟨g5, 6, none⟩ = some (.string T) := ⟨cK5_0, cK5_1, cK5_2, cK5_3, cK5_4, cK5_5, cK5_6⟩
        go_region_held3 (fun W => W.cell? ⟨g5, 0, none⟩ = some (.int .i64 ds) ∧ W.cell? ⟨g5, 1, none⟩ = some (.int .i64 dst) ∧ W.cell? ⟨g5, 2, none⟩ = some (.int .i64 dnx) ∧ W.cell? ⟨g5, 3, none⟩ = some (.int .i64 dg) ∧ W.cell? ⟨g5, 4, none⟩ = some (.int .i64 dsl) ∧ W.cell? ⟨g5, 5, none⟩ = some (.slice A7 n7 c7) ∧ W.cell? ⟨g5, 6, none⟩ = some (.string T)) (first | ((repeat (with_reducible first | exact HC | (refine drew7 ?_) | (refine far7 rfl (by assumption) ?_) | fail)); done) | fail) (fail)
        all_goals (go_wp2_with fail; refine body_gen (g1 := w.heap.size + 1) (cs1 := #[.int .i64 ds, .int .i64 dst, .int .i64 dnx, .int .i64 dg, .int .i64 dsl, .slice A7 n7 c7]) (t1 := 28) (g2 := w.heap.size + 2) (cs2 := #[.bool false, .bool false, .string T]) (t2 := 107) (b := w.heap.size) (A := A7) (xs := dx) (w := w) zq24 zq25 zq40 zq1 ?_; intro wf L1 L2 HOf HBf; obtain ⟨e0, e1, e2, e3, e4, e5, _⟩ := Blk.all6 L1; obtain ⟨e6, e7, e8, _⟩ := Blk.all3 L2; exact bodyPost_ret (v := .tuple #[.agg #[.int .i64 ds, .int .i64 dst, .int .i64 dnx, .int .i64 dg, .int .i64 dsl, .slice A7 n7 c7], .agg #[.bool false, .bool false, .string T], .int .i64 0]) (by simp [results, Tryz.results70, go_sem, e0, e1, e2, e3, e4, e5, e6, e7, e8]) rfl (by rw [q0]; exact ⟨⟨A7, n7, c7, rfl, h7, HOf⟩, HBf⟩))
      · have q0 : fb = true := by rw [hfb]; simp [hd7, hs7]
        have q1 : (ds == 7) = true := by simpa using hd7
        have q2 : (s != 7) = true := by simpa using hs7
        clear hd7 hs7 hfb
        go_upto_region 10 with fail
        have HC : wc.cell? ⟨g5, 0, none⟩ = some (.int .i64 ds) ∧ wc.cell? ⟨g5, 1, none⟩ = some (.int .i64 dst) ∧ wc.cell? ⟨g5, 2, none⟩ = some (.int .i64 dnx) ∧ wc.cell? ⟨g5, 3, none⟩ = some (.int .i64 dg) ∧ wc.cell? ⟨g5, 4, none⟩ = some (.int .i64 dsl) ∧ wc.cell? ⟨g5, 5, none⟩ = some (.slice A7 n7 c7) ∧ wc.cell? ⟨g5, 6, none⟩ = some (.string T) := ⟨cK5_0, cK5_1, cK5_2, cK5_3, cK5_4, cK5_5, cK5_6⟩
        go_region_held3 (fun W => W.cell? ⟨g5, 0, none⟩ = some (.int .i64 ds) ∧ W.cell? ⟨g5, 1, none⟩ = some (.int .i64 dst) ∧ W.cell? ⟨g5, 2, none⟩ = some (.int .i64 dnx) ∧ W.cell? ⟨g5, 3, none⟩ = some (.int .i64 dg) ∧ W.cell? ⟨g5, 4, none⟩ = some (.int .i64 dsl) ∧ W.cell? ⟨g5, 5, none⟩ = some (.slice A7 n7 c7) ∧ W.cell? ⟨g5, 6, none⟩ = some (.string T)) (first | ((repeat (with_reducible first | exact HC | (refine drew7 ?_) | (refine far7 rfl (by assumption) ?_) | (refine bel7 hb (by first | assumption | exact lc9) ?_) | fail)); done) | fail) (first | (go_at_call 136; with_reducible refine (stalls_c _).mono ?_; rintro e w9 ⟨rfl, hb⟩; have HO := Own.below (base := w.heap.size + 3) (A := A7) (xs := dx) zq60 hb; have HB := bl_step (w := w) zq0 hb; have hzB := HB.size; have K1 := Blk.on zq6 zq9 hb; (try clear eK1); have eK1 := Blk.ev K1; have K2 := Blk.on zq15 zq21 hb; (try clear eK2); have eK2 := Blk.ev K2; have K5 := Blk.on zq36 zq56 hb; (try clear eK5); have eK5 := Blk.ev K5) | fail)
        all_goals (go_wp2_with fail; refine body_gen (g1 := w.heap.size + 1) (cs1 := #[.int .i64 ds, .int .i64 dst, .int .i64 dnx, .int .i64 dg, .int .i64 dsl, .slice A7 n7 c7]) (t1 := 28) (g2 := w.heap.size + 2) (cs2 := #[.bool false, .bool true, .string ⟨#[]⟩]) (t2 := 107) (b := w.heap.size) (A := A7) (xs := dx) (w := w) zq24 zq25 zq40 zq1 ?_; intro wf L1 L2 HOf HBf; obtain ⟨e0, e1, e2, e3, e4, e5, _⟩ := Blk.all6 L1; obtain ⟨e6, e7, e8, _⟩ := Blk.all3 L2; exact bodyPost_ret (v := .tuple #[.agg #[.int .i64 ds, .int .i64 dst, .int .i64 dnx, .int .i64 dg, .int .i64 dsl, .slice A7 n7 c7], .agg #[.bool false, .bool true, .string ⟨#[]⟩], .int .i64 0]) (by simp [results, Tryz.results70, go_sem, e0, e1, e2, e3, e4, e5, e6, e7, e8]) rfl (by rw [q0]; exact ⟨⟨A7, n7, c7, rfl, h7, HOf⟩, HBf⟩))
    · have q0 : fb = false := by rw [hfb]; simp [hd7]
      have q1 : (ds == 7) = false := by simpa using hd7
      clear hd7 hfb
      go_upto_region 11 with fail
      have HC : wc.cell? ⟨g5, 0, none⟩ = some (.int .i64 ds) ∧ wc.cell? ⟨g5, 1, none⟩ = some (.int .i64 dst) ∧ wc.cell? ⟨g5, 2, none⟩ = some (.int .i64 dnx) ∧ wc.cell? ⟨g5, 3, none⟩ = some (.int .i64 dg) ∧ wc.cell? ⟨g5, 4, none⟩ = some (.int .i64 dsl) ∧ wc.cell? ⟨g5, 5, none⟩ = some (.slice A7 n7 c7) ∧ wc.cell? ⟨g5, 6, none⟩ = some (.string T) := ⟨cK5_0, cK5_1, cK5_2, cK5_3, cK5_4, cK5_5, cK5_6⟩
      go_region_held3 (fun W => W.cell? ⟨g5, 0, none⟩ = some (.int .i64 ds) ∧ W.cell? ⟨g5, 1, none⟩ = some (.int .i64 dst) ∧ W.cell? ⟨g5, 2, none⟩ = some (.int .i64 dnx) ∧ W.cell? ⟨g5, 3, none⟩ = some (.int .i64 dg) ∧ W.cell? ⟨g5, 4, none⟩ = some (.int .i64 dsl) ∧ W.cell? ⟨g5, 5, none⟩ = some (.slice A7 n7 c7) ∧ W.cell? ⟨g5, 6, none⟩ = some (.string T)) (first | ((repeat (with_reducible first | exact HC | (refine drew7 ?_) | (refine far7 rfl (by assumption) ?_) | fail)); done) | fail) (fail)
      all_goals (go_wp2_with fail; refine body_gen (g1 := w.heap.size + 1) (cs1 := #[.int .i64 ds, .int .i64 dst, .int .i64 dnx, .int .i64 dg, .int .i64 dsl, .slice A7 n7 c7]) (t1 := 28) (g2 := w.heap.size + 2) (cs2 := #[.bool false, .bool false, .string T]) (t2 := 107) (b := w.heap.size) (A := A7) (xs := dx) (w := w) zq24 zq25 zq40 zq1 ?_; intro wf L1 L2 HOf HBf; obtain ⟨e0, e1, e2, e3, e4, e5, _⟩ := Blk.all6 L1; obtain ⟨e6, e7, e8, _⟩ := Blk.all3 L2; exact bodyPost_ret (v := .tuple #[.agg #[.int .i64 ds, .int .i64 dst, .int .i64 dnx, .int .i64 dg, .int .i64 dsl, .slice A7 n7 c7], .agg #[.bool false, .bool false, .string T], .int .i64 0]) (by simp [results, Tryz.results70, go_sem, e0, e1, e2, e3, e4, e5, e6, e7, e8]) rfl (by rw [q0]; exact ⟨⟨A7, n7, c7, rfl, h7, HOf⟩, HBf⟩))
set_option maxRecDepth 100000 in
set_option maxHeartbeats 12800000 in
theorem handle_y2 (f : ByteArray) (d : DS) (a t : ByteArray) (A : Option Addr) (c n : Nat) (w : World) (hl : Row w A d.ops) (hn : d.ops.length = n) (hb : bothB f d = true) (hok : handOk d a t = true) (hc : setC a = 2) :
    Calls Tryz.prog 70 #[.string f, (.agg #[.int .i64 d.st, .int .i64 d.su, .int .i64 d.nx, .int .i64 d.go, .int .i64 d.sl, .slice A n c]), .string a, .string t] w (Hands w (doneD f d a t) (failB d (doneD f d a t)) (bif failB d (doneD f d a t) then ⟨#[]⟩ else doesT f d (setC a) (setV a) (setL a)) 0) := by
  obtain ⟨hg, hfit, hal⟩ := hand_parts hok
  have hdd := (does_D (f := f) (d := d) (c := setC a) (v := setV a) (l := setL a) (t := t)).2.1 hc
  have mc := Lib.hid (fun W (h : Below w.heap.size w W) => upload_c f d (setC a) (setV a) (setL a) t A c n W (hl.below h) hn (hand_up hb hok hc))
  have hDE : doneD f d a t = doesD f d (setC a) (setV a) (setL a) t := rfl
  rw [hDE]
  rw [hdd.1, hdd.2]
  clear hdd hDE
  have dc := Lib.hid (fun W : World => does_2 W)
  obtain ⟨D, hD⟩ : ∃ D, D = upD f d (setV a) (setL a) := ⟨_, rfl⟩
  obtain ⟨T, hT⟩ : ∃ T : ByteArray, T = upT f d (setV a) (setL a) := ⟨_, rfl⟩
  have mc := Lib.hid (fun W (h : Below w.heap.size w W) => (show Calls _ _ _ _ (Dones W D T) from by rw [hD, hT]; exact mc.out W h))
  have key : Calls Tryz.prog 70 #[.string f, (.agg #[.int .i64 d.st, .int .i64 d.su, .int .i64 d.nx, .int .i64 d.go, .int .i64 d.sl, .slice A n c]), .string a, .string t] w (Hands w D (failB d D) (bif failB d D then ⟨#[]⟩ else T) 0) := ?_
  · rw [hD, hT] at key
    exact key
  clear hD hT
  obtain ⟨ds, dst, dnx, dg, dsl, dx⟩ := D
  obtain ⟨s, st, nx, g, sl, xs⟩ := d
  simp only at hl hn hal ⊢
  have HB := Below.refl w.heap.size w
  have K0 := Blk.new w #[.int .i64 s, .int .i64 st, .int .i64 nx, .int .i64 g, .int .i64 sl, .slice A n c] 28
  have K1 := fun cs0 => Blk.new1 w (.cells cs0 28) #[.int .i64 0, .int .i64 0, .int .i64 0, .int .i64 0, .int .i64 0, .slice none 0 0] 28
  have K2 := fun cs0 cs1 => Blk.new2 w (.cells cs0 28) (.cells cs1 28) #[.bool false, .bool false, .string ⟨#[]⟩] 107
  obtain ⟨hf, hmay⟩ := both_parts hb
  have mm := Lib.hid (fun W : World => may_c f W (by omega))
  rw [decide_eq_true hf] at mm
  have dm := Lib.hid (fun W (h : Below w.heap.size w W) => devMay_c s st nx g sl A c n xs W (hl.below h) hn)
  rw [show devMay s st nx g sl xs = true from hmay] at dm
  obtain ⟨m1, m2, m3, m4, m5⟩ := may_nums hmay
  simp only at m1
  have gs := Lib.hid (fun W : World => Su.sget_c a W)
  rw [gotW_yes hg, hg] at gs
  obtain ⟨⟨gc0, gc1⟩, _, _⟩ := got_set hg
  have al := Lib.hid (fun W : World => Tb.allowed_c s (setC a) W)
  have r1 : rngB s 0 7 = true := by simp [rngB]; omega
  have r2 : rngB (setC a) 0 6 = true := by simp [rngB]; omega
  have hq : Tb.allowE s (setC a) = 0 := by rw [Tb.allowE, r1, r2]; rfl
  rw [hal] at al
  have ft := Lib.hid (fun W : World => fits_c f s st nx g sl A n c (setC a) (setV a) (setL a) t W)
  rw [show fitB (setC a) (setL a) t = true by unfold fitB; exact decide_eq_true hfit] at ft
  clear hb hl hn hmay m1 m2 m3 m4 m5 hf hg hok hal hfit r1 r2 gc0 gc1
  simp only [Dones] at mc
  obtain ⟨fb, hfb⟩ : ∃ fb, fb = failB ⟨s, st, nx, g, sl, xs⟩ ⟨ds, dst, dnx, dg, dsl, dx⟩ := ⟨_, rfl⟩
  rw [← hfb]
  simp only [failB] at hfb
  have hcc : setC a = 2 := hc
  rw [hcc] at gs al ft mc hq
  clear hcc hc
  generalize setV a = v at *
  generalize setL a = l at *
  go_enter Tryz.func70, Tryz.ntmps70
  go_upto_region 8 with (first | (go_at_call 76; with_reducible refine (mm.out _).mono ?_; rintro e w' ⟨rfl, rfl⟩) | ((first | (go_at_call 104; with_reducible refine (dm.out _ zq1).mono ?_; rintro e w' ⟨rfl, hb⟩) | (go_at_call 133; with_reducible refine (al.out _).mono ?_; rintro e w' ⟨rfl, hb⟩) | (go_at_call 134; with_reducible refine (ft.out _).mono ?_; rintro e w' ⟨rfl, hb⟩)); have HB := bl_step (w := w) zq0 hb; have hzB := HB.size; have K0 := Blk.on zq3 zq10 hb; (try clear eK0); have eK0 := Blk.ev K0; have K1 := Blk.on zq6 zq9 hb; (try clear eK1); have eK1 := Blk.ev K1; have K2 := Blk.on zq15 zq21 hb; (try clear eK2); have eK2 := Blk.ev K2; (try (have K3 := Blk.on zq26 zq28 hb; (try clear eK3); have eK3 := Blk.ev K3)); (try (have K4 := Blk.on zq38 zq42 hb; (try clear eK4); have eK4 := Blk.ev K4))) | (go_at_call 132; with_reducible refine (gs.out _).mono ?_; rintro e w3 ⟨rfl, hb⟩; have HB := bl_step (w := w) zq0 hb; have hzB := HB.size; have K0 := Blk.on zq3 zq10 hb; (try clear eK0); have eK0 := Blk.ev K0; have K1 := Blk.on zq6 zq9 hb; (try clear eK1); have eK1 := Blk.ev K1; have K2 := Blk.on zq15 zq21 hb; (try clear eK2); have eK2 := Blk.ev K2; (try (have K3 := Blk.on zq26 zq28 hb; (try clear eK3); have eK3 := Blk.ev K3)); (try (have K4 := Blk.on zq38 zq42 hb; (try clear eK4); have eK4 := Blk.ev K4)); have K3 := fun cs => Blk.new w3 cs 105; have K4 := fun o cs => Blk.new1 w3 o cs 170) | fail)
  go_cut [16] (fun v16 wc => ∃ (g5 : Nat) (A7 : Option Addr) (n7 c7 : Nat), v16 = .pointer (some ⟨g5, 0, none⟩) ∧ w.heap.size + 3 ≤ g5 ∧ dx.length = n7 ∧ Aside (Blk wc g5 #[.int .i64 ds, .int .i64 dst, .int .i64 dnx, .int .i64 dg, .int .i64 dsl, .slice A7 n7 c7, .string T] 175) ∧ Aside (Blk wc w.heap.size #[.int .i64 s, .int .i64 st, .int .i64 nx, .int .i64 g, .int .i64 sl, .slice A n c] 28) ∧ Aside (Blk wc (w.heap.size + 1) #[.int .i64 0, .int .i64 0, .int .i64 0, .int .i64 0, .int .i64 0, .slice none 0 0] 28) ∧ Aside (Blk wc (w.heap.size + 2) #[.bool false, .bool false, .string ⟨#[]⟩] 107) ∧ Aside (Own wc (w.heap.size + 3) A7 dx) ∧ Aside (Below w.heap.size w wc))
  case first =>
    have h38 : w.heap.size + 3 ≤ w'.heap.size := by omega
    have hlt9 : w'.heap.size < ((w'.alloc (.cells #[.int .i64 0, .int .i64 0, .int .i64 0, .int .i64 0, .int .i64 0, .slice none 0 0, .string ⟨#[]⟩] 175)).drew).heap.size := (by show _ < (w'.heap.push _).size; simp)
    have h39 : w.heap.size + 3 ≤ ((w'.alloc (.cells #[.int .i64 0, .int .i64 0, .int .i64 0, .int .i64 0, .int .i64 0, .slice none 0 0, .string ⟨#[]⟩] 175)).drew).heap.size := Nat.le_trans h38 (Nat.le_of_lt hlt9)
    go_region_held3 (fun W => W.cell? ⟨w3.heap.size, 0, none⟩ = some (.int .i64 2) ∧ W.cell? ⟨w3.heap.size + 1, 0, none⟩ = some (.string f) ∧ W.cell? ⟨w3.heap.size + 1, 1, none⟩ = some (.int .i64 s) ∧ W.cell? ⟨w3.heap.size + 1, 2, none⟩ = some (.int .i64 st) ∧ W.cell? ⟨w3.heap.size + 1, 3, none⟩ = some (.int .i64 nx) ∧ W.cell? ⟨w3.heap.size + 1, 4, none⟩ = some (.int .i64 g) ∧ W.cell? ⟨w3.heap.size + 1, 5, none⟩ = some (.int .i64 sl) ∧ W.cell? ⟨w3.heap.size + 1, 6, none⟩ = some (.slice A n c) ∧ W.cell? ⟨w3.heap.size + 1, 7, none⟩ = some (.int .i64 2) ∧ W.cell? ⟨w3.heap.size + 1, 8, none⟩ = some (.int .i64 v) ∧ W.cell? ⟨w3.heap.size + 1, 9, none⟩ = some (.int .i64 l) ∧ W.cell? ⟨w3.heap.size + 1, 10, none⟩ = some (.string t) ∧ Below w'.heap.size w' W) (first | (refine keep12 (eK3.1 0) K4 ?_; (repeat (with_reducible first | exact Below.refl _ _ | apply bl_alloc | apply bl_drew | apply bl_drewN | (refine bl_set ?_ (by omega)) | (refine bl_step ?_ (by assumption)) | fail)); done) | fail) (first | (go_at_call 137; with_reducible refine (dc.out _).mono ?_; rintro e wq ⟨rfl, rfl⟩) | (go_at_call 187; (with_reducible refine (mc.out _ zq1).mono ?_); rintro e w7 ⟨⟨A7, n7, c7, rfl, h7, HO7⟩, hb⟩; obtain ⟨hcc, hff, hll, hnn, hnm⟩ := keep hb; have HO7 := HO7.top; have hz7 : w'.heap.size ≤ w7.heap.size := (by first | exact hb.size | exact Nat.le_trans (Nat.le_of_lt hlt9) hb.size)) | fail)
    all_goals (go_wp2_with fail; go_meet)
    · exact way7_new HB h38 K0 K1 K2 h7 hb HO7
    all_goals with_reducible exact way7_old HB h38 K0 K1 K2 h7 hb HO7
  case rest =>
    obtain ⟨g5, A7, n7, c7, rfl, hg5, h7, BK5, BK0, BK1, BK2, BO, BB⟩ := hcut
    have K5 := BK5.out
    have K0 := BK0.out
    have K1 := BK1.out
    have K2 := BK2.out
    have HO := BO.out
    have HBc := BB.out
    clear BK5 BK0 BK1 BK2 BO BB HB hb hzB mm dm gs al ft dc mc hq
    (try clear K3 K4 cK0_0 cK0_1 cK0_2 cK0_3 cK0_4 cK0_5 fK0 lK0 nK0 mK0 cK1_0 cK1_1 cK1_2 cK1_3 cK1_4 cK1_5 fK1 lK1 nK1 mK1 cK2_0 cK2_1 cK2_2 fK2 lK2 nK2 mK2)
    (try clear cK3_0 cK3_1 cK3_2 fK3 lK3 nK3 mK3 cK4_0 cK4_1 cK4_2 cK4_3 cK4_4 cK4_5 cK4_6 cK4_7 cK4_8 cK4_9 cK4_10 fK4 lK4 nK4 mK4)
    have HB := HBc
    clear HBc
    obtain ⟨cK0_0, cK0_1, cK0_2, cK0_3, cK0_4, cK0_5, fK0, lK0, nK0, mK0⟩ := Blk.all6 K0
    obtain ⟨cK1_0, cK1_1, cK1_2, cK1_3, cK1_4, cK1_5, fK1, lK1, nK1, mK1⟩ := Blk.all6 K1
    obtain ⟨cK2_0, cK2_1, cK2_2, fK2, lK2, nK2, mK2⟩ := Blk.all3 K2
    obtain ⟨cK5_0, cK5_1, cK5_2, cK5_3, cK5_4, cK5_5, cK5_6, fK5, lK5, nK5, mK5⟩ := Blk.all7 K5
    have lc9 : g5 < wc.drew.heap.size := lK5
    have z1 : g5 ≠ w.heap.size + 1 := by omega
    have z2 : g5 ≠ w.heap.size + 2 := by omega
    have z3 : w.heap.size + 1 ≠ g5 := by omega
    have z4 : w.heap.size + 2 ≠ g5 := by omega
    by_cases hd7 : ds = 7
    · by_cases hs7 : s = 7
      · have q0 : fb = false := by rw [hfb]; simp [hd7, hs7]
        have q1 : (ds == 7) = true := by simpa using hd7
        have q2 : (s != 7) = false := by simp [hs7]
        clear hd7 hs7 hfb
        go_upto_region 11 with fail
        have HC : wc.cell? ⟨g5, 0, none⟩ = some (.int .i64 ds) ∧ wc.cell? ⟨g5, 1, none⟩ = some (.int .i64 dst) ∧ wc.cell? ⟨g5, 2, none⟩ = some (.int .i64 dnx) ∧ wc.cell? ⟨g5, 3, none⟩ = some (.int .i64 dg) ∧ wc.cell? ⟨g5, 4, none⟩ = some (.int .i64 dsl) ∧ wc.cell? ⟨g5, 5, none⟩ = some (.slice A7 n7 c7) ∧ wc.cell? ⟨g5, 6, none⟩ = some (.string T) := ⟨cK5_0, cK5_1, cK5_2, cK5_3, cK5_4, cK5_5, cK5_6⟩
        go_region_held3 (fun W => W.cell? ⟨g5, 0, none⟩ = some (.int .i64 ds) ∧ W.cell? ⟨g5, 1, none⟩ = some (.int .i64 dst) ∧ W.cell? ⟨g5, 2, none⟩ = some (.int .i64 dnx) ∧ W.cell? ⟨g5, 3, none⟩ = some (.int .i64 dg) ∧ W.cell? ⟨g5, 4, none⟩ = some (.int .i64 dsl) ∧ W.cell? ⟨g5, 5, none⟩ = some (.slice A7 n7 c7) ∧ W.cell? ⟨g5, 6, none⟩ = some (.string T)) (first | ((repeat (with_reducible first | exact HC | (refine drew7 ?_) | (refine far7 rfl (by assumption) ?_) | fail)); done) | fail) (fail)
        all_goals (go_wp2_with fail; refine body_gen (g1 := w.heap.size + 1) (cs1 := #[.int .i64 ds, .int .i64 dst, .int .i64 dnx, .int .i64 dg, .int .i64 dsl, .slice A7 n7 c7]) (t1 := 28) (g2 := w.heap.size + 2) (cs2 := #[.bool false, .bool false, .string T]) (t2 := 107) (b := w.heap.size) (A := A7) (xs := dx) (w := w) zq24 zq25 zq40 zq1 ?_; intro wf L1 L2 HOf HBf; obtain ⟨e0, e1, e2, e3, e4, e5, _⟩ := Blk.all6 L1; obtain ⟨e6, e7, e8, _⟩ := Blk.all3 L2; exact bodyPost_ret (v := .tuple #[.agg #[.int .i64 ds, .int .i64 dst, .int .i64 dnx, .int .i64 dg, .int .i64 dsl, .slice A7 n7 c7], .agg #[.bool false, .bool false, .string T], .int .i64 0]) (by simp [results, Tryz.results70, go_sem, e0, e1, e2, e3, e4, e5, e6, e7, e8]) rfl (by rw [q0]; exact ⟨⟨A7, n7, c7, rfl, h7, HOf⟩, HBf⟩))
      · have q0 : fb = true := by rw [hfb]; simp [hd7, hs7]
        have q1 : (ds == 7) = true := by simpa using hd7
        have q2 : (s != 7) = true := by simpa using hs7
        clear hd7 hs7 hfb
        go_upto_region 10 with fail
        have HC : wc.cell? ⟨g5, 0, none⟩ = some (.int .i64 ds) ∧ wc.cell? ⟨g5, 1, none⟩ = some (.int .i64 dst) ∧ wc.cell? ⟨g5, 2, none⟩ = some (.int .i64 dnx) ∧ wc.cell? ⟨g5, 3, none⟩ = some (.int .i64 dg) ∧ wc.cell? ⟨g5, 4, none⟩ = some (.int .i64 dsl) ∧ wc.cell? ⟨g5, 5, none⟩ = some (.slice A7 n7 c7) ∧ wc.cell? ⟨g5, 6, none⟩ = some (.string T) := ⟨cK5_0, cK5_1, cK5_2, cK5_3, cK5_4, cK5_5, cK5_6⟩
        go_region_held3 (fun W => W.cell? ⟨g5, 0, none⟩ = some (.int .i64 ds) ∧ W.cell? ⟨g5, 1, none⟩ = some (.int .i64 dst) ∧ W.cell? ⟨g5, 2, none⟩ = some (.int .i64 dnx) ∧ W.cell? ⟨g5, 3, none⟩ = some (.int .i64 dg) ∧ W.cell? ⟨g5, 4, none⟩ = some (.int .i64 dsl) ∧ W.cell? ⟨g5, 5, none⟩ = some (.slice A7 n7 c7) ∧ W.cell? ⟨g5, 6, none⟩ = some (.string T)) (first | ((repeat (with_reducible first | exact HC | (refine drew7 ?_) | (refine far7 rfl (by assumption) ?_) | (refine bel7 hb (by first | assumption | exact lc9) ?_) | fail)); done) | fail) (first | (go_at_call 136; with_reducible refine (stalls_c _).mono ?_; rintro e w9 ⟨rfl, hb⟩; have HO := Own.below (base := w.heap.size + 3) (A := A7) (xs := dx) zq60 hb; have HB := bl_step (w := w) zq0 hb; have hzB := HB.size; have K1 := Blk.on zq6 zq9 hb; (try clear eK1); have eK1 := Blk.ev K1; have K2 := Blk.on zq15 zq21 hb; (try clear eK2); have eK2 := Blk.ev K2; have K5 := Blk.on zq36 zq56 hb; (try clear eK5); have eK5 := Blk.ev K5) | fail)
        all_goals (go_wp2_with fail; refine body_gen (g1 := w.heap.size + 1) (cs1 := #[.int .i64 ds, .int .i64 dst, .int .i64 dnx, .int .i64 dg, .int .i64 dsl, .slice A7 n7 c7]) (t1 := 28) (g2 := w.heap.size + 2) (cs2 := #[.bool false, .bool true, .string ⟨#[]⟩]) (t2 := 107) (b := w.heap.size) (A := A7) (xs := dx) (w := w) zq24 zq25 zq40 zq1 ?_; intro wf L1 L2 HOf HBf; obtain ⟨e0, e1, e2, e3, e4, e5, _⟩ := Blk.all6 L1; obtain ⟨e6, e7, e8, _⟩ := Blk.all3 L2; exact bodyPost_ret (v := .tuple #[.agg #[.int .i64 ds, .int .i64 dst, .int .i64 dnx, .int .i64 dg, .int .i64 dsl, .slice A7 n7 c7], .agg #[.bool false, .bool true, .string ⟨#[]⟩], .int .i64 0]) (by simp [results, Tryz.results70, go_sem, e0, e1, e2, e3, e4, e5, e6, e7, e8]) rfl (by rw [q0]; exact ⟨⟨A7, n7, c7, rfl, h7, HOf⟩, HBf⟩))
    · have q0 : fb = false := by rw [hfb]; simp [hd7]
      have q1 : (ds == 7) = false := by simpa using hd7
      clear hd7 hfb
      go_upto_region 11 with fail
      have HC : wc.cell? ⟨g5, 0, none⟩ = some (.int .i64 ds) ∧ wc.cell? ⟨g5, 1, none⟩ = some (.int .i64 dst) ∧ wc.cell? ⟨g5, 2, none⟩ = some (.int .i64 dnx) ∧ wc.cell? ⟨g5, 3, none⟩ = some (.int .i64 dg) ∧ wc.cell? ⟨g5, 4, none⟩ = some (.int .i64 dsl) ∧ wc.cell? ⟨g5, 5, none⟩ = some (.slice A7 n7 c7) ∧ wc.cell? ⟨g5, 6, none⟩ = some (.string T) := ⟨cK5_0, cK5_1, cK5_2, cK5_3, cK5_4, cK5_5, cK5_6⟩
      go_region_held3 (fun W => W.cell? ⟨g5, 0, none⟩ = some (.int .i64 ds) ∧ W.cell? ⟨g5, 1, none⟩ = some (.int .i64 dst) ∧ W.cell? ⟨g5, 2, none⟩ = some (.int .i64 dnx) ∧ W.cell? ⟨g5, 3, none⟩ = some (.int .i64 dg) ∧ W.cell? ⟨g5, 4, none⟩ = some (.int .i64 dsl) ∧ W.cell? ⟨g5, 5, none⟩ = some (.slice A7 n7 c7) ∧ W.cell? ⟨g5, 6, none⟩ = some (.string T)) (first | ((repeat (with_reducible first | exact HC | (refine drew7 ?_) | (refine far7 rfl (by assumption) ?_) | fail)); done) | fail) (fail)
      all_goals (go_wp2_with fail; refine body_gen (g1 := w.heap.size + 1) (cs1 := #[.int .i64 ds, .int .i64 dst, .int .i64 dnx, .int .i64 dg, .int .i64 dsl, .slice A7 n7 c7]) (t1 := 28) (g2 := w.heap.size + 2) (cs2 := #[.bool false, .bool false, .string T]) (t2 := 107) (b := w.heap.size) (A := A7) (xs := dx) (w := w) zq24 zq25 zq40 zq1 ?_; intro wf L1 L2 HOf HBf; obtain ⟨e0, e1, e2, e3, e4, e5, _⟩ := Blk.all6 L1; obtain ⟨e6, e7, e8, _⟩ := Blk.all3 L2; exact bodyPost_ret (v := .tuple #[.agg #[.int .i64 ds, .int .i64 dst, .int .i64 dnx, .int .i64 dg, .int .i64 dsl, .slice A7 n7 c7], .agg #[.bool false, .bool false, .string T], .int .i64 0]) (by simp [results, Tryz.results70, go_sem, e0, e1, e2, e3, e4, e5, e6, e7, e8]) rfl (by rw [q0]; exact ⟨⟨A7, n7, c7, rfl, h7, HOf⟩, HBf⟩))
set_option maxRecDepth 100000 in
set_option maxHeartbeats 12800000 in
theorem handle_y3 (f : ByteArray) (d : DS) (a t : ByteArray) (A : Option Addr) (c n : Nat) (w : World) (hl : Row w A d.ops) (hn : d.ops.length = n) (hb : bothB f d = true) (hok : handOk d a t = true) (hc : setC a = 3) :
    Calls Tryz.prog 70 #[.string f, (.agg #[.int .i64 d.st, .int .i64 d.su, .int .i64 d.nx, .int .i64 d.go, .int .i64 d.sl, .slice A n c]), .string a, .string t] w (Hands w (doneD f d a t) (failB d (doneD f d a t)) (bif failB d (doneD f d a t) then ⟨#[]⟩ else doesT f d (setC a) (setV a) (setL a)) 0) := by
  obtain ⟨hg, hfit, hal⟩ := hand_parts hok
  have hdd := (does_D (f := f) (d := d) (c := setC a) (v := setV a) (l := setL a) (t := t)).2.2.1 hc
  have mc := Lib.hid (fun W (h : Below w.heap.size w W) => getstatus_c f d (setC a) (setV a) (setL a) t A c n W (hl.below h) hn hb)
  have hDE : doneD f d a t = doesD f d (setC a) (setV a) (setL a) t := rfl
  rw [hDE]
  rw [hdd.1, hdd.2]
  clear hdd hDE
  have dc := Lib.hid (fun W : World => does_3 W)
  obtain ⟨D, hD⟩ : ∃ D, D = statD f d := ⟨_, rfl⟩
  obtain ⟨T, hT⟩ : ∃ T : ByteArray, T = tellB (statD f d) := ⟨_, rfl⟩
  have mc := Lib.hid (fun W (h : Below w.heap.size w W) => (show Calls _ _ _ _ (Dones W D T) from by rw [hD, hT]; exact mc.out W h))
  have key : Calls Tryz.prog 70 #[.string f, (.agg #[.int .i64 d.st, .int .i64 d.su, .int .i64 d.nx, .int .i64 d.go, .int .i64 d.sl, .slice A n c]), .string a, .string t] w (Hands w D (failB d D) (bif failB d D then ⟨#[]⟩ else T) 0) := ?_
  · rw [hD, hT] at key
    exact key
  clear hD hT
  obtain ⟨ds, dst, dnx, dg, dsl, dx⟩ := D
  obtain ⟨s, st, nx, g, sl, xs⟩ := d
  simp only at hl hn hal ⊢
  have HB := Below.refl w.heap.size w
  have K0 := Blk.new w #[.int .i64 s, .int .i64 st, .int .i64 nx, .int .i64 g, .int .i64 sl, .slice A n c] 28
  have K1 := fun cs0 => Blk.new1 w (.cells cs0 28) #[.int .i64 0, .int .i64 0, .int .i64 0, .int .i64 0, .int .i64 0, .slice none 0 0] 28
  have K2 := fun cs0 cs1 => Blk.new2 w (.cells cs0 28) (.cells cs1 28) #[.bool false, .bool false, .string ⟨#[]⟩] 107
  obtain ⟨hf, hmay⟩ := both_parts hb
  have mm := Lib.hid (fun W : World => may_c f W (by omega))
  rw [decide_eq_true hf] at mm
  have dm := Lib.hid (fun W (h : Below w.heap.size w W) => devMay_c s st nx g sl A c n xs W (hl.below h) hn)
  rw [show devMay s st nx g sl xs = true from hmay] at dm
  obtain ⟨m1, m2, m3, m4, m5⟩ := may_nums hmay
  simp only at m1
  have gs := Lib.hid (fun W : World => Su.sget_c a W)
  rw [gotW_yes hg, hg] at gs
  obtain ⟨⟨gc0, gc1⟩, _, _⟩ := got_set hg
  have al := Lib.hid (fun W : World => Tb.allowed_c s (setC a) W)
  have r1 : rngB s 0 7 = true := by simp [rngB]; omega
  have r2 : rngB (setC a) 0 6 = true := by simp [rngB]; omega
  have hq : Tb.allowE s (setC a) = 0 := by rw [Tb.allowE, r1, r2]; rfl
  rw [hal] at al
  have ft := Lib.hid (fun W : World => fits_c f s st nx g sl A n c (setC a) (setV a) (setL a) t W)
  rw [show fitB (setC a) (setL a) t = true by unfold fitB; exact decide_eq_true hfit] at ft
  clear hb hl hn hmay m1 m2 m3 m4 m5 hf hg hok hal hfit r1 r2 gc0 gc1
  simp only [Dones] at mc
  obtain ⟨fb, hfb⟩ : ∃ fb, fb = failB ⟨s, st, nx, g, sl, xs⟩ ⟨ds, dst, dnx, dg, dsl, dx⟩ := ⟨_, rfl⟩
  rw [← hfb]
  simp only [failB] at hfb
  have hcc : setC a = 3 := hc
  rw [hcc] at gs al ft mc hq
  clear hcc hc
  generalize setV a = v at *
  generalize setL a = l at *
  go_enter Tryz.func70, Tryz.ntmps70
  go_upto_region 8 with (first | (go_at_call 76; with_reducible refine (mm.out _).mono ?_; rintro e w' ⟨rfl, rfl⟩) | ((first | (go_at_call 104; with_reducible refine (dm.out _ zq1).mono ?_; rintro e w' ⟨rfl, hb⟩) | (go_at_call 133; with_reducible refine (al.out _).mono ?_; rintro e w' ⟨rfl, hb⟩) | (go_at_call 134; with_reducible refine (ft.out _).mono ?_; rintro e w' ⟨rfl, hb⟩)); have HB := bl_step (w := w) zq0 hb; have hzB := HB.size; have K0 := Blk.on zq3 zq10 hb; (try clear eK0); have eK0 := Blk.ev K0; have K1 := Blk.on zq6 zq9 hb; (try clear eK1); have eK1 := Blk.ev K1; have K2 := Blk.on zq15 zq21 hb; (try clear eK2); have eK2 := Blk.ev K2; (try (have K3 := Blk.on zq26 zq28 hb; (try clear eK3); have eK3 := Blk.ev K3)); (try (have K4 := Blk.on zq38 zq42 hb; (try clear eK4); have eK4 := Blk.ev K4))) | (go_at_call 132; with_reducible refine (gs.out _).mono ?_; rintro e w3 ⟨rfl, hb⟩; have HB := bl_step (w := w) zq0 hb; have hzB := HB.size; have K0 := Blk.on zq3 zq10 hb; (try clear eK0); have eK0 := Blk.ev K0; have K1 := Blk.on zq6 zq9 hb; (try clear eK1); have eK1 := Blk.ev K1; have K2 := Blk.on zq15 zq21 hb; (try clear eK2); have eK2 := Blk.ev K2; (try (have K3 := Blk.on zq26 zq28 hb; (try clear eK3); have eK3 := Blk.ev K3)); (try (have K4 := Blk.on zq38 zq42 hb; (try clear eK4); have eK4 := Blk.ev K4)); have K3 := fun cs => Blk.new w3 cs 105; have K4 := fun o cs => Blk.new1 w3 o cs 170) | fail)
  go_cut [16] (fun v16 wc => ∃ (g5 : Nat) (A7 : Option Addr) (n7 c7 : Nat), v16 = .pointer (some ⟨g5, 0, none⟩) ∧ w.heap.size + 3 ≤ g5 ∧ dx.length = n7 ∧ Aside (Blk wc g5 #[.int .i64 ds, .int .i64 dst, .int .i64 dnx, .int .i64 dg, .int .i64 dsl, .slice A7 n7 c7, .string T] 175) ∧ Aside (Blk wc w.heap.size #[.int .i64 s, .int .i64 st, .int .i64 nx, .int .i64 g, .int .i64 sl, .slice A n c] 28) ∧ Aside (Blk wc (w.heap.size + 1) #[.int .i64 0, .int .i64 0, .int .i64 0, .int .i64 0, .int .i64 0, .slice none 0 0] 28) ∧ Aside (Blk wc (w.heap.size + 2) #[.bool false, .bool false, .string ⟨#[]⟩] 107) ∧ Aside (Own wc (w.heap.size + 3) A7 dx) ∧ Aside (Below w.heap.size w wc))
  case first =>
    have h38 : w.heap.size + 3 ≤ w'.heap.size := by omega
    have hlt9 : w'.heap.size < ((w'.alloc (.cells #[.int .i64 0, .int .i64 0, .int .i64 0, .int .i64 0, .int .i64 0, .slice none 0 0, .string ⟨#[]⟩] 175)).drew).heap.size := (by show _ < (w'.heap.push _).size; simp)
    have h39 : w.heap.size + 3 ≤ ((w'.alloc (.cells #[.int .i64 0, .int .i64 0, .int .i64 0, .int .i64 0, .int .i64 0, .slice none 0 0, .string ⟨#[]⟩] 175)).drew).heap.size := Nat.le_trans h38 (Nat.le_of_lt hlt9)
    go_region_held3 (fun W => W.cell? ⟨w3.heap.size, 0, none⟩ = some (.int .i64 3) ∧ W.cell? ⟨w3.heap.size + 1, 0, none⟩ = some (.string f) ∧ W.cell? ⟨w3.heap.size + 1, 1, none⟩ = some (.int .i64 s) ∧ W.cell? ⟨w3.heap.size + 1, 2, none⟩ = some (.int .i64 st) ∧ W.cell? ⟨w3.heap.size + 1, 3, none⟩ = some (.int .i64 nx) ∧ W.cell? ⟨w3.heap.size + 1, 4, none⟩ = some (.int .i64 g) ∧ W.cell? ⟨w3.heap.size + 1, 5, none⟩ = some (.int .i64 sl) ∧ W.cell? ⟨w3.heap.size + 1, 6, none⟩ = some (.slice A n c) ∧ W.cell? ⟨w3.heap.size + 1, 7, none⟩ = some (.int .i64 3) ∧ W.cell? ⟨w3.heap.size + 1, 8, none⟩ = some (.int .i64 v) ∧ W.cell? ⟨w3.heap.size + 1, 9, none⟩ = some (.int .i64 l) ∧ W.cell? ⟨w3.heap.size + 1, 10, none⟩ = some (.string t) ∧ Below w'.heap.size w' W) (first | (refine keep12 (eK3.1 0) K4 ?_; (repeat (with_reducible first | exact Below.refl _ _ | apply bl_alloc | apply bl_drew | apply bl_drewN | (refine bl_set ?_ (by omega)) | (refine bl_step ?_ (by assumption)) | fail)); done) | fail) (first | (go_at_call 137; with_reducible refine (dc.out _).mono ?_; rintro e wq ⟨rfl, rfl⟩) | (go_at_call 188; (with_reducible refine (mc.out _ zq1).mono ?_); rintro e w7 ⟨⟨A7, n7, c7, rfl, h7, HO7⟩, hb⟩; obtain ⟨hcc, hff, hll, hnn, hnm⟩ := keep hb; have HO7 := HO7.top; have hz7 : w'.heap.size ≤ w7.heap.size := (by first | exact hb.size | exact Nat.le_trans (Nat.le_of_lt hlt9) hb.size)) | fail)
    all_goals (go_wp2_with fail; go_meet)
    · exact way7_new HB h38 K0 K1 K2 h7 hb HO7
    all_goals with_reducible exact way7_old HB h38 K0 K1 K2 h7 hb HO7
  case rest =>
    obtain ⟨g5, A7, n7, c7, rfl, hg5, h7, BK5, BK0, BK1, BK2, BO, BB⟩ := hcut
    have K5 := BK5.out
    have K0 := BK0.out
    have K1 := BK1.out
    have K2 := BK2.out
    have HO := BO.out
    have HBc := BB.out
    clear BK5 BK0 BK1 BK2 BO BB HB hb hzB mm dm gs al ft dc mc hq
    (try clear K3 K4 cK0_0 cK0_1 cK0_2 cK0_3 cK0_4 cK0_5 fK0 lK0 nK0 mK0 cK1_0 cK1_1 cK1_2 cK1_3 cK1_4 cK1_5 fK1 lK1 nK1 mK1 cK2_0 cK2_1 cK2_2 fK2 lK2 nK2 mK2)
    (try clear cK3_0 cK3_1 cK3_2 fK3 lK3 nK3 mK3 cK4_0 cK4_1 cK4_2 cK4_3 cK4_4 cK4_5 cK4_6 cK4_7 cK4_8 cK4_9 cK4_10 fK4 lK4 nK4 mK4)
    have HB := HBc
    clear HBc
    obtain ⟨cK0_0, cK0_1, cK0_2, cK0_3, cK0_4, cK0_5, fK0, lK0, nK0, mK0⟩ := Blk.all6 K0
    obtain ⟨cK1_0, cK1_1, cK1_2, cK1_3, cK1_4, cK1_5, fK1, lK1, nK1, mK1⟩ := Blk.all6 K1
    obtain ⟨cK2_0, cK2_1, cK2_2, fK2, lK2, nK2, mK2⟩ := Blk.all3 K2
    obtain ⟨cK5_0, cK5_1, cK5_2, cK5_3, cK5_4, cK5_5, cK5_6, fK5, lK5, nK5, mK5⟩ := Blk.all7 K5
    have lc9 : g5 < wc.drew.heap.size := lK5
    have z1 : g5 ≠ w.heap.size + 1 := by omega
    have z2 : g5 ≠ w.heap.size + 2 := by omega
    have z3 : w.heap.size + 1 ≠ g5 := by omega
    have z4 : w.heap.size + 2 ≠ g5 := by omega
    by_cases hd7 : ds = 7
    · by_cases hs7 : s = 7
      · have q0 : fb = false := by rw [hfb]; simp [hd7, hs7]
        have q1 : (ds == 7) = true := by simpa using hd7
        have q2 : (s != 7) = false := by simp [hs7]
        clear hd7 hs7 hfb
        go_upto_region 11 with fail
        have HC : wc.cell? ⟨g5, 0, none⟩ = some (.int .i64 ds) ∧ wc.cell? ⟨g5, 1, none⟩ = some (.int .i64 dst) ∧ wc.cell? ⟨g5, 2, none⟩ = some (.int .i64 dnx) ∧ wc.cell? ⟨g5, 3, none⟩ = some (.int .i64 dg) ∧ wc.cell? ⟨g5, 4, none⟩ = some (.int .i64 dsl) ∧ wc.cell? ⟨g5, 5, none⟩ = some (.slice A7 n7 c7) ∧ wc.cell? ⟨g5, 6, none⟩ = some (.string T) := ⟨cK5_0, cK5_1, cK5_2, cK5_3, cK5_4, cK5_5, cK5_6⟩
        go_region_held3 (fun W => W.cell? ⟨g5, 0, none⟩ = some (.int .i64 ds) ∧ W.cell? ⟨g5, 1, none⟩ = some (.int .i64 dst) ∧ W.cell? ⟨g5, 2, none⟩ = some (.int .i64 dnx) ∧ W.cell? ⟨g5, 3, none⟩ = some (.int .i64 dg) ∧ W.cell? ⟨g5, 4, none⟩ = some (.int .i64 dsl) ∧ W.cell? ⟨g5, 5, none⟩ = some (.slice A7 n7 c7) ∧ W.cell? ⟨g5, 6, none⟩ = some (.string T)) (first | ((repeat (with_reducible first | exact HC | (refine drew7 ?_) | (refine far7 rfl (by assumption) ?_) | fail)); done) | fail) (fail)
        all_goals (go_wp2_with fail; refine body_gen (g1 := w.heap.size + 1) (cs1 := #[.int .i64 ds, .int .i64 dst, .int .i64 dnx, .int .i64 dg, .int .i64 dsl, .slice A7 n7 c7]) (t1 := 28) (g2 := w.heap.size + 2) (cs2 := #[.bool false, .bool false, .string T]) (t2 := 107) (b := w.heap.size) (A := A7) (xs := dx) (w := w) zq24 zq25 zq40 zq1 ?_; intro wf L1 L2 HOf HBf; obtain ⟨e0, e1, e2, e3, e4, e5, _⟩ := Blk.all6 L1; obtain ⟨e6, e7, e8, _⟩ := Blk.all3 L2; exact bodyPost_ret (v := .tuple #[.agg #[.int .i64 ds, .int .i64 dst, .int .i64 dnx, .int .i64 dg, .int .i64 dsl, .slice A7 n7 c7], .agg #[.bool false, .bool false, .string T], .int .i64 0]) (by simp [results, Tryz.results70, go_sem, e0, e1, e2, e3, e4, e5, e6, e7, e8]) rfl (by rw [q0]; exact ⟨⟨A7, n7, c7, rfl, h7, HOf⟩, HBf⟩))
      · have q0 : fb = true := by rw [hfb]; simp [hd7, hs7]
        have q1 : (ds == 7) = true := by simpa using hd7
        have q2 : (s != 7) = true := by simpa using hs7
        clear hd7 hs7 hfb
        go_upto_region 10 with fail
        have HC : wc.cell? ⟨g5, 0, none⟩ = some (.int .i64 ds) ∧ wc.cell? ⟨g5, 1, none⟩ = some (.int .i64 dst) ∧ wc.cell? ⟨g5, 2, none⟩ = some (.int .i64 dnx) ∧ wc.cell? ⟨g5, 3, none⟩ = some (.int .i64 dg) ∧ wc.cell? ⟨g5, 4, none⟩ = some (.int .i64 dsl) ∧ wc.cell? ⟨g5, 5, none⟩ = some (.slice A7 n7 c7) ∧ wc.cell? ⟨g5, 6, none⟩ = some (.string T) := ⟨cK5_0, cK5_1, cK5_2, cK5_3, cK5_4, cK5_5, cK5_6⟩
        go_region_held3 (fun W => W.cell? ⟨g5, 0, none⟩ = some (.int .i64 ds) ∧ W.cell? ⟨g5, 1, none⟩ = some (.int .i64 dst) ∧ W.cell? ⟨g5, 2, none⟩ = some (.int .i64 dnx) ∧ W.cell? ⟨g5, 3, none⟩ = some (.int .i64 dg) ∧ W.cell? ⟨g5, 4, none⟩ = some (.int .i64 dsl) ∧ W.cell? ⟨g5, 5, none⟩ = some (.slice A7 n7 c7) ∧ W.cell? ⟨g5, 6, none⟩ = some (.string T)) (first | ((repeat (with_reducible first | exact HC | (refine drew7 ?_) | (refine far7 rfl (by assumption) ?_) | (refine bel7 hb (by first | assumption | exact lc9) ?_) | fail)); done) | fail) (first | (go_at_call 136; with_reducible refine (stalls_c _).mono ?_; rintro e w9 ⟨rfl, hb⟩; have HO := Own.below (base := w.heap.size + 3) (A := A7) (xs := dx) zq60 hb; have HB := bl_step (w := w) zq0 hb; have hzB := HB.size; have K1 := Blk.on zq6 zq9 hb; (try clear eK1); have eK1 := Blk.ev K1; have K2 := Blk.on zq15 zq21 hb; (try clear eK2); have eK2 := Blk.ev K2; have K5 := Blk.on zq36 zq56 hb; (try clear eK5); have eK5 := Blk.ev K5) | fail)
        all_goals (go_wp2_with fail; refine body_gen (g1 := w.heap.size + 1) (cs1 := #[.int .i64 ds, .int .i64 dst, .int .i64 dnx, .int .i64 dg, .int .i64 dsl, .slice A7 n7 c7]) (t1 := 28) (g2 := w.heap.size + 2) (cs2 := #[.bool false, .bool true, .string ⟨#[]⟩]) (t2 := 107) (b := w.heap.size) (A := A7) (xs := dx) (w := w) zq24 zq25 zq40 zq1 ?_; intro wf L1 L2 HOf HBf; obtain ⟨e0, e1, e2, e3, e4, e5, _⟩ := Blk.all6 L1; obtain ⟨e6, e7, e8, _⟩ := Blk.all3 L2; exact bodyPost_ret (v := .tuple #[.agg #[.int .i64 ds, .int .i64 dst, .int .i64 dnx, .int .i64 dg, .int .i64 dsl, .slice A7 n7 c7], .agg #[.bool false, .bool true, .string ⟨#[]⟩], .int .i64 0]) (by simp [results, Tryz.results70, go_sem, e0, e1, e2, e3, e4, e5, e6, e7, e8]) rfl (by rw [q0]; exact ⟨⟨A7, n7, c7, rfl, h7, HOf⟩, HBf⟩))
    · have q0 : fb = false := by rw [hfb]; simp [hd7]
      have q1 : (ds == 7) = false := by simpa using hd7
      clear hd7 hfb
      go_upto_region 11 with fail
      have HC : wc.cell? ⟨g5, 0, none⟩ = some (.int .i64 ds) ∧ wc.cell? ⟨g5, 1, none⟩ = some (.int .i64 dst) ∧ wc.cell? ⟨g5, 2, none⟩ = some (.int .i64 dnx) ∧ wc.cell? ⟨g5, 3, none⟩ = some (.int .i64 dg) ∧ wc.cell? ⟨g5, 4, none⟩ = some (.int .i64 dsl) ∧ wc.cell? ⟨g5, 5, none⟩ = some (.slice A7 n7 c7) ∧ wc.cell? ⟨g5, 6, none⟩ = some (.string T) := ⟨cK5_0, cK5_1, cK5_2, cK5_3, cK5_4, cK5_5, cK5_6⟩
      go_region_held3 (fun W => W.cell? ⟨g5, 0, none⟩ = some (.int .i64 ds) ∧ W.cell? ⟨g5, 1, none⟩ = some (.int .i64 dst) ∧ W.cell? ⟨g5, 2, none⟩ = some (.int .i64 dnx) ∧ W.cell? ⟨g5, 3, none⟩ = some (.int .i64 dg) ∧ W.cell? ⟨g5, 4, none⟩ = some (.int .i64 dsl) ∧ W.cell? ⟨g5, 5, none⟩ = some (.slice A7 n7 c7) ∧ W.cell? ⟨g5, 6, none⟩ = some (.string T)) (first | ((repeat (with_reducible first | exact HC | (refine drew7 ?_) | (refine far7 rfl (by assumption) ?_) | fail)); done) | fail) (fail)
      all_goals (go_wp2_with fail; refine body_gen (g1 := w.heap.size + 1) (cs1 := #[.int .i64 ds, .int .i64 dst, .int .i64 dnx, .int .i64 dg, .int .i64 dsl, .slice A7 n7 c7]) (t1 := 28) (g2 := w.heap.size + 2) (cs2 := #[.bool false, .bool false, .string T]) (t2 := 107) (b := w.heap.size) (A := A7) (xs := dx) (w := w) zq24 zq25 zq40 zq1 ?_; intro wf L1 L2 HOf HBf; obtain ⟨e0, e1, e2, e3, e4, e5, _⟩ := Blk.all6 L1; obtain ⟨e6, e7, e8, _⟩ := Blk.all3 L2; exact bodyPost_ret (v := .tuple #[.agg #[.int .i64 ds, .int .i64 dst, .int .i64 dnx, .int .i64 dg, .int .i64 dsl, .slice A7 n7 c7], .agg #[.bool false, .bool false, .string T], .int .i64 0]) (by simp [results, Tryz.results70, go_sem, e0, e1, e2, e3, e4, e5, e6, e7, e8]) rfl (by rw [q0]; exact ⟨⟨A7, n7, c7, rfl, h7, HOf⟩, HBf⟩))
set_option maxRecDepth 100000 in
set_option maxHeartbeats 12800000 in
theorem handle_y5 (f : ByteArray) (d : DS) (a t : ByteArray) (A : Option Addr) (c n : Nat) (w : World) (hl : Row w A d.ops) (hn : d.ops.length = n) (hb : bothB f d = true) (hok : handOk d a t = true) (hc : setC a = 5) :
    Calls Tryz.prog 70 #[.string f, (.agg #[.int .i64 d.st, .int .i64 d.su, .int .i64 d.nx, .int .i64 d.go, .int .i64 d.sl, .slice A n c]), .string a, .string t] w (Hands w (doneD f d a t) (failB d (doneD f d a t)) (bif failB d (doneD f d a t) then ⟨#[]⟩ else doesT f d (setC a) (setV a) (setL a)) 0) := by
  obtain ⟨hg, hfit, hal⟩ := hand_parts hok
  have hdd := (does_D (f := f) (d := d) (c := setC a) (v := setV a) (l := setL a) (t := t)).2.2.2.1 hc
  have mc := Lib.hid (fun W (h : Below w.heap.size w W) => getstate_c f d (setC a) (setV a) (setL a) t A c n W (hl.below h) hn hb)
  have hDE : doneD f d a t = doesD f d (setC a) (setV a) (setL a) t := rfl
  rw [hDE]
  rw [hdd.1, hdd.2]
  clear hdd hDE
  have dc := Lib.hid (fun W : World => does_5 W)
  obtain ⟨D, hD⟩ : ∃ D, D = d := ⟨_, rfl⟩
  obtain ⟨T, hT⟩ : ∃ T : ByteArray, T = lowB d.st 1 := ⟨_, rfl⟩
  have mc := Lib.hid (fun W (h : Below w.heap.size w W) => (show Calls _ _ _ _ (Dones W D T) from by rw [hD, hT]; exact mc.out W h))
  have key : Calls Tryz.prog 70 #[.string f, (.agg #[.int .i64 d.st, .int .i64 d.su, .int .i64 d.nx, .int .i64 d.go, .int .i64 d.sl, .slice A n c]), .string a, .string t] w (Hands w D (failB d D) (bif failB d D then ⟨#[]⟩ else T) 0) := ?_
  · rw [hD, hT] at key
    exact key
  clear hD hT
  obtain ⟨ds, dst, dnx, dg, dsl, dx⟩ := D
  obtain ⟨s, st, nx, g, sl, xs⟩ := d
  simp only at hl hn hal ⊢
  have HB := Below.refl w.heap.size w
  have K0 := Blk.new w #[.int .i64 s, .int .i64 st, .int .i64 nx, .int .i64 g, .int .i64 sl, .slice A n c] 28
  have K1 := fun cs0 => Blk.new1 w (.cells cs0 28) #[.int .i64 0, .int .i64 0, .int .i64 0, .int .i64 0, .int .i64 0, .slice none 0 0] 28
  have K2 := fun cs0 cs1 => Blk.new2 w (.cells cs0 28) (.cells cs1 28) #[.bool false, .bool false, .string ⟨#[]⟩] 107
  obtain ⟨hf, hmay⟩ := both_parts hb
  have mm := Lib.hid (fun W : World => may_c f W (by omega))
  rw [decide_eq_true hf] at mm
  have dm := Lib.hid (fun W (h : Below w.heap.size w W) => devMay_c s st nx g sl A c n xs W (hl.below h) hn)
  rw [show devMay s st nx g sl xs = true from hmay] at dm
  obtain ⟨m1, m2, m3, m4, m5⟩ := may_nums hmay
  simp only at m1
  have gs := Lib.hid (fun W : World => Su.sget_c a W)
  rw [gotW_yes hg, hg] at gs
  obtain ⟨⟨gc0, gc1⟩, _, _⟩ := got_set hg
  have al := Lib.hid (fun W : World => Tb.allowed_c s (setC a) W)
  have r1 : rngB s 0 7 = true := by simp [rngB]; omega
  have r2 : rngB (setC a) 0 6 = true := by simp [rngB]; omega
  have hq : Tb.allowE s (setC a) = 0 := by rw [Tb.allowE, r1, r2]; rfl
  rw [hal] at al
  have ft := Lib.hid (fun W : World => fits_c f s st nx g sl A n c (setC a) (setV a) (setL a) t W)
  rw [show fitB (setC a) (setL a) t = true by unfold fitB; exact decide_eq_true hfit] at ft
  clear hb hl hn hmay m1 m2 m3 m4 m5 hf hg hok hal hfit r1 r2 gc0 gc1
  simp only [Dones] at mc
  obtain ⟨fb, hfb⟩ : ∃ fb, fb = failB ⟨s, st, nx, g, sl, xs⟩ ⟨ds, dst, dnx, dg, dsl, dx⟩ := ⟨_, rfl⟩
  rw [← hfb]
  simp only [failB] at hfb
  have hcc : setC a = 5 := hc
  rw [hcc] at gs al ft mc hq
  clear hcc hc
  generalize setV a = v at *
  generalize setL a = l at *
  go_enter Tryz.func70, Tryz.ntmps70
  go_upto_region 8 with (first | (go_at_call 76; with_reducible refine (mm.out _).mono ?_; rintro e w' ⟨rfl, rfl⟩) | ((first | (go_at_call 104; with_reducible refine (dm.out _ zq1).mono ?_; rintro e w' ⟨rfl, hb⟩) | (go_at_call 133; with_reducible refine (al.out _).mono ?_; rintro e w' ⟨rfl, hb⟩) | (go_at_call 134; with_reducible refine (ft.out _).mono ?_; rintro e w' ⟨rfl, hb⟩)); have HB := bl_step (w := w) zq0 hb; have hzB := HB.size; have K0 := Blk.on zq3 zq10 hb; (try clear eK0); have eK0 := Blk.ev K0; have K1 := Blk.on zq6 zq9 hb; (try clear eK1); have eK1 := Blk.ev K1; have K2 := Blk.on zq15 zq21 hb; (try clear eK2); have eK2 := Blk.ev K2; (try (have K3 := Blk.on zq26 zq28 hb; (try clear eK3); have eK3 := Blk.ev K3)); (try (have K4 := Blk.on zq38 zq42 hb; (try clear eK4); have eK4 := Blk.ev K4))) | (go_at_call 132; with_reducible refine (gs.out _).mono ?_; rintro e w3 ⟨rfl, hb⟩; have HB := bl_step (w := w) zq0 hb; have hzB := HB.size; have K0 := Blk.on zq3 zq10 hb; (try clear eK0); have eK0 := Blk.ev K0; have K1 := Blk.on zq6 zq9 hb; (try clear eK1); have eK1 := Blk.ev K1; have K2 := Blk.on zq15 zq21 hb; (try clear eK2); have eK2 := Blk.ev K2; (try (have K3 := Blk.on zq26 zq28 hb; (try clear eK3); have eK3 := Blk.ev K3)); (try (have K4 := Blk.on zq38 zq42 hb; (try clear eK4); have eK4 := Blk.ev K4)); have K3 := fun cs => Blk.new w3 cs 105; have K4 := fun o cs => Blk.new1 w3 o cs 170) | fail)
  go_cut [16] (fun v16 wc => ∃ (g5 : Nat) (A7 : Option Addr) (n7 c7 : Nat), v16 = .pointer (some ⟨g5, 0, none⟩) ∧ w.heap.size + 3 ≤ g5 ∧ dx.length = n7 ∧ Aside (Blk wc g5 #[.int .i64 ds, .int .i64 dst, .int .i64 dnx, .int .i64 dg, .int .i64 dsl, .slice A7 n7 c7, .string T] 175) ∧ Aside (Blk wc w.heap.size #[.int .i64 s, .int .i64 st, .int .i64 nx, .int .i64 g, .int .i64 sl, .slice A n c] 28) ∧ Aside (Blk wc (w.heap.size + 1) #[.int .i64 0, .int .i64 0, .int .i64 0, .int .i64 0, .int .i64 0, .slice none 0 0] 28) ∧ Aside (Blk wc (w.heap.size + 2) #[.bool false, .bool false, .string ⟨#[]⟩] 107) ∧ Aside (Own wc (w.heap.size + 3) A7 dx) ∧ Aside (Below w.heap.size w wc))
  case first =>
    have h38 : w.heap.size + 3 ≤ w'.heap.size := by omega
    have hlt9 : w'.heap.size < ((w'.alloc (.cells #[.int .i64 0, .int .i64 0, .int .i64 0, .int .i64 0, .int .i64 0, .slice none 0 0, .string ⟨#[]⟩] 175)).drew).heap.size := (by show _ < (w'.heap.push _).size; simp)
    have h39 : w.heap.size + 3 ≤ ((w'.alloc (.cells #[.int .i64 0, .int .i64 0, .int .i64 0, .int .i64 0, .int .i64 0, .slice none 0 0, .string ⟨#[]⟩] 175)).drew).heap.size := Nat.le_trans h38 (Nat.le_of_lt hlt9)
    go_region_held3 (fun W => W.cell? ⟨w3.heap.size, 0, none⟩ = some (.int .i64 5) ∧ W.cell? ⟨w3.heap.size + 1, 0, none⟩ = some (.string f) ∧ W.cell? ⟨w3.heap.size + 1, 1, none⟩ = some (.int .i64 s) ∧ W.cell? ⟨w3.heap.size + 1, 2, none⟩ = some (.int .i64 st) ∧ W.cell? ⟨w3.heap.size + 1, 3, none⟩ = some (.int .i64 nx) ∧ W.cell? ⟨w3.heap.size + 1, 4, none⟩ = some (.int .i64 g) ∧ W.cell? ⟨w3.heap.size + 1, 5, none⟩ = some (.int .i64 sl) ∧ W.cell? ⟨w3.heap.size + 1, 6, none⟩ = some (.slice A n c) ∧ W.cell? ⟨w3.heap.size + 1, 7, none⟩ = some (.int .i64 5) ∧ W.cell? ⟨w3.heap.size + 1, 8, none⟩ = some (.int .i64 v) ∧ W.cell? ⟨w3.heap.size + 1, 9, none⟩ = some (.int .i64 l) ∧ W.cell? ⟨w3.heap.size + 1, 10, none⟩ = some (.string t) ∧ Below w'.heap.size w' W) (first | (refine keep12 (eK3.1 0) K4 ?_; (repeat (with_reducible first | exact Below.refl _ _ | apply bl_alloc | apply bl_drew | apply bl_drewN | (refine bl_set ?_ (by omega)) | (refine bl_step ?_ (by assumption)) | fail)); done) | fail) (first | (go_at_call 137; with_reducible refine (dc.out _).mono ?_; rintro e wq ⟨rfl, rfl⟩) | (go_at_call 189; (with_reducible refine (mc.out _ zq1).mono ?_); rintro e w7 ⟨⟨A7, n7, c7, rfl, h7, HO7⟩, hb⟩; obtain ⟨hcc, hff, hll, hnn, hnm⟩ := keep hb; have HO7 := HO7.top; have hz7 : w'.heap.size ≤ w7.heap.size := (by first | exact hb.size | exact Nat.le_trans (Nat.le_of_lt hlt9) hb.size)) | fail)
    all_goals (go_wp2_with fail; go_meet)
    · exact way7_new HB h38 K0 K1 K2 h7 hb HO7
    all_goals with_reducible exact way7_old HB h38 K0 K1 K2 h7 hb HO7
  case rest =>
    obtain ⟨g5, A7, n7, c7, rfl, hg5, h7, BK5, BK0, BK1, BK2, BO, BB⟩ := hcut
    have K5 := BK5.out
    have K0 := BK0.out
    have K1 := BK1.out
    have K2 := BK2.out
    have HO := BO.out
    have HBc := BB.out
    clear BK5 BK0 BK1 BK2 BO BB HB hb hzB mm dm gs al ft dc mc hq
    (try clear K3 K4 cK0_0 cK0_1 cK0_2 cK0_3 cK0_4 cK0_5 fK0 lK0 nK0 mK0 cK1_0 cK1_1 cK1_2 cK1_3 cK1_4 cK1_5 fK1 lK1 nK1 mK1 cK2_0 cK2_1 cK2_2 fK2 lK2 nK2 mK2)
    (try clear cK3_0 cK3_1 cK3_2 fK3 lK3 nK3 mK3 cK4_0 cK4_1 cK4_2 cK4_3 cK4_4 cK4_5 cK4_6 cK4_7 cK4_8 cK4_9 cK4_10 fK4 lK4 nK4 mK4)
    have HB := HBc
    clear HBc
    obtain ⟨cK0_0, cK0_1, cK0_2, cK0_3, cK0_4, cK0_5, fK0, lK0, nK0, mK0⟩ := Blk.all6 K0
    obtain ⟨cK1_0, cK1_1, cK1_2, cK1_3, cK1_4, cK1_5, fK1, lK1, nK1, mK1⟩ := Blk.all6 K1
    obtain ⟨cK2_0, cK2_1, cK2_2, fK2, lK2, nK2, mK2⟩ := Blk.all3 K2
    obtain ⟨cK5_0, cK5_1, cK5_2, cK5_3, cK5_4, cK5_5, cK5_6, fK5, lK5, nK5, mK5⟩ := Blk.all7 K5
    have lc9 : g5 < wc.drew.heap.size := lK5
    have z1 : g5 ≠ w.heap.size + 1 := by omega
    have z2 : g5 ≠ w.heap.size + 2 := by omega
    have z3 : w.heap.size + 1 ≠ g5 := by omega
    have z4 : w.heap.size + 2 ≠ g5 := by omega
    by_cases hd7 : ds = 7
    · by_cases hs7 : s = 7
      · have q0 : fb = false := by rw [hfb]; simp [hd7, hs7]
        have q1 : (ds == 7) = true := by simpa using hd7
        have q2 : (s != 7) = false := by simp [hs7]
        clear hd7 hs7 hfb
        go_upto_region 11 with fail
        have HC : wc.cell? ⟨g5, 0, none⟩ = some (.int .i64 ds) ∧ wc.cell? ⟨g5, 1, none⟩ = some (.int .i64 dst) ∧ wc.cell? ⟨g5, 2, none⟩ = some (.int .i64 dnx) ∧ wc.cell? ⟨g5, 3, none⟩ = some (.int .i64 dg) ∧ wc.cell? ⟨g5, 4, none⟩ = some (.int .i64 dsl) ∧ wc.cell? ⟨g5, 5, none⟩ = some (.slice A7 n7 c7) ∧ wc.cell? ⟨g5, 6, none⟩ = some (.string T) := ⟨cK5_0, cK5_1, cK5_2, cK5_3, cK5_4, cK5_5, cK5_6⟩
        go_region_held3 (fun W => W.cell? ⟨g5, 0, none⟩ = some (.int .i64 ds) ∧ W.cell? ⟨g5, 1, none⟩ = some (.int .i64 dst) ∧ W.cell? ⟨g5, 2, none⟩ = some (.int .i64 dnx) ∧ W.cell? ⟨g5, 3, none⟩ = some (.int .i64 dg) ∧ W.cell? ⟨g5, 4, none⟩ = some (.int .i64 dsl) ∧ W.cell? ⟨g5, 5, none⟩ = some (.slice A7 n7 c7) ∧ W.cell? ⟨g5, 6, none⟩ = some (.string T)) (first | ((repeat (with_reducible first | exact HC | (refine drew7 ?_) | (refine far7 rfl (by assumption) ?_) | fail)); done) | fail) (fail)
        all_goals (go_wp2_with fail; refine body_gen (g1 := w.heap.size + 1) (cs1 := #[.int .i64 ds, .int .i64 dst, .int .i64 dnx, .int .i64 dg, .int .i64 dsl, .slice A7 n7 c7]) (t1 := 28) (g2 := w.heap.size + 2) (cs2 := #[.bool false, .bool false, .string T]) (t2 := 107) (b := w.heap.size) (A := A7) (xs := dx) (w := w) zq24 zq25 zq40 zq1 ?_; intro wf L1 L2 HOf HBf; obtain ⟨e0, e1, e2, e3, e4, e5, _⟩ := Blk.all6 L1; obtain ⟨e6, e7, e8, _⟩ := Blk.all3 L2; exact bodyPost_ret (v := .tuple #[.agg #[.int .i64 ds, .int .i64 dst, .int .i64 dnx, .int .i64 dg, .int .i64 dsl, .slice A7 n7 c7], .agg #[.bool false, .bool false, .string T], .int .i64 0]) (by simp [results, Tryz.results70, go_sem, e0, e1, e2, e3, e4, e5, e6, e7, e8]) rfl (by rw [q0]; exact ⟨⟨A7, n7, c7, rfl, h7, HOf⟩, HBf⟩))
      · have q0 : fb = true := by rw [hfb]; simp [hd7, hs7]
        have q1 : (ds == 7) = true := by simpa using hd7
        have q2 : (s != 7) = true := by simpa using hs7
        clear hd7 hs7 hfb
        go_upto_region 10 with fail
        have HC : wc.cell? ⟨g5, 0, none⟩ = some (.int .i64 ds) ∧ wc.cell? ⟨g5, 1, none⟩ = some (.int .i64 dst) ∧ wc.cell? ⟨g5, 2, none⟩ = some (.int .i64 dnx) ∧ wc.cell? ⟨g5, 3, none⟩ = some (.int .i64 dg) ∧ wc.cell? ⟨g5, 4, none⟩ = some (.int .i64 dsl) ∧ wc.cell? ⟨g5, 5, none⟩ = some (.slice A7 n7 c7) ∧ wc.cell? ⟨g5, 6, none⟩ = some (.string T) := ⟨cK5_0, cK5_1, cK5_2, cK5_3, cK5_4, cK5_5, cK5_6⟩
        go_region_held3 (fun W => W.cell? ⟨g5, 0, none⟩ = some (.int .i64 ds) ∧ W.cell? ⟨g5, 1, none⟩ = some (.int .i64 dst) ∧ W.cell? ⟨g5, 2, none⟩ = some (.int .i64 dnx) ∧ W.cell? ⟨g5, 3, none⟩ = some (.int .i64 dg) ∧ W.cell? ⟨g5, 4, none⟩ = some (.int .i64 dsl) ∧ W.cell? ⟨g5, 5, none⟩ = some (.slice A7 n7 c7) ∧ W.cell? ⟨g5, 6, none⟩ = some (.string T)) (first | ((repeat (with_reducible first | exact HC | (refine drew7 ?_) | (refine far7 rfl (by assumption) ?_) | (refine bel7 hb (by first | assumption | exact lc9) ?_) | fail)); done) | fail) (first | (go_at_call 136; with_reducible refine (stalls_c _).mono ?_; rintro e w9 ⟨rfl, hb⟩; have HO := Own.below (base := w.heap.size + 3) (A := A7) (xs := dx) zq60 hb; have HB := bl_step (w := w) zq0 hb; have hzB := HB.size; have K1 := Blk.on zq6 zq9 hb; (try clear eK1); have eK1 := Blk.ev K1; have K2 := Blk.on zq15 zq21 hb; (try clear eK2); have eK2 := Blk.ev K2; have K5 := Blk.on zq36 zq56 hb; (try clear eK5); have eK5 := Blk.ev K5) | fail)
        all_goals (go_wp2_with fail; refine body_gen (g1 := w.heap.size + 1) (cs1 := #[.int .i64 ds, .int .i64 dst, .int .i64 dnx, .int .i64 dg, .int .i64 dsl, .slice A7 n7 c7]) (t1 := 28) (g2 := w.heap.size + 2) (cs2 := #[.bool false, .bool true, .string ⟨#[]⟩]) (t2 := 107) (b := w.heap.size) (A := A7) (xs := dx) (w := w) zq24 zq25 zq40 zq1 ?_; intro wf L1 L2 HOf HBf; obtain ⟨e0, e1, e2, e3, e4, e5, _⟩ := Blk.all6 L1; obtain ⟨e6, e7, e8, _⟩ := Blk.all3 L2; exact bodyPost_ret (v := .tuple #[.agg #[.int .i64 ds, .int .i64 dst, .int .i64 dnx, .int .i64 dg, .int .i64 dsl, .slice A7 n7 c7], .agg #[.bool false, .bool true, .string ⟨#[]⟩], .int .i64 0]) (by simp [results, Tryz.results70, go_sem, e0, e1, e2, e3, e4, e5, e6, e7, e8]) rfl (by rw [q0]; exact ⟨⟨A7, n7, c7, rfl, h7, HOf⟩, HBf⟩))
    · have q0 : fb = false := by rw [hfb]; simp [hd7]
      have q1 : (ds == 7) = false := by simpa using hd7
      clear hd7 hfb
      go_upto_region 11 with fail
      have HC : wc.cell? ⟨g5, 0, none⟩ = some (.int .i64 ds) ∧ wc.cell? ⟨g5, 1, none⟩ = some (.int .i64 dst) ∧ wc.cell? ⟨g5, 2, none⟩ = some (.int .i64 dnx) ∧ wc.cell? ⟨g5, 3, none⟩ = some (.int .i64 dg) ∧ wc.cell? ⟨g5, 4, none⟩ = some (.int .i64 dsl) ∧ wc.cell? ⟨g5, 5, none⟩ = some (.slice A7 n7 c7) ∧ wc.cell? ⟨g5, 6, none⟩ = some (.string T) := ⟨cK5_0, cK5_1, cK5_2, cK5_3, cK5_4, cK5_5, cK5_6⟩
      go_region_held3 (fun W => W.cell? ⟨g5, 0, none⟩ = some (.int .i64 ds) ∧ W.cell? ⟨g5, 1, none⟩ = some (.int .i64 dst) ∧ W.cell? ⟨g5, 2, none⟩ = some (.int .i64 dnx) ∧ W.cell? ⟨g5, 3, none⟩ = some (.int .i64 dg) ∧ W.cell? ⟨g5, 4, none⟩ = some (.int .i64 dsl) ∧ W.cell? ⟨g5, 5, none⟩ = some (.slice A7 n7 c7) ∧ W.cell? ⟨g5, 6, none⟩ = some (.string T)) (first | ((repeat (with_reducible first | exact HC | (refine drew7 ?_) | (refine far7 rfl (by assumption) ?_) | fail)); done) | fail) (fail)
      all_goals (go_wp2_with fail; refine body_gen (g1 := w.heap.size + 1) (cs1 := #[.int .i64 ds, .int .i64 dst, .int .i64 dnx, .int .i64 dg, .int .i64 dsl, .slice A7 n7 c7]) (t1 := 28) (g2 := w.heap.size + 2) (cs2 := #[.bool false, .bool false, .string T]) (t2 := 107) (b := w.heap.size) (A := A7) (xs := dx) (w := w) zq24 zq25 zq40 zq1 ?_; intro wf L1 L2 HOf HBf; obtain ⟨e0, e1, e2, e3, e4, e5, _⟩ := Blk.all6 L1; obtain ⟨e6, e7, e8, _⟩ := Blk.all3 L2; exact bodyPost_ret (v := .tuple #[.agg #[.int .i64 ds, .int .i64 dst, .int .i64 dnx, .int .i64 dg, .int .i64 dsl, .slice A7 n7 c7], .agg #[.bool false, .bool false, .string T], .int .i64 0]) (by simp [results, Tryz.results70, go_sem, e0, e1, e2, e3, e4, e5, e6, e7, e8]) rfl (by rw [q0]; exact ⟨⟨A7, n7, c7, rfl, h7, HOf⟩, HBf⟩))
set_option maxRecDepth 100000 in
set_option maxHeartbeats 12800000 in
theorem handle_y0 (f : ByteArray) (d : DS) (a t : ByteArray) (A : Option Addr) (c n : Nat) (w : World) (hl : Row w A d.ops) (hn : d.ops.length = n) (hb : bothB f d = true) (hok : handOk d a t = true) (h1 : ¬ setC a = 1) (h2 : ¬ setC a = 2) (h3 : ¬ setC a = 3) (h5 : ¬ setC a = 5) :
    Calls Tryz.prog 70 #[.string f, (.agg #[.int .i64 d.st, .int .i64 d.su, .int .i64 d.nx, .int .i64 d.go, .int .i64 d.sl, .slice A n c]), .string a, .string t] w (Hands w (doneD f d a t) (failB d (doneD f d a t)) (bif failB d (doneD f d a t) then ⟨#[]⟩ else doesT f d (setC a) (setV a) (setL a)) 0) := by
  obtain ⟨hg, hfit, hal⟩ := hand_parts hok
  have hdd := (does_D (f := f) (d := d) (c := setC a) (v := setV a) (l := setL a) (t := t)).2.2.2.2 h1 h2 h3 h5
  have mc := Lib.hid (fun W (h : Below w.heap.size w W) => anew_c f d (setC a) (setV a) (setL a) t A c n W (hl.below h) hn)
  have hDE : doneD f d a t = doesD f d (setC a) (setV a) (setL a) t := rfl
  rw [hDE]
  rw [hdd.1, hdd.2]
  clear hdd hDE
  have dc := Lib.hid (fun W : World => does_0 (setC a) W h1 h2 h3 h5)
  obtain ⟨D, hD⟩ : ∃ D, D = DS.zero := ⟨_, rfl⟩
  obtain ⟨T, hT⟩ : ∃ T : ByteArray, T = (⟨#[]⟩ : ByteArray) := ⟨_, rfl⟩
  have mc := Lib.hid (fun W (h : Below w.heap.size w W) => (show Calls _ _ _ _ (Dones W D T) from by rw [hD, hT]; exact mc.out W h))
  have key : Calls Tryz.prog 70 #[.string f, (.agg #[.int .i64 d.st, .int .i64 d.su, .int .i64 d.nx, .int .i64 d.go, .int .i64 d.sl, .slice A n c]), .string a, .string t] w (Hands w D (failB d D) (bif failB d D then ⟨#[]⟩ else T) 0) := ?_
  · rw [hD, hT] at key
    exact key
  clear hD hT
  obtain ⟨ds, dst, dnx, dg, dsl, dx⟩ := D
  obtain ⟨s, st, nx, g, sl, xs⟩ := d
  simp only at hl hn hal ⊢
  have HB := Below.refl w.heap.size w
  have K0 := Blk.new w #[.int .i64 s, .int .i64 st, .int .i64 nx, .int .i64 g, .int .i64 sl, .slice A n c] 28
  have K1 := fun cs0 => Blk.new1 w (.cells cs0 28) #[.int .i64 0, .int .i64 0, .int .i64 0, .int .i64 0, .int .i64 0, .slice none 0 0] 28
  have K2 := fun cs0 cs1 => Blk.new2 w (.cells cs0 28) (.cells cs1 28) #[.bool false, .bool false, .string ⟨#[]⟩] 107
  obtain ⟨hf, hmay⟩ := both_parts hb
  have mm := Lib.hid (fun W : World => may_c f W (by omega))
  rw [decide_eq_true hf] at mm
  have dm := Lib.hid (fun W (h : Below w.heap.size w W) => devMay_c s st nx g sl A c n xs W (hl.below h) hn)
  rw [show devMay s st nx g sl xs = true from hmay] at dm
  obtain ⟨m1, m2, m3, m4, m5⟩ := may_nums hmay
  simp only at m1
  have gs := Lib.hid (fun W : World => Su.sget_c a W)
  rw [gotW_yes hg, hg] at gs
  obtain ⟨⟨gc0, gc1⟩, _, _⟩ := got_set hg
  have al := Lib.hid (fun W : World => Tb.allowed_c s (setC a) W)
  have r1 : rngB s 0 7 = true := by simp [rngB]; omega
  have r2 : rngB (setC a) 0 6 = true := by simp [rngB]; omega
  have hq : Tb.allowE s (setC a) = 0 := by rw [Tb.allowE, r1, r2]; rfl
  rw [hal] at al
  have ft := Lib.hid (fun W : World => fits_c f s st nx g sl A n c (setC a) (setV a) (setL a) t W)
  rw [show fitB (setC a) (setL a) t = true by unfold fitB; exact decide_eq_true hfit] at ft
  clear hb hl hn hmay m1 m2 m3 m4 m5 hf hg hok hal hfit r1 r2 gc0 gc1
  simp only [Dones] at mc
  obtain ⟨fb, hfb⟩ : ∃ fb, fb = failB ⟨s, st, nx, g, sl, xs⟩ ⟨ds, dst, dnx, dg, dsl, dx⟩ := ⟨_, rfl⟩
  rw [← hfb]
  simp only [failB] at hfb
  clear h1 h2 h3 h5
  generalize setC a = cc at *
  generalize setV a = v at *
  generalize setL a = l at *
  go_enter Tryz.func70, Tryz.ntmps70
  go_upto_region 8 with (first | (go_at_call 76; with_reducible refine (mm.out _).mono ?_; rintro e w' ⟨rfl, rfl⟩) | ((first | (go_at_call 104; with_reducible refine (dm.out _ zq1).mono ?_; rintro e w' ⟨rfl, hb⟩) | (go_at_call 133; with_reducible refine (al.out _).mono ?_; rintro e w' ⟨rfl, hb⟩) | (go_at_call 134; with_reducible refine (ft.out _).mono ?_; rintro e w' ⟨rfl, hb⟩)); have HB := bl_step (w := w) zq0 hb; have hzB := HB.size; have K0 := Blk.on zq3 zq10 hb; (try clear eK0); have eK0 := Blk.ev K0; have K1 := Blk.on zq6 zq9 hb; (try clear eK1); have eK1 := Blk.ev K1; have K2 := Blk.on zq15 zq21 hb; (try clear eK2); have eK2 := Blk.ev K2; (try (have K3 := Blk.on zq26 zq28 hb; (try clear eK3); have eK3 := Blk.ev K3)); (try (have K4 := Blk.on zq38 zq42 hb; (try clear eK4); have eK4 := Blk.ev K4))) | (go_at_call 132; with_reducible refine (gs.out _).mono ?_; rintro e w3 ⟨rfl, hb⟩; have HB := bl_step (w := w) zq0 hb; have hzB := HB.size; have K0 := Blk.on zq3 zq10 hb; (try clear eK0); have eK0 := Blk.ev K0; have K1 := Blk.on zq6 zq9 hb; (try clear eK1); have eK1 := Blk.ev K1; have K2 := Blk.on zq15 zq21 hb; (try clear eK2); have eK2 := Blk.ev K2; (try (have K3 := Blk.on zq26 zq28 hb; (try clear eK3); have eK3 := Blk.ev K3)); (try (have K4 := Blk.on zq38 zq42 hb; (try clear eK4); have eK4 := Blk.ev K4)); have K3 := fun cs => Blk.new w3 cs 105; have K4 := fun o cs => Blk.new1 w3 o cs 170) | fail)
  go_cut [16] (fun v16 wc => ∃ (g5 : Nat) (A7 : Option Addr) (n7 c7 : Nat), v16 = .pointer (some ⟨g5, 0, none⟩) ∧ w.heap.size + 3 ≤ g5 ∧ dx.length = n7 ∧ Aside (Blk wc g5 #[.int .i64 ds, .int .i64 dst, .int .i64 dnx, .int .i64 dg, .int .i64 dsl, .slice A7 n7 c7, .string T] 175) ∧ Aside (Blk wc w.heap.size #[.int .i64 s, .int .i64 st, .int .i64 nx, .int .i64 g, .int .i64 sl, .slice A n c] 28) ∧ Aside (Blk wc (w.heap.size + 1) #[.int .i64 0, .int .i64 0, .int .i64 0, .int .i64 0, .int .i64 0, .slice none 0 0] 28) ∧ Aside (Blk wc (w.heap.size + 2) #[.bool false, .bool false, .string ⟨#[]⟩] 107) ∧ Aside (Own wc (w.heap.size + 3) A7 dx) ∧ Aside (Below w.heap.size w wc))
  case first =>
    have h38 : w.heap.size + 3 ≤ w'.heap.size := by omega
    have hlt9 : w'.heap.size < ((w'.alloc (.cells #[.int .i64 0, .int .i64 0, .int .i64 0, .int .i64 0, .int .i64 0, .slice none 0 0, .string ⟨#[]⟩] 175)).drew).heap.size := (by show _ < (w'.heap.push _).size; simp)
    have h39 : w.heap.size + 3 ≤ ((w'.alloc (.cells #[.int .i64 0, .int .i64 0, .int .i64 0, .int .i64 0, .int .i64 0, .slice none 0 0, .string ⟨#[]⟩] 175)).drew).heap.size := Nat.le_trans h38 (Nat.le_of_lt hlt9)
    go_region_held3 (fun W => W.cell? ⟨w3.heap.size, 0, none⟩ = some (.int .i64 cc) ∧ W.cell? ⟨w3.heap.size + 1, 0, none⟩ = some (.string f) ∧ W.cell? ⟨w3.heap.size + 1, 1, none⟩ = some (.int .i64 s) ∧ W.cell? ⟨w3.heap.size + 1, 2, none⟩ = some (.int .i64 st) ∧ W.cell? ⟨w3.heap.size + 1, 3, none⟩ = some (.int .i64 nx) ∧ W.cell? ⟨w3.heap.size + 1, 4, none⟩ = some (.int .i64 g) ∧ W.cell? ⟨w3.heap.size + 1, 5, none⟩ = some (.int .i64 sl) ∧ W.cell? ⟨w3.heap.size + 1, 6, none⟩ = some (.slice A n c) ∧ W.cell? ⟨w3.heap.size + 1, 7, none⟩ = some (.int .i64 cc) ∧ W.cell? ⟨w3.heap.size + 1, 8, none⟩ = some (.int .i64 v) ∧ W.cell? ⟨w3.heap.size + 1, 9, none⟩ = some (.int .i64 l) ∧ W.cell? ⟨w3.heap.size + 1, 10, none⟩ = some (.string t) ∧ Below w'.heap.size w' W) (first | (refine keep12 (eK3.1 0) K4 ?_; (repeat (with_reducible first | exact Below.refl _ _ | apply bl_alloc | apply bl_drew | apply bl_drewN | (refine bl_set ?_ (by omega)) | (refine bl_step ?_ (by assumption)) | fail)); done) | fail) (first | (go_at_call 137; with_reducible refine (dc.out _).mono ?_; rintro e wq ⟨rfl, rfl⟩) | (go_at_call 190; (with_reducible refine (mc.out _ zq1).mono ?_); rintro e w7 ⟨⟨A7, n7, c7, rfl, h7, HO7⟩, hb⟩; obtain ⟨hcc, hff, hll, hnn, hnm⟩ := keep hb; have HO7 := HO7.top; have hz7 : w'.heap.size ≤ w7.heap.size := (by first | exact hb.size | exact Nat.le_trans (Nat.le_of_lt hlt9) hb.size)) | fail)
    all_goals (go_wp2_with fail; go_meet)
    · exact way7_new HB h38 K0 K1 K2 h7 hb HO7
    all_goals with_reducible exact way7_old HB h38 K0 K1 K2 h7 hb HO7
  case rest =>
    obtain ⟨g5, A7, n7, c7, rfl, hg5, h7, BK5, BK0, BK1, BK2, BO, BB⟩ := hcut
    have K5 := BK5.out
    have K0 := BK0.out
    have K1 := BK1.out
    have K2 := BK2.out
    have HO := BO.out
    have HBc := BB.out
    clear BK5 BK0 BK1 BK2 BO BB HB hb hzB mm dm gs al ft dc mc hq
    (try clear K3 K4 cK0_0 cK0_1 cK0_2 cK0_3 cK0_4 cK0_5 fK0 lK0 nK0 mK0 cK1_0 cK1_1 cK1_2 cK1_3 cK1_4 cK1_5 fK1 lK1 nK1 mK1 cK2_0 cK2_1 cK2_2 fK2 lK2 nK2 mK2)
    (try clear cK3_0 cK3_1 cK3_2 fK3 lK3 nK3 mK3 cK4_0 cK4_1 cK4_2 cK4_3 cK4_4 cK4_5 cK4_6 cK4_7 cK4_8 cK4_9 cK4_10 fK4 lK4 nK4 mK4)
    have HB := HBc
    clear HBc
    obtain ⟨cK0_0, cK0_1, cK0_2, cK0_3, cK0_4, cK0_5, fK0, lK0, nK0, mK0⟩ := Blk.all6 K0
    obtain ⟨cK1_0, cK1_1, cK1_2, cK1_3, cK1_4, cK1_5, fK1, lK1, nK1, mK1⟩ := Blk.all6 K1
    obtain ⟨cK2_0, cK2_1, cK2_2, fK2, lK2, nK2, mK2⟩ := Blk.all3 K2
    obtain ⟨cK5_0, cK5_1, cK5_2, cK5_3, cK5_4, cK5_5, cK5_6, fK5, lK5, nK5, mK5⟩ := Blk.all7 K5
    have lc9 : g5 < wc.drew.heap.size := lK5
    have z1 : g5 ≠ w.heap.size + 1 := by omega
    have z2 : g5 ≠ w.heap.size + 2 := by omega
    have z3 : w.heap.size + 1 ≠ g5 := by omega
    have z4 : w.heap.size + 2 ≠ g5 := by omega
    by_cases hd7 : ds = 7
    · by_cases hs7 : s = 7
      · have q0 : fb = false := by rw [hfb]; simp [hd7, hs7]
        have q1 : (ds == 7) = true := by simpa using hd7
        have q2 : (s != 7) = false := by simp [hs7]
        clear hd7 hs7 hfb
        go_upto_region 11 with fail
        have HC : wc.cell? ⟨g5, 0, none⟩ = some (.int .i64 ds) ∧ wc.cell? ⟨g5, 1, none⟩ = some (.int .i64 dst) ∧ wc.cell? ⟨g5, 2, none⟩ = some (.int .i64 dnx) ∧ wc.cell? ⟨g5, 3, none⟩ = some (.int .i64 dg) ∧ wc.cell? ⟨g5, 4, none⟩ = some (.int .i64 dsl) ∧ wc.cell? ⟨g5, 5, none⟩ = some (.slice A7 n7 c7) ∧ wc.cell? ⟨g5, 6, none⟩ = some (.string T) := ⟨cK5_0, cK5_1, cK5_2, cK5_3, cK5_4, cK5_5, cK5_6⟩
        go_region_held3 (fun W => W.cell? ⟨g5, 0, none⟩ = some (.int .i64 ds) ∧ W.cell? ⟨g5, 1, none⟩ = some (.int .i64 dst) ∧ W.cell? ⟨g5, 2, none⟩ = some (.int .i64 dnx) ∧ W.cell? ⟨g5, 3, none⟩ = some (.int .i64 dg) ∧ W.cell? ⟨g5, 4, none⟩ = some (.int .i64 dsl) ∧ W.cell? ⟨g5, 5, none⟩ = some (.slice A7 n7 c7) ∧ W.cell? ⟨g5, 6, none⟩ = some (.string T)) (first | ((repeat (with_reducible first | exact HC | (refine drew7 ?_) | (refine far7 rfl (by assumption) ?_) | fail)); done) | fail) (fail)
        all_goals (go_wp2_with fail; refine body_gen (g1 := w.heap.size + 1) (cs1 := #[.int .i64 ds, .int .i64 dst, .int .i64 dnx, .int .i64 dg, .int .i64 dsl, .slice A7 n7 c7]) (t1 := 28) (g2 := w.heap.size + 2) (cs2 := #[.bool false, .bool false, .string T]) (t2 := 107) (b := w.heap.size) (A := A7) (xs := dx) (w := w) zq24 zq25 zq40 zq1 ?_; intro wf L1 L2 HOf HBf; obtain ⟨e0, e1, e2, e3, e4, e5, _⟩ := Blk.all6 L1; obtain ⟨e6, e7, e8, _⟩ := Blk.all3 L2; exact bodyPost_ret (v := .tuple #[.agg #[.int .i64 ds, .int .i64 dst, .int .i64 dnx, .int .i64 dg, .int .i64 dsl, .slice A7 n7 c7], .agg #[.bool false, .bool false, .string T], .int .i64 0]) (by simp [results, Tryz.results70, go_sem, e0, e1, e2, e3, e4, e5, e6, e7, e8]) rfl (by rw [q0]; exact ⟨⟨A7, n7, c7, rfl, h7, HOf⟩, HBf⟩))
      · have q0 : fb = true := by rw [hfb]; simp [hd7, hs7]
        have q1 : (ds == 7) = true := by simpa using hd7
        have q2 : (s != 7) = true := by simpa using hs7
        clear hd7 hs7 hfb
        go_upto_region 10 with fail
        have HC : wc.cell? ⟨g5, 0, none⟩ = some (.int .i64 ds) ∧ wc.cell? ⟨g5, 1, none⟩ = some (.int .i64 dst) ∧ wc.cell? ⟨g5, 2, none⟩ = some (.int .i64 dnx) ∧ wc.cell? ⟨g5, 3, none⟩ = some (.int .i64 dg) ∧ wc.cell? ⟨g5, 4, none⟩ = some (.int .i64 dsl) ∧ wc.cell? ⟨g5, 5, none⟩ = some (.slice A7 n7 c7) ∧ wc.cell? ⟨g5, 6, none⟩ = some (.string T) := ⟨cK5_0, cK5_1, cK5_2, cK5_3, cK5_4, cK5_5, cK5_6⟩
        go_region_held3 (fun W => W.cell? ⟨g5, 0, none⟩ = some (.int .i64 ds) ∧ W.cell? ⟨g5, 1, none⟩ = some (.int .i64 dst) ∧ W.cell? ⟨g5, 2, none⟩ = some (.int .i64 dnx) ∧ W.cell? ⟨g5, 3, none⟩ = some (.int .i64 dg) ∧ W.cell? ⟨g5, 4, none⟩ = some (.int .i64 dsl) ∧ W.cell? ⟨g5, 5, none⟩ = some (.slice A7 n7 c7) ∧ W.cell? ⟨g5, 6, none⟩ = some (.string T)) (first | ((repeat (with_reducible first | exact HC | (refine drew7 ?_) | (refine far7 rfl (by assumption) ?_) | (refine bel7 hb (by first | assumption | exact lc9) ?_) | fail)); done) | fail) (first | (go_at_call 136; with_reducible refine (stalls_c _).mono ?_; rintro e w9 ⟨rfl, hb⟩; have HO := Own.below (base := w.heap.size + 3) (A := A7) (xs := dx) zq60 hb; have HB := bl_step (w := w) zq0 hb; have hzB := HB.size; have K1 := Blk.on zq6 zq9 hb; (try clear eK1); have eK1 := Blk.ev K1; have K2 := Blk.on zq15 zq21 hb; (try clear eK2); have eK2 := Blk.ev K2; have K5 := Blk.on zq36 zq56 hb; (try clear eK5); have eK5 := Blk.ev K5) | fail)
        all_goals (go_wp2_with fail; refine body_gen (g1 := w.heap.size + 1) (cs1 := #[.int .i64 ds, .int .i64 dst, .int .i64 dnx, .int .i64 dg, .int .i64 dsl, .slice A7 n7 c7]) (t1 := 28) (g2 := w.heap.size + 2) (cs2 := #[.bool false, .bool true, .string ⟨#[]⟩]) (t2 := 107) (b := w.heap.size) (A := A7) (xs := dx) (w := w) zq24 zq25 zq40 zq1 ?_; intro wf L1 L2 HOf HBf; obtain ⟨e0, e1, e2, e3, e4, e5, _⟩ := Blk.all6 L1; obtain ⟨e6, e7, e8, _⟩ := Blk.all3 L2; exact bodyPost_ret (v := .tuple #[.agg #[.int .i64 ds, .int .i64 dst, .int .i64 dnx, .int .i64 dg, .int .i64 dsl, .slice A7 n7 c7], .agg #[.bool false, .bool true, .string ⟨#[]⟩], .int .i64 0]) (by simp [results, Tryz.results70, go_sem, e0, e1, e2, e3, e4, e5, e6, e7, e8]) rfl (by rw [q0]; exact ⟨⟨A7, n7, c7, rfl, h7, HOf⟩, HBf⟩))
    · have q0 : fb = false := by rw [hfb]; simp [hd7]
      have q1 : (ds == 7) = false := by simpa using hd7
      clear hd7 hfb
      go_upto_region 11 with fail
      have HC : wc.cell? ⟨g5, 0, none⟩ = some (.int .i64 ds) ∧ wc.cell? ⟨g5, 1, none⟩ = some (.int .i64 dst) ∧ wc.cell? ⟨g5, 2, none⟩ = some (.int .i64 dnx) ∧ wc.cell? ⟨g5, 3, none⟩ = some (.int .i64 dg) ∧ wc.cell? ⟨g5, 4, none⟩ = some (.int .i64 dsl) ∧ wc.cell? ⟨g5, 5, none⟩ = some (.slice A7 n7 c7) ∧ wc.cell? ⟨g5, 6, none⟩ = some (.string T) := ⟨cK5_0, cK5_1, cK5_2, cK5_3, cK5_4, cK5_5, cK5_6⟩
      go_region_held3 (fun W => W.cell? ⟨g5, 0, none⟩ = some (.int .i64 ds) ∧ W.cell? ⟨g5, 1, none⟩ = some (.int .i64 dst) ∧ W.cell? ⟨g5, 2, none⟩ = some (.int .i64 dnx) ∧ W.cell? ⟨g5, 3, none⟩ = some (.int .i64 dg) ∧ W.cell? ⟨g5, 4, none⟩ = some (.int .i64 dsl) ∧ W.cell? ⟨g5, 5, none⟩ = some (.slice A7 n7 c7) ∧ W.cell? ⟨g5, 6, none⟩ = some (.string T)) (first | ((repeat (with_reducible first | exact HC | (refine drew7 ?_) | (refine far7 rfl (by assumption) ?_) | fail)); done) | fail) (fail)
      all_goals (go_wp2_with fail; refine body_gen (g1 := w.heap.size + 1) (cs1 := #[.int .i64 ds, .int .i64 dst, .int .i64 dnx, .int .i64 dg, .int .i64 dsl, .slice A7 n7 c7]) (t1 := 28) (g2 := w.heap.size + 2) (cs2 := #[.bool false, .bool false, .string T]) (t2 := 107) (b := w.heap.size) (A := A7) (xs := dx) (w := w) zq24 zq25 zq40 zq1 ?_; intro wf L1 L2 HOf HBf; obtain ⟨e0, e1, e2, e3, e4, e5, _⟩ := Blk.all6 L1; obtain ⟨e6, e7, e8, _⟩ := Blk.all3 L2; exact bodyPost_ret (v := .tuple #[.agg #[.int .i64 ds, .int .i64 dst, .int .i64 dnx, .int .i64 dg, .int .i64 dsl, .slice A7 n7 c7], .agg #[.bool false, .bool false, .string T], .int .i64 0]) (by simp [results, Tryz.results70, go_sem, e0, e1, e2, e3, e4, e5, e6, e7, e8]) rfl (by rw [q0]; exact ⟨⟨A7, n7, c7, rfl, h7, HOf⟩, HBf⟩))
theorem hand_no {f : ByteArray} {d : DS} {a t : ByteArray} (h : handOk d a t = false) : handD f d a t = DS.fail 6 ∧ handS f d a t = true ∧ handT f d a t = ⟨#[]⟩ := by simp [handD, handS, handT, h]
theorem hand_yes {f : ByteArray} {d : DS} {a t : ByteArray} (h : handOk d a t = true) : handD f d a t = doneD f d a t ∧ handS f d a t = failB d (doneD f d a t) ∧ handT f d a t = (bif failB d (doneD f d a t) then ⟨#[]⟩ else doesT f d (setC a) (setV a) (setL a)) := by simp [handD, handS, handT, h]
theorem handle_c (f : ByteArray) (d : DS) (a t : ByteArray) (A : Option Addr) (c n : Nat) (w : World) (hl : Row w A d.ops) (hn : d.ops.length = n) (hb : bothB f d = true) :
    Calls Tryz.prog 70 #[.string f, (.agg #[.int .i64 d.st, .int .i64 d.su, .int .i64 d.nx, .int .i64 d.go, .int .i64 d.sl, .slice A n c]), .string a, .string t] w (Hands w (handD f d a t) (handS f d a t) (handT f d a t) 0) := by
  cases hok : handOk d a t
  · rw [(hand_no hok).1, (hand_no hok).2.1, (hand_no hok).2.2]
    cases hg : Su.gotS a
    · exact handle_n f d a t A c n w hl hn hb hg
    · exact handle_x f d a t A c n w hl hn hb hg (by simpa [handOk, hg] using hok)
  · rw [(hand_yes hok).1, (hand_yes hok).2.1, (hand_yes hok).2.2]
    by_cases h1 : setC a = 1
    · exact handle_y1 f d a t A c n w hl hn hb hok h1
    · by_cases h2 : setC a = 2
      · exact handle_y2 f d a t A c n w hl hn hb hok h2
      · by_cases h3 : setC a = 3
        · exact handle_y3 f d a t A c n w hl hn hb hok h3
        · by_cases h5 : setC a = 5
          · exact handle_y5 f d a t A c n w hl hn hb hok h5
          · exact handle_y0 f d a t A c n w hl hn hb hok h1 h2 h3 h5
end Go.Proofs.YtccblleobcidfaaGreat.Dv
